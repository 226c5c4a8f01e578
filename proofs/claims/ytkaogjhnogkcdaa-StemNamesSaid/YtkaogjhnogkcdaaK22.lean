/- The law StemNames (walk): the examples, and errors. -/
import Derived.Test.YtkaogjhnogkcdaaK21
import Derived.Test.YtkaogjhnogkcdaaK17
import Derived.Test.YtkaogjhnogkcdaaK18
import Derived.Test.YtkaogjhnogkcdaaK1
import Derived.Test.YtkaogjhnogkcdaaK20
set_option linter.unusedVariables false
set_option linter.unusedSimpArgs false
set_option linter.unusedSectionVars false
section
namespace Go.Proofs.Ytkaogjhnogkcdaa
open Go.RowKit
attribute [local go_sem] Ex.cell? Ex.frozen?

theorem nm_rdinfo : (Try.prog.info? 37).map (fun i => (i.zero, i.size, i.bytes)) = some (some (.agg #[.int .i64 0, .int .i64 0, .int .i64 0, .int .i64 0, .int .i64 0, .int .i64 0, .int .i64 0, .int .i64 0, .int .i64 0, .bool false]), 10, 80) := by kernel_rfl
theorem nm_bdinfo : (Try.prog.info? 63).map (fun i => (i.zero, i.size, i.bytes)) = some (some (.agg #[.int .i64 0, .int .i64 0, .int .i64 0]), 3, 24) := by kernel_rfl
theorem run_make6 : ∃ oc : Array Value, (∀ k, k < 60 → oc[k]? = some (if k % 10 = 9 then .bool false else .int .i64 0)) ∧ ∀ W : World, (Instr.makeSlice 49 (.int .i64 6) (.int .i64 6)).run Try.prog W = .ok (.slice (some ⟨W.heap.size, 0, none⟩) 6 6) (W.alloc (.cells oc 37)) := by
  obtain ⟨i0, hi0, hz0, hz1, hz2⟩ := info_parts nm_rdinfo
  refine ⟨_, ?_, fun W => by
    have := run_makeSlice (P := Try.prog) (w := W) 49 37 i0 _ Try.underlying49 hi0 hz0 .i64 .i64 6 6 (by omega) (by omega) (by rw [hz1]; decide) (by rw [hz2]; decide) (by decide)
    rw [hz1] at this
    exact this⟩
  intro k hk
  have : k % 10 = 0 ∨ k % 10 = 1 ∨ k % 10 = 2 ∨ k % 10 = 3 ∨ k % 10 = 4 ∨ k % 10 = 5 ∨ k % 10 = 6 ∨ k % 10 = 7 ∨ k % 10 = 8 ∨ k % 10 = 9 := by omega
  simp only [madeCells]
  rcases this with h | h | h | h | h | h | h | h | h | h
  · simp [hk]
    show (#[Value.int .i64 0, .int .i64 0, .int .i64 0, .int .i64 0, .int .i64 0, .int .i64 0, .int .i64 0, .int .i64 0, .int .i64 0, .bool false] : Array Value)[k % 10]! = _
    rw [h]; rfl
  · simp [hk]
    show (#[Value.int .i64 0, .int .i64 0, .int .i64 0, .int .i64 0, .int .i64 0, .int .i64 0, .int .i64 0, .int .i64 0, .int .i64 0, .bool false] : Array Value)[k % 10]! = _
    rw [h]; rfl
  · simp [hk]
    show (#[Value.int .i64 0, .int .i64 0, .int .i64 0, .int .i64 0, .int .i64 0, .int .i64 0, .int .i64 0, .int .i64 0, .int .i64 0, .bool false] : Array Value)[k % 10]! = _
    rw [h]; rfl
  · simp [hk]
    show (#[Value.int .i64 0, .int .i64 0, .int .i64 0, .int .i64 0, .int .i64 0, .int .i64 0, .int .i64 0, .int .i64 0, .int .i64 0, .bool false] : Array Value)[k % 10]! = _
    rw [h]; rfl
  · simp [hk]
    show (#[Value.int .i64 0, .int .i64 0, .int .i64 0, .int .i64 0, .int .i64 0, .int .i64 0, .int .i64 0, .int .i64 0, .int .i64 0, .bool false] : Array Value)[k % 10]! = _
    rw [h]; rfl
  · simp [hk]
    show (#[Value.int .i64 0, .int .i64 0, .int .i64 0, .int .i64 0, .int .i64 0, .int .i64 0, .int .i64 0, .int .i64 0, .int .i64 0, .bool false] : Array Value)[k % 10]! = _
    rw [h]; rfl
  · simp [hk]
    show (#[Value.int .i64 0, .int .i64 0, .int .i64 0, .int .i64 0, .int .i64 0, .int .i64 0, .int .i64 0, .int .i64 0, .int .i64 0, .bool false] : Array Value)[k % 10]! = _
    rw [h]; rfl
  · simp [hk]
    show (#[Value.int .i64 0, .int .i64 0, .int .i64 0, .int .i64 0, .int .i64 0, .int .i64 0, .int .i64 0, .int .i64 0, .int .i64 0, .bool false] : Array Value)[k % 10]! = _
    rw [h]; rfl
  · simp [hk]
    show (#[Value.int .i64 0, .int .i64 0, .int .i64 0, .int .i64 0, .int .i64 0, .int .i64 0, .int .i64 0, .int .i64 0, .int .i64 0, .bool false] : Array Value)[k % 10]! = _
    rw [h]; rfl
  · simp [hk]
    show (#[Value.int .i64 0, .int .i64 0, .int .i64 0, .int .i64 0, .int .i64 0, .int .i64 0, .int .i64 0, .int .i64 0, .int .i64 0, .bool false] : Array Value)[k % 10]! = _
    rw [h]; rfl
theorem run_make4b : ∃ oc : Array Value, (∀ k, k < 12 → oc[k]? = some (.int .i64 0)) ∧ ∀ W : World, (Instr.makeSlice 27 (.int .i64 4) (.int .i64 4)).run Try.prog W = .ok (.slice (some ⟨W.heap.size, 0, none⟩) 4 4) (W.alloc (.cells oc 63)) := by
  obtain ⟨i0, hi0, hz0, hz1, hz2⟩ := info_parts nm_bdinfo
  refine ⟨_, ?_, fun W => by
    have := run_makeSlice (P := Try.prog) (w := W) 27 63 i0 _ Try.underlying27 hi0 hz0 .i64 .i64 4 4 (by omega) (by omega) (by rw [hz1]; decide) (by rw [hz2]; decide) (by decide)
    rw [hz1] at this
    exact this⟩
  intro k hk
  have : k % 3 = 0 ∨ k % 3 = 1 ∨ k % 3 = 2 := by omega
  simp only [madeCells]
  rcases this with h | h | h
  · simp [hk]
    show (#[Value.int .i64 0, .int .i64 0, .int .i64 0] : Array Value)[k % 3]! = _
    rw [h]; rfl
  · simp [hk]
    show (#[Value.int .i64 0, .int .i64 0, .int .i64 0] : Array Value)[k % 3]! = _
    rw [h]; rfl
  · simp [hk]
    show (#[Value.int .i64 0, .int .i64 0, .int .i64 0] : Array Value)[k % 3]! = _
    rw [h]; rfl
theorem zer6 {oc : Array Value} (hoc : ∀ k, k < 60 → oc[k]? = some (if k % 10 = 9 then .bool false else .int .i64 0)) {w : World} {p : Nat} (h : Blk w p 37 oc) : SlAt w w.heap.size 10 (some ⟨p, 0, none⟩) 6 (fE [nmZero, nmZero, nmZero, nmZero, nmZero, nmZero]) := fun _ => ⟨p, 0, rfl, h.lt, fun k j hk hj => by
  rw [cell_of_row _ _ _ _ _ _ h, hoc _ (by omega)]
  have e : gE [nmZero, nmZero, nmZero, nmZero, nmZero, nmZero] k = nmZero := by
    match k, hk with
    | 0, _ => rfl
    | 1, _ => rfl
    | 2, _ => rfl
    | 3, _ => rfl
    | 4, _ => rfl
    | 5, _ => rfl
  unfold fE
  rw [e]
  match j, hj with
  | 0, _ => rw [if_neg (by omega)]; rfl
  | 1, _ => rw [if_neg (by omega)]; rfl
  | 2, _ => rw [if_neg (by omega)]; rfl
  | 3, _ => rw [if_neg (by omega)]; rfl
  | 4, _ => rw [if_neg (by omega)]; rfl
  | 5, _ => rw [if_neg (by omega)]; rfl
  | 6, _ => rw [if_neg (by omega)]; rfl
  | 7, _ => rw [if_neg (by omega)]; rfl
  | 8, _ => rw [if_neg (by omega)]; rfl
  | 9, _ => rw [if_pos (by omega)]; rfl⟩
theorem zer4b {oc : Array Value} (hoc : ∀ k, k < 12 → oc[k]? = some (.int .i64 0)) {w : World} {p : Nat} (h : Blk w p 63 oc) : SlAt w w.heap.size 3 (some ⟨p, 0, none⟩) 4 (fB nmBad.g.bands) := fun _ => ⟨p, 0, rfl, h.lt, fun k j hk hj => by
  rw [cell_of_row _ _ _ _ _ _ h, hoc _ (by omega)]
  match k, hk, j, hj with
  | 0, _, 0, _ => rfl
  | 0, _, 1, _ => rfl
  | 0, _, 2, _ => rfl
  | 1, _, 0, _ => rfl
  | 1, _, 1, _ => rfl
  | 1, _, 2, _ => rfl
  | 2, _, 0, _ => rfl
  | 2, _, 1, _ => rfl
  | 2, _, 2, _ => rfl
  | 3, _, 0, _ => rfl
  | 3, _, 1, _ => rfl
  | 3, _, 2, _ => rfl⟩
set_option maxRecDepth 100000 in
set_option maxHeartbeats 12800000 in
theorem sl_names (w : World) : Calls Try.prog 3 #[] w fun e w' => e = .returned (.bool true) ∧ Below w.heap.size w w' := by
  have hn : ∀ W : World, SlAt W W.heap.size 3 none ([] : List Ic).length (fC []) := fun W h => absurd h (by simp)
  have hn10 : ∀ W : World, SlAt W W.heap.size 10 none ([] : List Rd).length (fE []) := fun W h => absurd h (by simp)
  have hb0 := Below.refl w.heap.size w
  go_enter Try.func3, Try.ntmps3
  go_wp2_with fail
  refine (sr_rod _).mono ?_
  rintro e V1 ⟨⟨Ab1, Ad1, rfl, hg1⟩, hV1⟩
  have B_V1 := ex_trans hb0 hV1
  go_wp2_with fail
  refine (sr_spring _).mono ?_
  rintro e V2 ⟨⟨A1, rfl, hh1⟩, hV2⟩
  replace hg1 := hg1.go hV2
  have B_V2 := ex_trans B_V1 hV2
  go_wp2_with fail
  refine (sr_shown _).mono ?_
  rintro e V3 ⟨rfl, hV3⟩
  replace hg1 := hg1.go hV3
  replace hh1 := (hh1.below hV3).up hV3.size
  have B_V3 := ex_trans B_V2 hV3
  go_wp2_with fail
  refine (Accept_v rodT Ab1 Ad1 2 2 A1 none 4 0 springH [] shownR 22 _ hg1 hh1 (hn _) (by decide)).mono ?_
  rintro e V4 ⟨⟨R1, ev1, rfl, hc1⟩, hV4⟩
  replace hg1 := hg1.go hV4
  replace hh1 := (hh1.below hV4).up hV4.size
  have B_V4 := ex_trans B_V3 hV4
  obtain ⟨rfl, rfl⟩ := nm_acc22 hc1.out
  clear hc1
  clear hg1
  clear hh1
  have NG := ex_alloc (Below.refl V4.heap.size V4) (.cells #[.int .i64 2021, .int .i64 2043] 23)
  have qa : Blk (V4.alloc (.cells #[.int .i64 2021, .int .i64 2043] 23)) V4.heap.size 23 #[.int .i64 2021, .int .i64 2043] := Blk.new _ _ _
  go_wp2_with fail
  obtain ⟨pa, hpa⟩ : ∃ p, V4.heap.size = p := ⟨_, rfl⟩
  rw [hpa] at qa ⊢
  clear hpa
  have B_V5 := ex_trans B_V4 NG
  clear NG
  generalize V4.alloc (.cells #[.int .i64 2021, .int .i64 2043] 23) = V5 at *
  refine (sr_rod _).mono ?_
  rintro e V6 ⟨⟨Ab2, Ad2, rfl, hg2⟩, hV6⟩
  replace qa := qa.below hV6 qa.lt
  have B_V6 := ex_trans B_V5 hV6
  go_wp2_with fail
  refine (sr_spring _).mono ?_
  rintro e V7 ⟨⟨A2, rfl, hh2⟩, hV7⟩
  replace qa := qa.below hV7 qa.lt
  replace hg2 := hg2.go hV7
  have B_V7 := ex_trans B_V6 hV7
  go_wp2_with fail
  refine (sr_shown _).mono ?_
  rintro e V8 ⟨rfl, hV8⟩
  replace qa := qa.below hV8 qa.lt
  replace hg2 := hg2.go hV8
  replace hh2 := (hh2.below hV8).up hV8.size
  have B_V8 := ex_trans B_V7 hV8
  go_wp2_with fail
  refine (Accept_v rodT Ab2 Ad2 2 2 A2 none 4 0 springH [] shownR 21 _ hg2 hh2 (hn _) (by decide)).mono ?_
  rintro e V9 ⟨⟨R1, ev1, rfl, hc1⟩, hV9⟩
  replace qa := qa.below hV9 qa.lt
  replace hg2 := hg2.go hV9
  replace hh2 := (hh2.below hV9).up hV9.size
  have B_V9 := ex_trans B_V8 hV9
  obtain ⟨rfl, rfl⟩ := nm_acc21 hc1.out
  clear hc1
  clear hg2
  clear hh2
  have NG := ex_alloc (Below.refl V9.heap.size V9) (.cells #[.int .i64 0, .int .i64 0] 23)
  have qz : Blk (V9.alloc (.cells #[.int .i64 0, .int .i64 0] 23)) V9.heap.size 23 #[.int .i64 0, .int .i64 0] := Blk.new _ _ _
  go_wp2_with fail
  obtain ⟨pz, hpz⟩ : ∃ p, V9.heap.size = p := ⟨_, rfl⟩
  try rw [hpz]
  clear hpz
  replace qa := qa.below NG qa.lt
  have B_V10 := ex_trans B_V9 NG
  clear NG qz
  generalize V9.alloc (.cells #[.int .i64 0, .int .i64 0] 23) = V10 at *
  refine (sr_rod _).mono ?_
  rintro e V11 ⟨⟨Ab3, Ad3, rfl, hg3⟩, hV11⟩
  replace qa := qa.below hV11 qa.lt
  have B_V11 := ex_trans B_V10 hV11
  go_wp2_with fail
  refine (IceOf_v rodT Ab3 Ad3 2 2 nmIce _ hg3).mono ?_
  rintro e V12 ⟨rfl, hV12⟩
  replace qa := qa.below hV12 qa.lt
  replace hg3 := hg3.go hV12
  have B_V12 := ex_trans B_V11 hV12
  rw [nm_ice.1, nm_ice.2.1, nm_ice.2.2.1, nm_ice.2.2.2]
  clear hg3
  have NG := ex_alloc (Below.refl V12.heap.size V12) (.cells #[.int .i64 2, .int .i64 (-3), .int .i64 1] 40)
  have qi : Blk (V12.alloc (.cells #[.int .i64 2, .int .i64 (-3), .int .i64 1] 40)) V12.heap.size 40 #[.int .i64 2, .int .i64 (-3), .int .i64 1] := Blk.new _ _ _
  go_wp2_with fail
  obtain ⟨pi, hpi⟩ : ∃ p, V12.heap.size = p := ⟨_, rfl⟩
  rw [hpi] at qi ⊢
  clear hpi
  replace qa := qa.below NG qa.lt
  have B_V13 := ex_trans B_V12 NG
  clear NG
  generalize V12.alloc (.cells #[.int .i64 2, .int .i64 (-3), .int .i64 1] 40) = V13 at *
  have x0 := qa.cell 0
  have x1 := qa.cell 1
  have lx := qa.lt
  have y0 := qi.cell 0
  have y1 := qi.cell 1
  have y2 := qi.cell 2
  have ly := qi.lt
  simp at x0 x1 y0 y1 y2
  refine wp_region_ext (by kernel_rfl) (by kernel_rfl) ?_
  repeat (go_big_quiet_step ((go_at_call 9; exact Calls.ext_of (sr_between _ _ _))))
  refine wpQuiet_nil ?_; intro _ hw'; obtain ⟨X, rfl⟩ := hw'
  clear qa
  clear qi
  clear x0 x1 lx y0 y1 y2 ly
  have B_V14 := ex_trans B_V13 X.h
  generalize X.W = V14 at *
  go_wp2_with fail
  refine (sr_shown _).mono ?_
  rintro e V15 ⟨rfl, hV15⟩
  have B_V15 := ex_trans B_V14 hV15
  go_wp2_with fail
  refine (sr_shown _).mono ?_
  rintro e V16 ⟨rfl, hV16⟩
  have B_V16 := ex_trans B_V15 hV16
  go_wp2_with fail
  refine (sr_shown _).mono ?_
  rintro e V17 ⟨rfl, hV17⟩
  have B_V17 := ex_trans B_V16 hV17
  go_wp2_with fail
  refine (sr_shown _).mono ?_
  rintro e V18 ⟨rfl, hV18⟩
  have B_V18 := ex_trans B_V17 hV18
  go_upto_region 11 with fail
  show Code.wp _ _ _ _ _
  refine box4 (K := fun V => Code.wp _ _ _ _ V) ?_
  intro V19 hbx qb ql qf qo
  obtain ⟨pb, hpb⟩ : ∃ p, V18.heap.size = p := ⟨_, rfl⟩
  obtain ⟨pl, hpl⟩ : ∃ p, V18.heap.size + 1 = p := ⟨_, rfl⟩
  obtain ⟨pf, hpf⟩ : ∃ p, V18.heap.size + 1 + 1 = p := ⟨_, rfl⟩
  obtain ⟨po, hpo⟩ : ∃ p, V18.heap.size + 1 + 1 + 1 = p := ⟨_, rfl⟩
  rw [hpo] at qo ⊢
  rw [hpf] at qf ⊢
  rw [hpl] at ql ⊢
  rw [hpb] at qb ⊢
  clear hpb hpl hpf hpo
  have B_V19 := ex_trans B_V18 hbx
  rename_i K0 hK0
  have hrest : ∀ (V20 : World) (R1 : Rg) (ev1 : Int) (a : Act), Below V19.heap.size V19 V20 → Hid (CorV rodT springH [] nmBroken R1 ev1) → (∃ u : Nat → Value, a = ⟨List.toArray (u 0 :: u 1 :: .int .i64 ev1 :: u 3 :: u 4 :: u 5 :: u 6 :: .pointer (some ⟨pb, 0, none⟩) :: .pointer (some ⟨pl, 0, none⟩) :: .pointer (some ⟨pf, 0, none⟩) :: .pointer (some ⟨po, 0, none⟩) :: u 11 :: u 12 :: u 13 :: u 14 :: u 15 :: u 16 :: u 17 :: u 18 :: u 19 :: u 20 :: u 21 :: u 22 :: u 23 :: u 24 :: u 25 :: u 26 :: u 27 :: u 28 :: u 29 :: u 30 :: u 31 :: u 32 :: u 33 :: u 34 :: u 35 :: u 36 :: u 37 :: u 38 :: u 39 :: u 40 :: u 41 :: u 42 :: u 43 :: u 44 :: u 45 :: u 46 :: u 47 :: u 48 :: u 49 :: u 50 :: u 51 :: u 52 :: u 53 :: u 54 :: u 55 :: u 56 :: u 57 :: u 58 :: u 59 :: u 60 :: u 61 :: u 62 :: u 63 :: u 64 :: u 65 :: u 66 :: u 67 :: u 68 :: u 69 :: u 70 :: u 71 :: u 72 :: u 73 :: u 74 :: u 75 :: u 76 :: u 77 :: u 78 :: u 79 :: u 80 :: u 81 :: u 82 :: u 83 :: u 84 :: u 85 :: u 86 :: u 87 :: u 88 :: u 89 :: u 90 :: u 91 :: u 92 :: u 93 :: u 94 :: u 95 :: u 96 :: u 97 :: u 98 :: u 99 :: u 100 :: u 101 :: u 102 :: u 103 :: u 104 :: u 105 :: u 106 :: u 107 :: u 108 :: u 109 :: u 110 :: u 111 :: u 112 :: u 113 :: u 114 :: u 115 :: u 116 :: u 117 :: u 118 :: u 119 :: u 120 :: u 121 :: u 122 :: u 123 :: u 124 :: u 125 :: u 126 :: u 127 :: u 128 :: u 129 :: u 130 :: u 131 :: u 132 :: u 133 :: u 134 :: u 135 :: u 136 :: u 137 :: u 138 :: u 139 :: u 140 :: u 141 :: u 142 :: u 143 :: u 144 :: u 145 :: u 146 :: u 147 :: u 148 :: u 149 :: u 150 :: u 151 :: u 152 :: u 153 :: u 154 :: u 155 :: u 156 :: u 157 :: u 158 :: u 159 :: u 160 :: u 161 :: u 162 :: u 163 :: u 164 :: u 165 :: u 166 :: u 167 :: u 168 :: u 169 :: u 170 :: u 171 :: u 172 :: u 173 :: u 174 :: u 175 :: u 176 :: u 177 :: u 178 :: u 179 :: u 180 :: u 181 :: u 182 :: u 183 :: u 184 :: u 185 :: u 186 :: u 187 :: u 188 :: u 189 :: u 190 :: u 191 :: u 192 :: u 193 :: u 194 :: u 195 :: u 196 :: u 197 :: u 198 :: u 199 :: u 200 :: u 201 :: u 202 :: u 203 :: u 204 :: u 205 :: u 206 :: u 207 :: u 208 :: u 209 :: u 210 :: u 211 :: u 212 :: u 213 :: u 214 :: u 215 :: u 216 :: u 217 :: u 218 :: u 219 :: u 220 :: u 221 :: u 222 :: u 223 :: u 224 :: u 225 :: u 226 :: u 227 :: u 228 :: u 229 :: u 230 :: u 231 :: u 232 :: u 233 :: u 234 :: u 235 :: u 236 :: u 237 :: u 238 :: u 239 :: u 240 :: u 241 :: u 242 :: u 243 :: u 244 :: u 245 :: u 246 :: u 247 :: u 248 :: u 249 :: u 250 :: u 251 :: u 252 :: u 253 :: u 254 :: u 255 :: u 256 :: u 257 :: u 258 :: u 259 :: u 260 :: u 261 :: u 262 :: u 263 :: u 264 :: u 265 :: []), []⟩) → K0 a V20 := by
    rintro V20 R1 ev1 a hX9  hc1 ⟨u, rfl⟩
    refine hK0 _ _ ?_
    clear hK0 K0
    replace qb := qb.below hX9 qb.lt
    replace ql := ql.below hX9 ql.lt
    replace qf := qf.below hX9 qf.lt
    replace qo := qo.below hX9 qo.lt
    have B_V20 := ex_trans B_V19 hX9
    obtain ⟨rfl, rfl⟩ := nm_broken hc1.out
    clear hc1
    go_upto_region 12 with fail
    rename_i K0 hK0
    have hrest : ∀ (V21 : World) (R1 : Rg) (ev1 : Int) (a : Act), Below V20.heap.size V20 V21 → Hid (CorV rodT springH [] nmLate R1 ev1) → (∃ u : Nat → Value, a = ⟨List.toArray (u 0 :: u 1 :: .int .i64 8 :: u 3 :: .int .i64 ev1 :: u 5 :: u 6 :: .pointer (some ⟨pb, 0, none⟩) :: .pointer (some ⟨pl, 0, none⟩) :: .pointer (some ⟨pf, 0, none⟩) :: .pointer (some ⟨po, 0, none⟩) :: u 11 :: u 12 :: u 13 :: u 14 :: u 15 :: u 16 :: u 17 :: u 18 :: u 19 :: u 20 :: u 21 :: u 22 :: u 23 :: u 24 :: u 25 :: u 26 :: u 27 :: u 28 :: u 29 :: u 30 :: u 31 :: u 32 :: u 33 :: u 34 :: u 35 :: u 36 :: u 37 :: u 38 :: u 39 :: u 40 :: u 41 :: u 42 :: u 43 :: u 44 :: u 45 :: u 46 :: u 47 :: u 48 :: u 49 :: u 50 :: u 51 :: u 52 :: u 53 :: u 54 :: u 55 :: u 56 :: u 57 :: u 58 :: u 59 :: u 60 :: u 61 :: u 62 :: u 63 :: u 64 :: u 65 :: u 66 :: u 67 :: u 68 :: u 69 :: u 70 :: u 71 :: u 72 :: u 73 :: u 74 :: u 75 :: u 76 :: u 77 :: u 78 :: u 79 :: u 80 :: u 81 :: u 82 :: u 83 :: u 84 :: u 85 :: u 86 :: u 87 :: u 88 :: u 89 :: u 90 :: u 91 :: u 92 :: u 93 :: u 94 :: u 95 :: u 96 :: u 97 :: u 98 :: u 99 :: u 100 :: u 101 :: u 102 :: u 103 :: u 104 :: u 105 :: u 106 :: u 107 :: u 108 :: u 109 :: u 110 :: u 111 :: u 112 :: u 113 :: u 114 :: u 115 :: u 116 :: u 117 :: u 118 :: u 119 :: u 120 :: u 121 :: u 122 :: u 123 :: u 124 :: u 125 :: u 126 :: u 127 :: u 128 :: u 129 :: u 130 :: u 131 :: u 132 :: u 133 :: u 134 :: u 135 :: u 136 :: u 137 :: u 138 :: u 139 :: u 140 :: u 141 :: u 142 :: u 143 :: u 144 :: u 145 :: u 146 :: u 147 :: u 148 :: u 149 :: u 150 :: u 151 :: u 152 :: u 153 :: u 154 :: u 155 :: u 156 :: u 157 :: u 158 :: u 159 :: u 160 :: u 161 :: u 162 :: u 163 :: u 164 :: u 165 :: u 166 :: u 167 :: u 168 :: u 169 :: u 170 :: u 171 :: u 172 :: u 173 :: u 174 :: u 175 :: u 176 :: u 177 :: u 178 :: u 179 :: u 180 :: u 181 :: u 182 :: u 183 :: u 184 :: u 185 :: u 186 :: u 187 :: u 188 :: u 189 :: u 190 :: u 191 :: u 192 :: u 193 :: u 194 :: u 195 :: u 196 :: u 197 :: u 198 :: u 199 :: u 200 :: u 201 :: u 202 :: u 203 :: u 204 :: u 205 :: u 206 :: u 207 :: u 208 :: u 209 :: u 210 :: u 211 :: u 212 :: u 213 :: u 214 :: u 215 :: u 216 :: u 217 :: u 218 :: u 219 :: u 220 :: u 221 :: u 222 :: u 223 :: u 224 :: u 225 :: u 226 :: u 227 :: u 228 :: u 229 :: u 230 :: u 231 :: u 232 :: u 233 :: u 234 :: u 235 :: u 236 :: u 237 :: u 238 :: u 239 :: u 240 :: u 241 :: u 242 :: u 243 :: u 244 :: u 245 :: u 246 :: u 247 :: u 248 :: u 249 :: u 250 :: u 251 :: u 252 :: u 253 :: u 254 :: u 255 :: u 256 :: u 257 :: u 258 :: u 259 :: u 260 :: u 261 :: u 262 :: u 263 :: u 264 :: u 265 :: []), []⟩) → K0 a V21 := by
      rintro V21 R1 ev1 a hX9  hc1 ⟨u, rfl⟩
      refine hK0 _ _ ?_
      clear hK0 K0
      replace qb := qb.below hX9 qb.lt
      replace ql := ql.below hX9 ql.lt
      replace qf := qf.below hX9 qf.lt
      replace qo := qo.below hX9 qo.lt
      have B_V21 := ex_trans B_V20 hX9
      obtain ⟨rfl, rfl⟩ := nm_late hc1.out
      clear hc1
      go_upto_region 13 with fail
      rename_i K0 hK0
      have hrest : ∀ (V22 : World) (R1 : Rg) (ev1 : Int) (a : Act), Below V21.heap.size V21 V22 → Hid (CorV rodT springH [⟨1, -7, 0⟩] nmLate R1 ev1) → (∃ u : Nat → Value, a = ⟨List.toArray (u 0 :: u 1 :: .int .i64 8 :: u 3 :: .int .i64 11 :: u 5 :: .int .i64 ev1 :: .pointer (some ⟨pb, 0, none⟩) :: .pointer (some ⟨pl, 0, none⟩) :: .pointer (some ⟨pf, 0, none⟩) :: .pointer (some ⟨po, 0, none⟩) :: u 11 :: u 12 :: u 13 :: u 14 :: u 15 :: u 16 :: u 17 :: u 18 :: u 19 :: u 20 :: u 21 :: u 22 :: u 23 :: u 24 :: u 25 :: u 26 :: u 27 :: u 28 :: u 29 :: u 30 :: u 31 :: u 32 :: u 33 :: u 34 :: u 35 :: u 36 :: u 37 :: u 38 :: u 39 :: u 40 :: u 41 :: u 42 :: u 43 :: u 44 :: u 45 :: u 46 :: u 47 :: u 48 :: u 49 :: u 50 :: u 51 :: u 52 :: u 53 :: u 54 :: u 55 :: u 56 :: u 57 :: u 58 :: u 59 :: u 60 :: u 61 :: u 62 :: u 63 :: u 64 :: u 65 :: u 66 :: u 67 :: u 68 :: u 69 :: u 70 :: u 71 :: u 72 :: u 73 :: u 74 :: u 75 :: u 76 :: u 77 :: u 78 :: u 79 :: u 80 :: u 81 :: u 82 :: u 83 :: u 84 :: u 85 :: u 86 :: u 87 :: u 88 :: u 89 :: u 90 :: u 91 :: u 92 :: u 93 :: u 94 :: u 95 :: u 96 :: u 97 :: u 98 :: u 99 :: u 100 :: u 101 :: u 102 :: u 103 :: u 104 :: u 105 :: u 106 :: u 107 :: u 108 :: u 109 :: u 110 :: u 111 :: u 112 :: u 113 :: u 114 :: u 115 :: u 116 :: u 117 :: u 118 :: u 119 :: u 120 :: u 121 :: u 122 :: u 123 :: u 124 :: u 125 :: u 126 :: u 127 :: u 128 :: u 129 :: u 130 :: u 131 :: u 132 :: u 133 :: u 134 :: u 135 :: u 136 :: u 137 :: u 138 :: u 139 :: u 140 :: u 141 :: u 142 :: u 143 :: u 144 :: u 145 :: u 146 :: u 147 :: u 148 :: u 149 :: u 150 :: u 151 :: u 152 :: u 153 :: u 154 :: u 155 :: u 156 :: u 157 :: u 158 :: u 159 :: u 160 :: u 161 :: u 162 :: u 163 :: u 164 :: u 165 :: u 166 :: u 167 :: u 168 :: u 169 :: u 170 :: u 171 :: u 172 :: u 173 :: u 174 :: u 175 :: u 176 :: u 177 :: u 178 :: u 179 :: u 180 :: u 181 :: u 182 :: u 183 :: u 184 :: u 185 :: u 186 :: u 187 :: u 188 :: u 189 :: u 190 :: u 191 :: u 192 :: u 193 :: u 194 :: u 195 :: u 196 :: u 197 :: u 198 :: u 199 :: u 200 :: u 201 :: u 202 :: u 203 :: u 204 :: u 205 :: u 206 :: u 207 :: u 208 :: u 209 :: u 210 :: u 211 :: u 212 :: u 213 :: u 214 :: u 215 :: u 216 :: u 217 :: u 218 :: u 219 :: u 220 :: u 221 :: u 222 :: u 223 :: u 224 :: u 225 :: u 226 :: u 227 :: u 228 :: u 229 :: u 230 :: u 231 :: u 232 :: u 233 :: u 234 :: u 235 :: u 236 :: u 237 :: u 238 :: u 239 :: u 240 :: u 241 :: u 242 :: u 243 :: u 244 :: u 245 :: u 246 :: u 247 :: u 248 :: u 249 :: u 250 :: u 251 :: u 252 :: u 253 :: u 254 :: u 255 :: u 256 :: u 257 :: u 258 :: u 259 :: u 260 :: u 261 :: u 262 :: u 263 :: u 264 :: u 265 :: []), []⟩) → K0 a V22 := by
        rintro V22 R1 ev1 a hX9  hc1 ⟨u, rfl⟩
        refine hK0 _ _ ?_
        clear hK0 K0
        replace qb := qb.below hX9 qb.lt
        replace ql := ql.below hX9 ql.lt
        replace qf := qf.below hX9 qf.lt
        replace qo := qo.below hX9 qo.lt
        have B_V22 := ex_trans B_V21 hX9
        obtain rfl := nm_fresh hc1.out
        clear hc1
        clear ql
        go_wp2_with fail
        refine (sr_rod _).mono ?_
        rintro e V23 ⟨⟨Ab4, Ad4, rfl, hg4⟩, hV23⟩
        replace qb := qb.below hV23 qb.lt
        replace qf := qf.below hV23 qf.lt
        replace qo := qo.below hV23 qo.lt
        have B_V23 := ex_trans B_V22 hV23
        go_wp2_with fail
        refine (sr_spring _).mono ?_
        rintro e V24 ⟨⟨A4, rfl, hh4⟩, hV24⟩
        replace qb := qb.below hV24 qb.lt
        replace qf := qf.below hV24 qf.lt
        replace qo := qo.below hV24 qo.lt
        replace hg4 := hg4.go hV24
        have B_V24 := ex_trans B_V23 hV24
        have NG := ex_alloc (Below.refl V24.heap.size V24) (.cells #[.int .i64 1, .int .i64 7, .int .i64 0] 40)
        have qi : Blk (V24.alloc (.cells #[.int .i64 1, .int .i64 7, .int .i64 0] 40)) V24.heap.size 40 #[.int .i64 1, .int .i64 7, .int .i64 0] := Blk.new _ _ _
        go_wp2_with fail
        obtain ⟨pi, hpi⟩ : ∃ p, V24.heap.size = p := ⟨_, rfl⟩
        rw [hpi] at qi ⊢
        clear hpi
        replace qb := qb.below NG qb.lt
        replace qf := qf.below NG qf.lt
        replace qo := qo.below NG qo.lt
        replace hg4 := hg4.go NG
        replace hh4 := hh4.go NG
        have B_V25 := ex_trans B_V24 NG
        clear NG
        generalize V24.alloc (.cells #[.int .i64 1, .int .i64 7, .int .i64 0] 40) = V25 at *
        refine (sr_shown _).mono ?_
        rintro e V26 ⟨rfl, hV26⟩
        replace qb := qb.below hV26 qb.lt
        replace qf := qf.below hV26 qf.lt
        replace qo := qo.below hV26 qo.lt
        replace hg4 := hg4.go hV26
        replace hh4 := (hh4.below hV26).up hV26.size
        replace qi := qi.below hV26 qi.lt
        have B_V26 := ex_trans B_V25 hV26
        go_wp2_with fail
        refine (Correct_v rodT Ab4 Ad4 2 2 A4 (some ⟨pi, 0, none⟩) 4 1 springH [⟨1, 7, 0⟩] shownR _ hg4 hh4 (one_at qi (ice_row _ _ _)) (by decide)).mono ?_
        rintro e V27 ⟨⟨R1, ev1, rfl, hc1⟩, hV27⟩
        replace qb := qb.below hV27 qb.lt
        replace qf := qf.below hV27 qf.lt
        replace qo := qo.below hV27 qo.lt
        replace hg4 := hg4.go hV27
        replace hh4 := (hh4.below hV27).up hV27.size
        replace qi := qi.below hV27 qi.lt
        have B_V27 := ex_trans B_V26 hV27
        obtain ⟨rfl, rfl⟩ := nm_high hc1.out
        clear hc1
        clear hg4
        clear hh4
        clear qi
        have NG := ex_alloc (Below.refl V27.heap.size V27) (.cells #[.int .i64 0, .int .i64 0] 23)
        have qz : Blk (V27.alloc (.cells #[.int .i64 0, .int .i64 0] 23)) V27.heap.size 23 #[.int .i64 0, .int .i64 0] := Blk.new _ _ _
        go_upto_region 15 with fail
        obtain ⟨pz, hpz⟩ : ∃ p, V27.heap.size = p := ⟨_, rfl⟩
        try rw [hpz]
        clear hpz
        replace qb := qb.below NG qb.lt
        replace qf := qf.below NG qf.lt
        replace qo := qo.below NG qo.lt
        have B_V28 := ex_trans B_V27 NG
        clear NG qz
        generalize V27.alloc (.cells #[.int .i64 0, .int .i64 0] 23) = V28 at *
        rename_i K0 hK0
        have hrest : ∀ (V29 : World) (R1 : Rg) (ev1 : Int) (a : Act), Below V28.heap.size V28 V29 → Hid (CorV rodT springH [] nmFar R1 ev1) → (∃ u : Nat → Value, a = ⟨List.toArray (u 0 :: u 1 :: .int .i64 8 :: u 3 :: .int .i64 11 :: u 5 :: .int .i64 0 :: .pointer (some ⟨pb, 0, none⟩) :: .pointer (some ⟨pl, 0, none⟩) :: .pointer (some ⟨pf, 0, none⟩) :: .pointer (some ⟨po, 0, none⟩) :: u 11 :: .int .i64 9 :: u 13 :: .int .i64 ev1 :: u 15 :: u 16 :: u 17 :: u 18 :: u 19 :: u 20 :: u 21 :: u 22 :: u 23 :: u 24 :: u 25 :: u 26 :: u 27 :: u 28 :: u 29 :: u 30 :: u 31 :: u 32 :: u 33 :: u 34 :: u 35 :: u 36 :: u 37 :: u 38 :: u 39 :: u 40 :: u 41 :: u 42 :: u 43 :: u 44 :: u 45 :: u 46 :: u 47 :: u 48 :: u 49 :: u 50 :: u 51 :: u 52 :: u 53 :: u 54 :: u 55 :: u 56 :: u 57 :: u 58 :: u 59 :: u 60 :: u 61 :: u 62 :: u 63 :: u 64 :: u 65 :: u 66 :: u 67 :: u 68 :: u 69 :: u 70 :: u 71 :: u 72 :: u 73 :: u 74 :: u 75 :: u 76 :: u 77 :: u 78 :: u 79 :: u 80 :: u 81 :: u 82 :: u 83 :: u 84 :: u 85 :: u 86 :: u 87 :: u 88 :: u 89 :: u 90 :: u 91 :: u 92 :: u 93 :: u 94 :: u 95 :: u 96 :: u 97 :: u 98 :: u 99 :: u 100 :: u 101 :: u 102 :: u 103 :: u 104 :: u 105 :: u 106 :: u 107 :: u 108 :: u 109 :: u 110 :: u 111 :: u 112 :: u 113 :: u 114 :: u 115 :: u 116 :: u 117 :: u 118 :: u 119 :: u 120 :: u 121 :: u 122 :: u 123 :: u 124 :: u 125 :: u 126 :: u 127 :: u 128 :: u 129 :: u 130 :: u 131 :: u 132 :: u 133 :: u 134 :: u 135 :: u 136 :: u 137 :: u 138 :: u 139 :: u 140 :: u 141 :: u 142 :: u 143 :: u 144 :: u 145 :: u 146 :: u 147 :: u 148 :: u 149 :: u 150 :: u 151 :: u 152 :: u 153 :: u 154 :: u 155 :: u 156 :: u 157 :: u 158 :: u 159 :: u 160 :: u 161 :: u 162 :: u 163 :: u 164 :: u 165 :: u 166 :: u 167 :: u 168 :: u 169 :: u 170 :: u 171 :: u 172 :: u 173 :: u 174 :: u 175 :: u 176 :: u 177 :: u 178 :: u 179 :: u 180 :: u 181 :: u 182 :: u 183 :: u 184 :: u 185 :: u 186 :: u 187 :: u 188 :: u 189 :: u 190 :: u 191 :: u 192 :: u 193 :: u 194 :: u 195 :: u 196 :: u 197 :: u 198 :: u 199 :: u 200 :: u 201 :: u 202 :: u 203 :: u 204 :: u 205 :: u 206 :: u 207 :: u 208 :: u 209 :: u 210 :: u 211 :: u 212 :: u 213 :: u 214 :: u 215 :: u 216 :: u 217 :: u 218 :: u 219 :: u 220 :: u 221 :: u 222 :: u 223 :: u 224 :: u 225 :: u 226 :: u 227 :: u 228 :: u 229 :: u 230 :: u 231 :: u 232 :: u 233 :: u 234 :: u 235 :: u 236 :: u 237 :: u 238 :: u 239 :: u 240 :: u 241 :: u 242 :: u 243 :: u 244 :: u 245 :: u 246 :: u 247 :: u 248 :: u 249 :: u 250 :: u 251 :: u 252 :: u 253 :: u 254 :: u 255 :: u 256 :: u 257 :: u 258 :: u 259 :: u 260 :: u 261 :: u 262 :: u 263 :: u 264 :: u 265 :: []), []⟩) → K0 a V29 := by
          rintro V29 R1 ev1 a hX9  hc1 ⟨u, rfl⟩
          refine hK0 _ _ ?_
          clear hK0 K0
          replace qb := qb.below hX9 qb.lt
          replace qf := qf.below hX9 qf.lt
          replace qo := qo.below hX9 qo.lt
          have B_V29 := ex_trans B_V28 hX9
          obtain ⟨rfl, rfl⟩ := nm_far hc1.out
          clear hc1
          clear qf
          go_upto_region 16 with fail
          rename_i K0 hK0
          have hrest : ∀ (V30 : World) (R1 : Rg) (ev1 : Int) (a : Act), Below V29.heap.size V29 V30 → Hid (CorV rodT springH [] nmOut R1 ev1) → (∃ u : Nat → Value, a = ⟨List.toArray (u 0 :: u 1 :: .int .i64 8 :: u 3 :: .int .i64 11 :: u 5 :: .int .i64 0 :: .pointer (some ⟨pb, 0, none⟩) :: .pointer (some ⟨pl, 0, none⟩) :: .pointer (some ⟨pf, 0, none⟩) :: .pointer (some ⟨po, 0, none⟩) :: u 11 :: .int .i64 9 :: u 13 :: .int .i64 2 :: u 15 :: .int .i64 ev1 :: u 17 :: u 18 :: u 19 :: u 20 :: u 21 :: u 22 :: u 23 :: u 24 :: u 25 :: u 26 :: u 27 :: u 28 :: u 29 :: u 30 :: u 31 :: u 32 :: u 33 :: u 34 :: u 35 :: u 36 :: u 37 :: u 38 :: u 39 :: u 40 :: u 41 :: u 42 :: u 43 :: u 44 :: u 45 :: u 46 :: u 47 :: u 48 :: u 49 :: u 50 :: u 51 :: u 52 :: u 53 :: u 54 :: u 55 :: u 56 :: u 57 :: u 58 :: u 59 :: u 60 :: u 61 :: u 62 :: u 63 :: u 64 :: u 65 :: u 66 :: u 67 :: u 68 :: u 69 :: u 70 :: u 71 :: u 72 :: u 73 :: u 74 :: u 75 :: u 76 :: u 77 :: u 78 :: u 79 :: u 80 :: u 81 :: u 82 :: u 83 :: u 84 :: u 85 :: u 86 :: u 87 :: u 88 :: u 89 :: u 90 :: u 91 :: u 92 :: u 93 :: u 94 :: u 95 :: u 96 :: u 97 :: u 98 :: u 99 :: u 100 :: u 101 :: u 102 :: u 103 :: u 104 :: u 105 :: u 106 :: u 107 :: u 108 :: u 109 :: u 110 :: u 111 :: u 112 :: u 113 :: u 114 :: u 115 :: u 116 :: u 117 :: u 118 :: u 119 :: u 120 :: u 121 :: u 122 :: u 123 :: u 124 :: u 125 :: u 126 :: u 127 :: u 128 :: u 129 :: u 130 :: u 131 :: u 132 :: u 133 :: u 134 :: u 135 :: u 136 :: u 137 :: u 138 :: u 139 :: u 140 :: u 141 :: u 142 :: u 143 :: u 144 :: u 145 :: u 146 :: u 147 :: u 148 :: u 149 :: u 150 :: u 151 :: u 152 :: u 153 :: u 154 :: u 155 :: u 156 :: u 157 :: u 158 :: u 159 :: u 160 :: u 161 :: u 162 :: u 163 :: u 164 :: u 165 :: u 166 :: u 167 :: u 168 :: u 169 :: u 170 :: u 171 :: u 172 :: u 173 :: u 174 :: u 175 :: u 176 :: u 177 :: u 178 :: u 179 :: u 180 :: u 181 :: u 182 :: u 183 :: u 184 :: u 185 :: u 186 :: u 187 :: u 188 :: u 189 :: u 190 :: u 191 :: u 192 :: u 193 :: u 194 :: u 195 :: u 196 :: u 197 :: u 198 :: u 199 :: u 200 :: u 201 :: u 202 :: u 203 :: u 204 :: u 205 :: u 206 :: u 207 :: u 208 :: u 209 :: u 210 :: u 211 :: u 212 :: u 213 :: u 214 :: u 215 :: u 216 :: u 217 :: u 218 :: u 219 :: u 220 :: u 221 :: u 222 :: u 223 :: u 224 :: u 225 :: u 226 :: u 227 :: u 228 :: u 229 :: u 230 :: u 231 :: u 232 :: u 233 :: u 234 :: u 235 :: u 236 :: u 237 :: u 238 :: u 239 :: u 240 :: u 241 :: u 242 :: u 243 :: u 244 :: u 245 :: u 246 :: u 247 :: u 248 :: u 249 :: u 250 :: u 251 :: u 252 :: u 253 :: u 254 :: u 255 :: u 256 :: u 257 :: u 258 :: u 259 :: u 260 :: u 261 :: u 262 :: u 263 :: u 264 :: u 265 :: []), []⟩) → K0 a V30 := by
            rintro V30 R1 ev1 a hX9  hc1 ⟨u, rfl⟩
            refine hK0 _ _ ?_
            clear hK0 K0
            replace qb := qb.below hX9 qb.lt
            replace qo := qo.below hX9 qo.lt
            have B_V30 := ex_trans B_V29 hX9
            obtain ⟨rfl, rfl⟩ := nm_out hc1.out
            clear hc1
            clear qo
            go_upto_region 17 with fail
            rename_i K0 hK0
            have hrest : ∀ (V31 : World) (R1 : Rg) (ev1 : Int) (a : Act), Below V30.heap.size V30 V31 → Hid (AccV rodT springH [] nmBroken (-1) R1 ev1) → (∃ u : Nat → Value, a = ⟨List.toArray (u 0 :: u 1 :: .int .i64 8 :: u 3 :: .int .i64 11 :: u 5 :: .int .i64 0 :: .pointer (some ⟨pb, 0, none⟩) :: .pointer (some ⟨pl, 0, none⟩) :: .pointer (some ⟨pf, 0, none⟩) :: .pointer (some ⟨po, 0, none⟩) :: u 11 :: .int .i64 9 :: u 13 :: .int .i64 2 :: u 15 :: .int .i64 2 :: u 17 :: .int .i64 ev1 :: u 19 :: u 20 :: u 21 :: u 22 :: u 23 :: u 24 :: u 25 :: u 26 :: u 27 :: u 28 :: u 29 :: u 30 :: u 31 :: u 32 :: u 33 :: u 34 :: u 35 :: u 36 :: u 37 :: u 38 :: u 39 :: u 40 :: u 41 :: u 42 :: u 43 :: u 44 :: u 45 :: u 46 :: u 47 :: u 48 :: u 49 :: u 50 :: u 51 :: u 52 :: u 53 :: u 54 :: u 55 :: u 56 :: u 57 :: u 58 :: u 59 :: u 60 :: u 61 :: u 62 :: u 63 :: u 64 :: u 65 :: u 66 :: u 67 :: u 68 :: u 69 :: u 70 :: u 71 :: u 72 :: u 73 :: u 74 :: u 75 :: u 76 :: u 77 :: u 78 :: u 79 :: u 80 :: u 81 :: u 82 :: u 83 :: u 84 :: u 85 :: u 86 :: u 87 :: u 88 :: u 89 :: u 90 :: u 91 :: u 92 :: u 93 :: u 94 :: u 95 :: u 96 :: u 97 :: u 98 :: u 99 :: u 100 :: u 101 :: u 102 :: u 103 :: u 104 :: u 105 :: u 106 :: u 107 :: u 108 :: u 109 :: u 110 :: u 111 :: u 112 :: u 113 :: u 114 :: u 115 :: u 116 :: u 117 :: u 118 :: u 119 :: u 120 :: u 121 :: u 122 :: u 123 :: u 124 :: u 125 :: u 126 :: u 127 :: u 128 :: u 129 :: u 130 :: u 131 :: u 132 :: u 133 :: u 134 :: u 135 :: u 136 :: u 137 :: u 138 :: u 139 :: u 140 :: u 141 :: u 142 :: u 143 :: u 144 :: u 145 :: u 146 :: u 147 :: u 148 :: u 149 :: u 150 :: u 151 :: u 152 :: u 153 :: u 154 :: u 155 :: u 156 :: u 157 :: u 158 :: u 159 :: u 160 :: u 161 :: u 162 :: u 163 :: u 164 :: u 165 :: u 166 :: u 167 :: u 168 :: u 169 :: u 170 :: u 171 :: u 172 :: u 173 :: u 174 :: u 175 :: u 176 :: u 177 :: u 178 :: u 179 :: u 180 :: u 181 :: u 182 :: u 183 :: u 184 :: u 185 :: u 186 :: u 187 :: u 188 :: u 189 :: u 190 :: u 191 :: u 192 :: u 193 :: u 194 :: u 195 :: u 196 :: u 197 :: u 198 :: u 199 :: u 200 :: u 201 :: u 202 :: u 203 :: u 204 :: u 205 :: u 206 :: u 207 :: u 208 :: u 209 :: u 210 :: u 211 :: u 212 :: u 213 :: u 214 :: u 215 :: u 216 :: u 217 :: u 218 :: u 219 :: u 220 :: u 221 :: u 222 :: u 223 :: u 224 :: u 225 :: u 226 :: u 227 :: u 228 :: u 229 :: u 230 :: u 231 :: u 232 :: u 233 :: u 234 :: u 235 :: u 236 :: u 237 :: u 238 :: u 239 :: u 240 :: u 241 :: u 242 :: u 243 :: u 244 :: u 245 :: u 246 :: u 247 :: u 248 :: u 249 :: u 250 :: u 251 :: u 252 :: u 253 :: u 254 :: u 255 :: u 256 :: u 257 :: u 258 :: u 259 :: u 260 :: u 261 :: u 262 :: u 263 :: u 264 :: u 265 :: []), []⟩) → K0 a V31 := by
              rintro V31 R1 ev1 a hX9  hc1 ⟨u, rfl⟩
              refine hK0 _ _ ?_
              clear hK0 K0
              replace qb := qb.below hX9 qb.lt
              have B_V31 := ex_trans B_V30 hX9
              obtain ⟨rfl, rfl⟩ := nm_less hc1.out
              clear hc1
              clear qb
              go_wp2_with fail
              refine (sr_rod _).mono ?_
              rintro e V32 ⟨⟨Ab5, Ad5, rfl, hg5⟩, hV32⟩
              have B_V32 := ex_trans B_V31 hV32
              go_wp2_with fail
              refine (sr_spring _).mono ?_
              rintro e V33 ⟨⟨A5, rfl, hh5⟩, hV33⟩
              replace hg5 := hg5.go hV33
              have B_V33 := ex_trans B_V32 hV33
              go_wp2_with fail
              refine (sr_shown _).mono ?_
              rintro e V34 ⟨rfl, hV34⟩
              replace hg5 := hg5.go hV34
              replace hh5 := (hh5.below hV34).up hV34.size
              have B_V34 := ex_trans B_V33 hV34
              go_wp2_with fail
              refine (Bare_v rodT Ab5 Ad5 2 2 A5 none 4 0 springH [] shownR 16 _ hg5 hh5 (hn _) (by decide)).mono ?_
              rintro e V35 ⟨⟨v2, ev2, rfl, hc2⟩, hV35⟩
              replace hg5 := hg5.go hV35
              replace hh5 := (hh5.below hV35).up hV35.size
              have B_V35 := ex_trans B_V34 hV35
              obtain ⟨rfl, rfl⟩ := nm_bare hc2.out
              clear hc2
              clear hg5
              clear hh5
              go_wp2_with fail
              refine (sr_rod _).mono ?_
              rintro e V36 ⟨⟨Ab6, Ad6, rfl, hg6⟩, hV36⟩
              have B_V36 := ex_trans B_V35 hV36
              go_wp2_with fail
              refine (IceOf_v rodT Ab6 Ad6 2 2 nmHot _ hg6).mono ?_
              rintro e V37 ⟨rfl, hV37⟩
              replace hg6 := hg6.go hV37
              have B_V37 := ex_trans B_V36 hV37
              rw [nm_hot.1, nm_hot.2.1, nm_hot.2.2.1, nm_hot.2.2.2]
              clear hg6
              have NG := ex_alloc (Below.refl V37.heap.size V37) (.cells #[.int .i64 0, .int .i64 0, .int .i64 0] 40)
              have qz : Blk (V37.alloc (.cells #[.int .i64 0, .int .i64 0, .int .i64 0] 40)) V37.heap.size 40 #[.int .i64 0, .int .i64 0, .int .i64 0] := Blk.new _ _ _
              go_wp2_with fail
              obtain ⟨pz, hpz⟩ : ∃ p, V37.heap.size = p := ⟨_, rfl⟩
              try rw [hpz]
              clear hpz
              have B_V38 := ex_trans B_V37 NG
              clear NG qz
              generalize V37.alloc (.cells #[.int .i64 0, .int .i64 0, .int .i64 0] 40) = V38 at *
              refine (sr_rod _).mono ?_
              rintro e V39 ⟨⟨Ab7, Ad7, rfl, hg7⟩, hV39⟩
              have B_V39 := ex_trans B_V38 hV39
              go_wp2_with fail
              refine (sr_spring _).mono ?_
              rintro e V40 ⟨⟨A7, rfl, hh7⟩, hV40⟩
              replace hg7 := hg7.go hV40
              have B_V40 := ex_trans B_V39 hV40
              go_wp2_with fail
              refine (Same_v rodT Ab7 Ad7 2 2 A7 none none 4 0 0 springH [] [] _ hg7 hh7 (hn _) (hn10 _) (by decide) (by decide)).mono ?_
              rintro e V41 ⟨⟨R1, ev1, rfl, hc1⟩, hV41⟩
              replace hg7 := hg7.go hV41
              replace hh7 := (hh7.below hV41).up hV41.size
              have B_V41 := ex_trans B_V40 hV41
              obtain ⟨rfl, rfl⟩ := nm_same0 hc1.out
              clear hc1
              clear hg7
              clear hh7
              have NG := ex_alloc (Below.refl V41.heap.size V41) (.cells #[.int .i64 0, .int .i64 0] 23)
              have qz : Blk (V41.alloc (.cells #[.int .i64 0, .int .i64 0] 23)) V41.heap.size 23 #[.int .i64 0, .int .i64 0] := Blk.new _ _ _
              go_wp2_with fail
              obtain ⟨pz, hpz⟩ : ∃ p, V41.heap.size = p := ⟨_, rfl⟩
              try rw [hpz]
              clear hpz
              have B_V42 := ex_trans B_V41 NG
              clear NG qz
              generalize V41.alloc (.cells #[.int .i64 0, .int .i64 0] 23) = V42 at *
              refine (sr_rod _).mono ?_
              rintro e V43 ⟨⟨Ab8, Ad8, rfl, hg8⟩, hV43⟩
              have B_V43 := ex_trans B_V42 hV43
              go_wp2_with fail
              refine (sr_spring _).mono ?_
              rintro e V44 ⟨⟨A8, rfl, hh8⟩, hV44⟩
              replace hg8 := hg8.go hV44
              have B_V44 := ex_trans B_V43 hV44
              go_wp2_with fail
              refine (sr_shown _).mono ?_
              rintro e V45 ⟨rfl, hV45⟩
              replace hg8 := hg8.go hV45
              replace hh8 := (hh8.below hV45).up hV45.size
              have B_V45 := ex_trans B_V44 hV45
              have NG := ex_alloc (Below.refl V45.heap.size V45) (.cells #[.int .i64 2, .int .i64 2000, .int .i64 2, .int .i64 100, .int .i64 20, .int .i64 30, .int .i64 0, .int .i64 3, .int .i64 2, .bool false, .int .i64 1, .int .i64 2025, .int .i64 0, .int .i64 0, .int .i64 0, .int .i64 0, .int .i64 0, .int .i64 0, .int .i64 0, .bool false] 37)
              have qr : Blk (V45.alloc (.cells #[.int .i64 2, .int .i64 2000, .int .i64 2, .int .i64 100, .int .i64 20, .int .i64 30, .int .i64 0, .int .i64 3, .int .i64 2, .bool false, .int .i64 1, .int .i64 2025, .int .i64 0, .int .i64 0, .int .i64 0, .int .i64 0, .int .i64 0, .int .i64 0, .int .i64 0, .bool false] 37)) V45.heap.size 37 #[.int .i64 2, .int .i64 2000, .int .i64 2, .int .i64 100, .int .i64 20, .int .i64 30, .int .i64 0, .int .i64 3, .int .i64 2, .bool false, .int .i64 1, .int .i64 2025, .int .i64 0, .int .i64 0, .int .i64 0, .int .i64 0, .int .i64 0, .int .i64 0, .int .i64 0, .bool false] := Blk.new _ _ _
              go_wp2_with fail
              obtain ⟨pr, hpr⟩ : ∃ p, V45.heap.size = p := ⟨_, rfl⟩
              rw [hpr] at qr ⊢
              clear hpr
              replace hg8 := hg8.go NG
              replace hh8 := hh8.go NG
              have B_V46 := ex_trans B_V45 NG
              clear NG
              generalize V45.alloc (.cells #[.int .i64 2, .int .i64 2000, .int .i64 2, .int .i64 100, .int .i64 20, .int .i64 30, .int .i64 0, .int .i64 3, .int .i64 2, .bool false, .int .i64 1, .int .i64 2025, .int .i64 0, .int .i64 0, .int .i64 0, .int .i64 0, .int .i64 0, .int .i64 0, .int .i64 0, .bool false] 37) = V46 at *
              have hs : SlAt V46 V46.heap.size 10 (some ⟨pr, 0, none⟩) [shownR, nmDay1].length (fE [shownR, nmDay1]) := fun _ => ⟨pr, 0, rfl, qr.lt, fun k j hk hj => by
                rw [cell_of_row _ _ _ _ _ _ qr]
                have hk' : k < 2 := hk
                match k, hk', j, hj with
                | 0, _, 0, _ => rfl
                | 0, _, 1, _ => rfl
                | 0, _, 2, _ => rfl
                | 0, _, 3, _ => rfl
                | 0, _, 4, _ => rfl
                | 0, _, 5, _ => rfl
                | 0, _, 6, _ => rfl
                | 0, _, 7, _ => rfl
                | 0, _, 8, _ => rfl
                | 0, _, 9, _ => rfl
                | 1, _, 0, _ => rfl
                | 1, _, 1, _ => rfl
                | 1, _, 2, _ => rfl
                | 1, _, 3, _ => rfl
                | 1, _, 4, _ => rfl
                | 1, _, 5, _ => rfl
                | 1, _, 6, _ => rfl
                | 1, _, 7, _ => rfl
                | 1, _, 8, _ => rfl
                | 1, _, 9, _ => rfl⟩
              refine (Same_v rodT Ab8 Ad8 2 2 A8 none (some ⟨pr, 0, none⟩) 4 0 2 springH [] [shownR, nmDay1] _ hg8 hh8 (hn _) hs (by decide) (by decide)).mono ?_
              rintro e V47 ⟨⟨R1, ev1, rfl, hc1⟩, hV47⟩
              replace hg8 := hg8.go hV47
              replace hh8 := (hh8.below hV47).up hV47.size
              have B_V47 := ex_trans B_V46 hV47
              obtain ⟨rfl, rfl⟩ := nm_same1 hc1.out
              clear hc1 hs qr
              clear hg8
              clear hh8
              have NG := ex_alloc (Below.refl V47.heap.size V47) (.cells #[.int .i64 0, .int .i64 0] 23)
              have qz : Blk (V47.alloc (.cells #[.int .i64 0, .int .i64 0] 23)) V47.heap.size 23 #[.int .i64 0, .int .i64 0] := Blk.new _ _ _
              go_wp2_with fail
              obtain ⟨pz, hpz⟩ : ∃ p, V47.heap.size = p := ⟨_, rfl⟩
              try rw [hpz]
              clear hpz
              have B_V48 := ex_trans B_V47 NG
              clear NG qz
              generalize V47.alloc (.cells #[.int .i64 0, .int .i64 0] 23) = V48 at *
              refine (sr_rod _).mono ?_
              rintro e V49 ⟨⟨Ab9, Ad9, rfl, hg9⟩, hV49⟩
              have B_V49 := ex_trans B_V48 hV49
              go_wp2_with fail
              refine (sr_spring _).mono ?_
              rintro e V50 ⟨⟨A9, rfl, hh9⟩, hV50⟩
              replace hg9 := hg9.go hV50
              have B_V50 := ex_trans B_V49 hV50
              go_wp2_with fail
              refine (sr_shown _).mono ?_
              rintro e V51 ⟨rfl, hV51⟩
              replace hg9 := hg9.go hV51
              replace hh9 := (hh9.below hV51).up hV51.size
              have B_V51 := ex_trans B_V50 hV51
              have NG := ex_alloc (Below.refl V51.heap.size V51) (.cells #[.int .i64 2, .int .i64 2000, .int .i64 2, .int .i64 100, .int .i64 20, .int .i64 30, .int .i64 0, .int .i64 3, .int .i64 2, .bool false, .int .i64 2, .int .i64 2010, .int .i64 2, .int .i64 0, .int .i64 0, .int .i64 0, .int .i64 0, .int .i64 0, .int .i64 0, .bool false] 37)
              have qr : Blk (V51.alloc (.cells #[.int .i64 2, .int .i64 2000, .int .i64 2, .int .i64 100, .int .i64 20, .int .i64 30, .int .i64 0, .int .i64 3, .int .i64 2, .bool false, .int .i64 2, .int .i64 2010, .int .i64 2, .int .i64 0, .int .i64 0, .int .i64 0, .int .i64 0, .int .i64 0, .int .i64 0, .bool false] 37)) V51.heap.size 37 #[.int .i64 2, .int .i64 2000, .int .i64 2, .int .i64 100, .int .i64 20, .int .i64 30, .int .i64 0, .int .i64 3, .int .i64 2, .bool false, .int .i64 2, .int .i64 2010, .int .i64 2, .int .i64 0, .int .i64 0, .int .i64 0, .int .i64 0, .int .i64 0, .int .i64 0, .bool false] := Blk.new _ _ _
              go_wp2_with fail
              obtain ⟨pr, hpr⟩ : ∃ p, V51.heap.size = p := ⟨_, rfl⟩
              rw [hpr] at qr ⊢
              clear hpr
              replace hg9 := hg9.go NG
              replace hh9 := hh9.go NG
              have B_V52 := ex_trans B_V51 NG
              clear NG
              generalize V51.alloc (.cells #[.int .i64 2, .int .i64 2000, .int .i64 2, .int .i64 100, .int .i64 20, .int .i64 30, .int .i64 0, .int .i64 3, .int .i64 2, .bool false, .int .i64 2, .int .i64 2010, .int .i64 2, .int .i64 0, .int .i64 0, .int .i64 0, .int .i64 0, .int .i64 0, .int .i64 0, .bool false] 37) = V52 at *
              have hs : SlAt V52 V52.heap.size 10 (some ⟨pr, 0, none⟩) [shownR, nmCold].length (fE [shownR, nmCold]) := fun _ => ⟨pr, 0, rfl, qr.lt, fun k j hk hj => by
                rw [cell_of_row _ _ _ _ _ _ qr]
                have hk' : k < 2 := hk
                match k, hk', j, hj with
                | 0, _, 0, _ => rfl
                | 0, _, 1, _ => rfl
                | 0, _, 2, _ => rfl
                | 0, _, 3, _ => rfl
                | 0, _, 4, _ => rfl
                | 0, _, 5, _ => rfl
                | 0, _, 6, _ => rfl
                | 0, _, 7, _ => rfl
                | 0, _, 8, _ => rfl
                | 0, _, 9, _ => rfl
                | 1, _, 0, _ => rfl
                | 1, _, 1, _ => rfl
                | 1, _, 2, _ => rfl
                | 1, _, 3, _ => rfl
                | 1, _, 4, _ => rfl
                | 1, _, 5, _ => rfl
                | 1, _, 6, _ => rfl
                | 1, _, 7, _ => rfl
                | 1, _, 8, _ => rfl
                | 1, _, 9, _ => rfl⟩
              refine (Same_v rodT Ab9 Ad9 2 2 A9 none (some ⟨pr, 0, none⟩) 4 0 2 springH [] [shownR, nmCold] _ hg9 hh9 (hn _) hs (by decide) (by decide)).mono ?_
              rintro e V53 ⟨⟨R1, ev1, rfl, hc1⟩, hV53⟩
              replace hg9 := hg9.go hV53
              replace hh9 := (hh9.below hV53).up hV53.size
              have B_V53 := ex_trans B_V52 hV53
              obtain ⟨rfl, rfl⟩ := nm_same2 hc1.out
              clear hc1 hs qr
              clear hg9
              clear hh9
              have NG := ex_alloc (Below.refl V53.heap.size V53) (.cells #[.int .i64 0, .int .i64 0] 23)
              have qz : Blk (V53.alloc (.cells #[.int .i64 0, .int .i64 0] 23)) V53.heap.size 23 #[.int .i64 0, .int .i64 0] := Blk.new _ _ _
              go_upto_region 23 with fail
              obtain ⟨pz, hpz⟩ : ∃ p, V53.heap.size = p := ⟨_, rfl⟩
              try rw [hpz]
              clear hpz
              have B_V54 := ex_trans B_V53 NG
              clear NG qz
              generalize V53.alloc (.cells #[.int .i64 0, .int .i64 0] 23) = V54 at *
              obtain ⟨oc, hoc, hmks⟩ := run_make6
              have HOC := Lib.hid hoc
              clear hoc
              rename_i K0 hK0
              have hrest : ∀ (V55 : World) (R1 : Rg) (ev1 : Int) (a : Act), Below V54.heap.size V54 V55 → Hid (SamV rodT springH [] [nmZero, nmZero, nmZero, nmZero, nmZero, nmZero] R1 ev1) → (∃ u : Nat → Value, a = ⟨List.toArray (u 0 :: u 1 :: .int .i64 8 :: u 3 :: .int .i64 11 :: u 5 :: .int .i64 0 :: .pointer (some ⟨pb, 0, none⟩) :: .pointer (some ⟨pl, 0, none⟩) :: .pointer (some ⟨pf, 0, none⟩) :: .pointer (some ⟨po, 0, none⟩) :: u 11 :: .int .i64 9 :: u 13 :: .int .i64 2 :: u 15 :: .int .i64 2 :: u 17 :: .int .i64 2 :: u 19 :: .int .i64 7 :: u 21 :: .int .i64 10 :: u 23 :: .int .i64 2 :: u 25 :: .int .i64 2 :: u 27 :: .int .i64 9 :: u 29 :: .int .i64 ev1 :: u 31 :: u 32 :: u 33 :: u 34 :: u 35 :: u 36 :: u 37 :: u 38 :: u 39 :: u 40 :: u 41 :: u 42 :: u 43 :: u 44 :: u 45 :: u 46 :: u 47 :: u 48 :: u 49 :: u 50 :: u 51 :: u 52 :: u 53 :: u 54 :: u 55 :: u 56 :: u 57 :: u 58 :: u 59 :: u 60 :: u 61 :: u 62 :: u 63 :: u 64 :: u 65 :: u 66 :: u 67 :: u 68 :: u 69 :: u 70 :: u 71 :: u 72 :: u 73 :: u 74 :: u 75 :: u 76 :: u 77 :: u 78 :: u 79 :: u 80 :: u 81 :: u 82 :: u 83 :: u 84 :: u 85 :: u 86 :: u 87 :: u 88 :: u 89 :: u 90 :: u 91 :: u 92 :: u 93 :: u 94 :: u 95 :: u 96 :: u 97 :: u 98 :: u 99 :: u 100 :: u 101 :: u 102 :: u 103 :: u 104 :: u 105 :: u 106 :: u 107 :: u 108 :: u 109 :: u 110 :: u 111 :: u 112 :: u 113 :: u 114 :: u 115 :: u 116 :: u 117 :: u 118 :: u 119 :: u 120 :: u 121 :: u 122 :: u 123 :: u 124 :: u 125 :: u 126 :: u 127 :: u 128 :: u 129 :: u 130 :: u 131 :: u 132 :: u 133 :: u 134 :: u 135 :: u 136 :: u 137 :: u 138 :: u 139 :: u 140 :: u 141 :: u 142 :: u 143 :: u 144 :: u 145 :: u 146 :: u 147 :: u 148 :: u 149 :: u 150 :: u 151 :: u 152 :: u 153 :: u 154 :: u 155 :: u 156 :: u 157 :: u 158 :: u 159 :: u 160 :: u 161 :: u 162 :: u 163 :: u 164 :: u 165 :: u 166 :: u 167 :: u 168 :: u 169 :: u 170 :: u 171 :: u 172 :: u 173 :: u 174 :: u 175 :: u 176 :: u 177 :: u 178 :: u 179 :: u 180 :: u 181 :: u 182 :: u 183 :: u 184 :: u 185 :: u 186 :: u 187 :: u 188 :: u 189 :: u 190 :: u 191 :: u 192 :: u 193 :: u 194 :: u 195 :: u 196 :: u 197 :: u 198 :: u 199 :: u 200 :: u 201 :: u 202 :: u 203 :: u 204 :: u 205 :: u 206 :: u 207 :: u 208 :: u 209 :: u 210 :: u 211 :: u 212 :: u 213 :: u 214 :: u 215 :: u 216 :: u 217 :: u 218 :: u 219 :: u 220 :: u 221 :: u 222 :: u 223 :: u 224 :: u 225 :: u 226 :: u 227 :: u 228 :: u 229 :: u 230 :: u 231 :: u 232 :: u 233 :: u 234 :: u 235 :: u 236 :: u 237 :: u 238 :: u 239 :: u 240 :: u 241 :: u 242 :: u 243 :: u 244 :: u 245 :: u 246 :: u 247 :: u 248 :: u 249 :: u 250 :: u 251 :: u 252 :: u 253 :: u 254 :: u 255 :: u 256 :: u 257 :: u 258 :: u 259 :: u 260 :: u 261 :: u 262 :: u 263 :: u 264 :: u 265 :: []), []⟩) → K0 a V55 := by
                rintro V55 R1 ev1 a hX9  hc1 ⟨u, rfl⟩
                refine hK0 _ _ ?_
                clear hK0 K0
                have B_V55 := ex_trans B_V54 hX9
                obtain ⟨rfl, rfl⟩ := nm_same6 hc1.out
                clear hc1 HOC hmks
                go_wp2_with fail
                refine (sr_rod _).mono ?_
                rintro e V56 ⟨⟨Ab10, Ad10, rfl, hg10⟩, hV56⟩
                have B_V56 := ex_trans B_V55 hV56
                go_wp2_with fail
                refine (sr_shown _).mono ?_
                rintro e V57 ⟨rfl, hV57⟩
                replace hg10 := hg10.go hV57
                have B_V57 := ex_trans B_V56 hV57
                go_wp2_with fail
                refine (Play_stem rodT Ab10 Ad10 2 2 shownR nmTx _ hg10 (by decide) (by decide)).mono ?_
                rintro e V58 ⟨rfl, hV58⟩
                replace hg10 := hg10.go hV58
                have B_V58 := ex_trans B_V57 hV58
                rw [nm_play.1, nm_play.2]
                clear hg10
                go_wp2_with fail
                refine (sr_rod _).mono ?_
                rintro e V59 ⟨⟨Ab11, Ad11, rfl, hg11⟩, hV59⟩
                have B_V59 := ex_trans B_V58 hV59
                go_wp2_with fail
                refine (sr_rod _).mono ?_
                rintro e V60 ⟨⟨Ab12, Ad12, rfl, hg12⟩, hV60⟩
                replace hg11 := hg11.go hV60
                have B_V60 := ex_trans B_V59 hV60
                go_wp2_with (refine pause_store 32 rfl ?_)
                refine Paused.mk ?_
                refine box2 (K := fun V => wpList _ _ _ _ _ V) ?_
                intro V61 hbx qw qd
                obtain ⟨pw, hpw⟩ : ∃ p, V60.heap.size = p := ⟨_, rfl⟩
                obtain ⟨pd, hpd⟩ : ∃ p, V60.heap.size + 1 = p := ⟨_, rfl⟩
                rw [hpd] at qd ⊢
                rw [hpw] at qw ⊢
                have nwd : pw ≠ pd := by omega
                have ndw : pd ≠ pw := by omega
                have yw : V60.heap.size ≤ pw := by omega
                have yd : V60.heap.size ≤ pd := by omega
                clear hpw hpd
                have hg11_0 := hg11
                have hg12_0 := hg12
                refine wpList_store_row rfl 32 _ _ rfl _ #[.int .i64 0, .slice Ab11 2 2, .slice Ad11 2 2, .int .i64 2, .int .i64 4, .int .i64 15, .int .i64 17, .int .i64 1, .int .i64 2, .int .i64 0, .int .i64 1, .int .i64 2] (by kernel_rfl) (by kernel_rfl) 32 _ qw (by kernel_rfl) (by kernel_rfl) (by kernel_rfl) ?_
                replace qw := qw.setRow #[.int .i64 0, .slice Ab11 2 2, .slice Ad11 2 2, .int .i64 2, .int .i64 4, .int .i64 15, .int .i64 17, .int .i64 1, .int .i64 2, .int .i64 0, .int .i64 1, .int .i64 2]
                replace qd := qd.offRow ndw #[.int .i64 0, .slice Ab11 2 2, .slice Ad11 2 2, .int .i64 2, .int .i64 4, .int .i64 15, .int .i64 17, .int .i64 1, .int .i64 2, .int .i64 0, .int .i64 1, .int .i64 2]
                have XS := ex_row hbx yw #[.int .i64 0, .slice Ab11 2 2, .slice Ad11 2 2, .int .i64 2, .int .i64 4, .int .i64 15, .int .i64 17, .int .i64 1, .int .i64 2, .int .i64 0, .int .i64 1, .int .i64 2]
                generalize V61.setRow pw #[.int .i64 0, .slice Ab11 2 2, .slice Ad11 2 2, .int .i64 2, .int .i64 4, .int .i64 15, .int .i64 17, .int .i64 1, .int .i64 2, .int .i64 0, .int .i64 1, .int .i64 2] = V62 at *
                replace hg11 := hg11_0.go XS
                replace hg12 := hg12_0.go XS
                have B_V62 := ex_trans B_V60 XS
                have X_V62 := XS
                clear XS
                go_wp2_with (refine pause_store 32 rfl ?_)
                refine Paused.mk ?_
                refine wpList_store_row rfl 32 _ _ rfl _ #[.int .i64 0, .slice Ab12 2 2, .slice Ad12 2 2, .int .i64 2, .int .i64 4, .int .i64 15, .int .i64 17, .int .i64 1, .int .i64 2, .int .i64 0, .int .i64 1, .int .i64 2] (by kernel_rfl) (by kernel_rfl) 32 _ qd (by kernel_rfl) (by kernel_rfl) (by kernel_rfl) ?_
                replace qd := qd.setRow #[.int .i64 0, .slice Ab12 2 2, .slice Ad12 2 2, .int .i64 2, .int .i64 4, .int .i64 15, .int .i64 17, .int .i64 1, .int .i64 2, .int .i64 0, .int .i64 1, .int .i64 2]
                replace qw := qw.offRow nwd #[.int .i64 0, .slice Ab12 2 2, .slice Ad12 2 2, .int .i64 2, .int .i64 4, .int .i64 15, .int .i64 17, .int .i64 1, .int .i64 2, .int .i64 0, .int .i64 1, .int .i64 2]
                have XS := ex_row X_V62 yd #[.int .i64 0, .slice Ab12 2 2, .slice Ad12 2 2, .int .i64 2, .int .i64 4, .int .i64 15, .int .i64 17, .int .i64 1, .int .i64 2, .int .i64 0, .int .i64 1, .int .i64 2]
                generalize V62.setRow pd #[.int .i64 0, .slice Ab12 2 2, .slice Ad12 2 2, .int .i64 2, .int .i64 4, .int .i64 15, .int .i64 17, .int .i64 1, .int .i64 2, .int .i64 0, .int .i64 1, .int .i64 2] = V63 at *
                replace hg11 := hg11_0.go XS
                replace hg12 := hg12_0.go XS
                have B_V63 := ex_trans B_V60 XS
                have X_V63 := XS
                clear XS
                go_wp2_with fail
                refine (sr_between 0 21 _).mono ?_
                rintro e V64 ⟨rfl, hV64⟩
                replace hg11 := hg11.go hV64
                replace hg12 := hg12.go hV64
                replace qw := qw.below hV64 qw.lt
                replace qd := qd.below hV64 qd.lt
                have B_V64 := ex_trans B_V63 hV64
                have X_V64 := ex_trans X_V63 hV64
                have u5 := qw.cell 5
                have u6 := qw.cell 6
                have fu := qw.frozen0
                have lu := qw.lt
                simp at u5 u6
                have v1 := qd.cell 1
                have fv := qd.frozen0
                have lv := qd.lt
                simp at v1
                obtain ⟨oc, hoc, hmks⟩ := run_make4b
                have HOC := Lib.hid hoc
                clear hoc
                go_upto_region 28 with fail
                clear u5 u6 fu lu v1 fv lv
                have hsz : (((V64.setCell ⟨pw, 5, none⟩ (.int .i64 0)).setCell ⟨pw, 6, none⟩ (.int .i64 21)).setCell ⟨pd, 1, none⟩ (.slice (some ⟨V64.heap.size, 0, none⟩) 4 4)).heap.size = V64.heap.size := by simp
                have qm : Blk ((((V64.setCell ⟨pw, 5, none⟩ (.int .i64 0)).setCell ⟨pw, 6, none⟩ (.int .i64 21)).setCell ⟨pd, 1, none⟩ (.slice (some ⟨V64.heap.size, 0, none⟩) 4 4)).alloc (.cells oc 63)) V64.heap.size 63 oc := Blk.new' _ _ _ hsz
                replace qw := (((qw.set_ 5 (.int .i64 0)).set_ 6 (.int .i64 21)).far (p := ⟨pd, 1, none⟩) nwd (.slice (some ⟨V64.heap.size, 0, none⟩) 4 4)).alloc (.cells oc 63)
                simp only [List.setIfInBounds_toArray, List.set_cons_zero, List.set_cons_succ] at qw
                replace qd := (((qd.far (p := ⟨pw, 5, none⟩) ndw (.int .i64 0)).far (p := ⟨pw, 6, none⟩) ndw (.int .i64 21)).set_ 1 (.slice (some ⟨V64.heap.size, 0, none⟩) 4 4)).alloc (.cells oc 63)
                simp only [List.setIfInBounds_toArray, List.set_cons_zero, List.set_cons_succ] at qd
                have XS := ex_alloc (ex_set (p := ⟨pd, 1, none⟩) (ex_set (p := ⟨pw, 6, none⟩) (ex_set (p := ⟨pw, 5, none⟩) X_V64 yw (.int .i64 0)) yw (.int .i64 21)) yd (.slice (some ⟨V64.heap.size, 0, none⟩) 4 4)) (.cells oc 63)
                obtain ⟨pm, hpm⟩ : ∃ p, V64.heap.size = p := ⟨_, rfl⟩
                clear hsz
                rw [hpm] at qm qw qd XS ⊢
                clear hpm
                generalize (((V64.setCell ⟨pw, 5, none⟩ (.int .i64 0)).setCell ⟨pw, 6, none⟩ (.int .i64 21)).setCell ⟨pd, 1, none⟩ (.slice (some ⟨pm, 0, none⟩) 4 4)).alloc (.cells oc 63) = V65 at *
                replace hg11 := hg11_0.go XS
                replace hg12 := hg12_0.go XS
                have B_V65 := ex_trans B_V60 XS
                simp only [List.append_eq, List.cons_append, List.nil_append]
                go_wp2_with (refine pause_at 249 rfl ?_)
                refine Paused.mk ?_
                refine wpList_load_rowG (by kernel_rfl) 32 _ rfl _ (by kernel_rfl) 32 _ (0, 0) _ (qw) Try.underlying32 rfl (by kernel_rfl) ?_
                go_wp2_with fail
                refine (CheckTube_any nmWild Ab11 Ad11 2 2 _ hg11).mono ?_
                rintro e V66 ⟨rfl, hV66⟩
                replace hg11 := hg11.go hV66
                replace hg12 := hg12.go hV66
                replace qw := qw.below hV66 qw.lt
                replace qd := qd.below hV66 qd.lt
                replace qm := qm.below hV66 qm.lt
                have B_V66 := ex_trans B_V65 hV66
                rw [nm_wild]
                clear hg11
                clear qw
                go_wp2_with (refine pause_at 254 rfl ?_)
                refine Paused.mk ?_
                refine wpList_load_rowG (by kernel_rfl) 32 _ rfl _ (by kernel_rfl) 32 _ (0, 0) _ (qd) Try.underlying32 rfl (by kernel_rfl) ?_
                go_wp2_with fail
                refine (CheckTube_any nmBad (some ⟨pm, 0, none⟩) Ad12 4 2 _ ⟨zer4b HOC.out qm, hg12.d⟩).mono ?_
                rintro e V67 ⟨rfl, hV67⟩
                replace hg12 := hg12.go hV67
                replace qd := qd.below hV67 qd.lt
                replace qm := qm.below hV67 qm.lt
                have B_V67 := ex_trans B_V66 hV67
                rw [nm_bad]
                clear hg12
                clear qd
                clear qm
                go_wp2_with fail
                refine (CheckTube_any nmNone none none 0 0 _ ⟨fun h => absurd h (by simp [nmNone]), fun h => absurd h (by simp [nmNone])⟩).mono ?_
                rintro e V68 ⟨rfl, hV68⟩
                have B_V68 := ex_trans B_V67 hV68
                rw [nm_none]
                go_wp2_with fail
                refine (sl_awake _).mono ?_
                rintro e V69 ⟨rfl, hV69⟩
                have B_V69 := ex_trans B_V68 hV69
                go_wp2
                go_ret
                exact ⟨rfl, B_V69⟩
              refine wp_region_ext_tq 9 (.fork3 0 (.fork3 1 (.fork 2 (.fork 3 (.quiet 4 (.quiet 5 (.quiet 6 (.loud 7 (.loud 8 .done))))) 7 (.loud 3 (.quiet 4 (.quiet 5 (.quiet 6 (.loud 8 .done)))))) 7 (.loud 2 (.loud 3 (.quiet 4 (.quiet 5 (.quiet 6 (.loud 8 .done))))))) 2 (.fork 1 (.fork 3 (.quiet 4 (.quiet 5 (.quiet 6 (.loud 7 (.loud 8 .done))))) 7 (.loud 3 (.quiet 4 (.quiet 5 (.quiet 6 (.loud 8 .done)))))) 7 (.loud 1 (.loud 3 (.quiet 4 (.quiet 5 (.quiet 6 (.loud 8 .done))))))) 7 (.fork 1 (.loud 2 (.loud 3 (.quiet 4 (.quiet 5 (.quiet 6 (.loud 8 .done)))))) 2 (.loud 1 (.loud 3 (.quiet 4 (.quiet 5 (.quiet 6 (.loud 8 .done)))))))) 2 (.fork 0 (.fork 1 (.fork 3 (.quiet 4 (.quiet 5 (.quiet 6 (.loud 7 (.loud 8 .done))))) 7 (.loud 3 (.quiet 4 (.quiet 5 (.quiet 6 (.loud 8 .done)))))) 7 (.loud 1 (.loud 3 (.quiet 4 (.quiet 5 (.quiet 6 (.loud 8 .done))))))) 7 (.loud 0 (.loud 1 (.loud 3 (.quiet 4 (.quiet 5 (.quiet 6 (.loud 8 .done)))))))) 7 (.fork 0 (.fork 1 (.loud 2 (.loud 3 (.quiet 4 (.quiet 5 (.quiet 6 (.loud 8 .done)))))) 2 (.loud 1 (.loud 3 (.quiet 4 (.quiet 5 (.quiet 6 (.loud 8 .done))))))) 2 (.loud 0 (.loud 1 (.loud 3 (.quiet 4 (.quiet 5 (.quiet 6 (.loud 8 .done))))))))) (by kernel_rfl) (by kernel_rfl) (by intro d _ _ _ _ h; cases d <;> exact h) ?_
              have D0 := (Below.refl V54.heap.size V54).drew
              repeat (refine tq_quiet rfl ?_; first | (go_big_quiet_step (fail); refine wpQuiet_nil ?_))
              refine tq_fork3 rfl rfl rfl ?_ ?_ ?_
              · go_wp2_with fail
                refine (sr_rod _).mono ?_
                rintro e V70 ⟨⟨Ab1, Ad1, rfl, hg1⟩, hV70⟩
                have N0 := ex_trans ((Below.refl V54.heap.size V54)).drew hV70
                go_wp2_with fail
                refine ⟨inEx N0, ?_⟩
                repeat (refine tq_quiet rfl ?_; go_big_quiet_step (fail); refine wpQuiet_nil ?_)
                refine tq_fork3 rfl rfl rfl ?_ ?_ ?_
                · go_wp2_with fail
                  refine (sr_spring _).mono ?_
                  rintro e V71 ⟨⟨A1, rfl, hh1⟩, hV71⟩
                  have N1 := ex_trans N0 hV71
                  go_wp2_with fail
                  replace hg1 := hg1.go hV71
                  refine ⟨inEx N1, ?_⟩
                  repeat (refine tq_quiet rfl ?_; go_big_quiet_step (fail); refine wpQuiet_nil ?_)
                  refine tq_fork rfl rfl ?_ ?_
                  · go_wp2_with fail
                    have sm := (N1).size
                    try simp at sm
                    have N2 := ex_alloc N1 (.cells oc 37)
                    have bm : Blk (V71.alloc (.cells oc 37)) (V71.heap.size) 37 oc := Blk.new' _ _ _ (by first | rfl | (simp; done) | (simp; omega))
                    replace hg1 := hg1.go (ex_alloc (Below.refl V71.heap.size V71) (.cells oc 37))
                    replace hh1 := hh1.go (ex_alloc (Below.refl V71.heap.size V71) (.cells oc 37))
                    obtain ⟨pm, hpm⟩ : ∃ p, V71.heap.size = p := ⟨_, rfl⟩
                    rw [hpm] at bm
                    try rw [hpm]
                    have ym : V54.heap.size ≤ pm := by omega
                    clear sm
                    refine ⟨inEx N2, ?_⟩
                    repeat (refine tq_quiet rfl ?_; go_big_quiet_step (fail); refine wpQuiet_nil ?_)
                    refine tq_fork rfl rfl ?_ ?_
                    · go_wp2_with fail
                      refine (Same_v rodT Ab1 Ad1 2 2 A1 none (some ⟨pm, 0, none⟩) 4 0 6 springH [] [nmZero, nmZero, nmZero, nmZero, nmZero, nmZero] _ hg1 hh1 (hn _) (by first | exact zer6 HOC.out bm | exact zer6 HOC.out (Blk.drew bm)) (by decide) (by decide)).mono ?_
                      rintro e V72 ⟨⟨R1, ev1, rfl, hc1⟩, hV72⟩
                      replace bm := Blk.below bm hV72 bm.lt
                      have N3 := ex_trans N2 hV72
                      go_wp2_with fail
                      refine ⟨inEx N3, ?_⟩
                      repeat (refine tq_quiet rfl ?_; go_big_quiet_step (fail); refine wpQuiet_nil ?_)
                      refine tq_loud rfl ?_
                      go_wp2_with fail
                      have tzm := bm.lt
                      try simp at tzm
                      have sz := (N3).size
                      try simp at sz
                      have N7 := ex_alloc N3 (.cells #[.int .i64 0, .int .i64 0] 23)
                      have bz : Blk (V72.alloc (.cells #[.int .i64 0, .int .i64 0] 23)) (V72.heap.size) 23 #[.int .i64 0, .int .i64 0] := Blk.new' _ _ _ (by first | rfl | (simp; done) | (simp; omega))
                      replace bm := bm.alloc (.cells #[.int .i64 0, .int .i64 0] 23)
                      obtain ⟨pz, hpz⟩ : ∃ p, V72.heap.size = p := ⟨_, rfl⟩
                      rw [hpz] at bz
                      try rw [hpz]
                      have nzm : pz ≠ pm := by omega
                      have nmz : pm ≠ pz := by omega
                      clear tzm
                      have yz : V54.heap.size ≤ pz := by omega
                      clear sz
                      refine ⟨inEx N7, ?_⟩
                      repeat (refine tq_quiet rfl ?_; go_big_quiet_step (fail); refine wpQuiet_nil ?_)
                      refine tq_loud rfl ?_
                      have XA8 := N7
                      generalize (V72.alloc (.cells #[.int .i64 0, .int .i64 0] 23)) = V73 at *
                      have sc0 : V73.cell? ⟨pz, 0, none⟩ = some (.int .i64 0) := bz.cell 0
                      have sc1 : V73.cell? ⟨pz, 1, none⟩ = some (.int .i64 0) := bz.cell 1
                      have sf := bz.frozen0
                      have sl := bz.lt
                      go_wp2_with fail
                      replace bz := bz.set_ 0 (.int .i64 R1.lo)
                      replace bm := bm.far (p := ⟨pz, 0, none⟩) nmz (.int .i64 R1.lo)
                      replace XA8 := ex_set (p := ⟨pz, 0, none⟩) XA8 yz (.int .i64 R1.lo)
                      replace bz := bz.set_ 1 (.int .i64 R1.hi)
                      replace bm := bm.far (p := ⟨pz, 1, none⟩) nmz (.int .i64 R1.hi)
                      replace XA8 := ex_set (p := ⟨pz, 1, none⟩) XA8 yz (.int .i64 R1.hi)
                      simp only [List.setIfInBounds_toArray, List.set_cons_zero, List.set_cons_succ] at bz
                      clear sf sl sc0 sc1
                      generalize ((V73.setCell ⟨pz, 0, none⟩ (.int .i64 R1.lo)).setCell ⟨pz, 1, none⟩ (.int .i64 R1.hi)) = V74 at *
                      refine ⟨inEx XA8, ?_⟩
                      repeat (refine tq_quiet rfl ?_; go_big_quiet_step (fail); refine wpQuiet_nil ?_)
                      refine tq_done (r := [_]) rfl ?_
                      go_wp2_with fail
                      exact hrest V74 R1 ev1 _ (XA8) hc1 (exFrame (by kernel_rfl))
                    · go_wp2_with fail
                      have tzm := bm.lt
                      try simp at tzm
                      have sz := (N2).size
                      try simp at sz
                      have N7 := ex_alloc N2 (.cells #[.int .i64 0, .int .i64 0] 23)
                      have bz : Blk ((V71.alloc (.cells oc 37)).alloc (.cells #[.int .i64 0, .int .i64 0] 23)) (pm + 1) 23 #[.int .i64 0, .int .i64 0] := Blk.new' _ _ _ (by first | rfl | (simp; done) | (simp; omega))
                      replace bm := bm.alloc (.cells #[.int .i64 0, .int .i64 0] 23)
                      replace hg1 := hg1.go (ex_alloc (Below.refl (V71.alloc (.cells oc 37)).heap.size (V71.alloc (.cells oc 37))) (.cells #[.int .i64 0, .int .i64 0] 23))
                      replace hh1 := hh1.go (ex_alloc (Below.refl (V71.alloc (.cells oc 37)).heap.size (V71.alloc (.cells oc 37))) (.cells #[.int .i64 0, .int .i64 0] 23))
                      obtain ⟨pz, hpz⟩ : ∃ p, pm + 1 = p := ⟨_, rfl⟩
                      rw [hpz] at bz
                      try rw [hpz]
                      have nzm : pz ≠ pm := by omega
                      have nmz : pm ≠ pz := by omega
                      clear tzm
                      have yz : V54.heap.size ≤ pz := by omega
                      clear sz
                      refine ⟨inEx N7, ?_⟩
                      repeat (refine tq_quiet rfl ?_; go_big_quiet_step (fail); refine wpQuiet_nil ?_)
                      refine tq_loud rfl ?_
                      go_wp2_with fail
                      refine (Same_v rodT Ab1 Ad1 2 2 A1 none (some ⟨pm, 0, none⟩) 4 0 6 springH [] [nmZero, nmZero, nmZero, nmZero, nmZero, nmZero] _ hg1 hh1 (hn _) (by first | exact zer6 HOC.out bm | exact zer6 HOC.out (Blk.drew bm)) (by decide) (by decide)).mono ?_
                      rintro e V75 ⟨⟨R1, ev1, rfl, hc1⟩, hV75⟩
                      replace bm := Blk.below bm hV75 bm.lt
                      replace bz := Blk.below bz hV75 bz.lt
                      have N3 := ex_trans N7 hV75
                      go_wp2_with fail
                      refine ⟨inEx N3, ?_⟩
                      repeat (refine tq_quiet rfl ?_; go_big_quiet_step (fail); refine wpQuiet_nil ?_)
                      refine tq_loud rfl ?_
                      have XA8 := N3
                      generalize V75 = V76 at *
                      have sc0 : V76.cell? ⟨pz, 0, none⟩ = some (.int .i64 0) := bz.cell 0
                      have sc1 : V76.cell? ⟨pz, 1, none⟩ = some (.int .i64 0) := bz.cell 1
                      have sf := bz.frozen0
                      have sl := bz.lt
                      go_wp2_with fail
                      replace bz := bz.set_ 0 (.int .i64 R1.lo)
                      replace bm := bm.far (p := ⟨pz, 0, none⟩) nmz (.int .i64 R1.lo)
                      replace XA8 := ex_set (p := ⟨pz, 0, none⟩) XA8 yz (.int .i64 R1.lo)
                      replace bz := bz.set_ 1 (.int .i64 R1.hi)
                      replace bm := bm.far (p := ⟨pz, 1, none⟩) nmz (.int .i64 R1.hi)
                      replace XA8 := ex_set (p := ⟨pz, 1, none⟩) XA8 yz (.int .i64 R1.hi)
                      simp only [List.setIfInBounds_toArray, List.set_cons_zero, List.set_cons_succ] at bz
                      clear sf sl sc0 sc1
                      generalize ((V76.setCell ⟨pz, 0, none⟩ (.int .i64 R1.lo)).setCell ⟨pz, 1, none⟩ (.int .i64 R1.hi)) = V77 at *
                      refine ⟨inEx XA8, ?_⟩
                      repeat (refine tq_quiet rfl ?_; go_big_quiet_step (fail); refine wpQuiet_nil ?_)
                      refine tq_done (r := [_]) rfl ?_
                      go_wp2_with fail
                      exact hrest V77 R1 ev1 _ (XA8) hc1 (exFrame (by kernel_rfl))
                  · go_wp2_with fail
                    have sz := (N1).size
                    try simp at sz
                    have N7 := ex_alloc N1 (.cells #[.int .i64 0, .int .i64 0] 23)
                    have bz : Blk (V71.alloc (.cells #[.int .i64 0, .int .i64 0] 23)) (V71.heap.size) 23 #[.int .i64 0, .int .i64 0] := Blk.new' _ _ _ (by first | rfl | (simp; done) | (simp; omega))
                    replace hg1 := hg1.go (ex_alloc (Below.refl V71.heap.size V71) (.cells #[.int .i64 0, .int .i64 0] 23))
                    replace hh1 := hh1.go (ex_alloc (Below.refl V71.heap.size V71) (.cells #[.int .i64 0, .int .i64 0] 23))
                    obtain ⟨pz, hpz⟩ : ∃ p, V71.heap.size = p := ⟨_, rfl⟩
                    rw [hpz] at bz
                    try rw [hpz]
                    have yz : V54.heap.size ≤ pz := by omega
                    clear sz
                    refine ⟨inEx N7, ?_⟩
                    repeat (refine tq_quiet rfl ?_; go_big_quiet_step (fail); refine wpQuiet_nil ?_)
                    refine tq_loud rfl ?_
                    go_wp2_with fail
                    have tmz := bz.lt
                    try simp at tmz
                    have sm := (N7).size
                    try simp at sm
                    have N2 := ex_alloc N7 (.cells oc 37)
                    have bm : Blk ((V71.alloc (.cells #[.int .i64 0, .int .i64 0] 23)).alloc (.cells oc 37)) (pz + 1) 37 oc := Blk.new' _ _ _ (by first | rfl | (simp; done) | (simp; omega))
                    replace bz := bz.alloc (.cells oc 37)
                    replace hg1 := hg1.go (ex_alloc (Below.refl (V71.alloc (.cells #[.int .i64 0, .int .i64 0] 23)).heap.size (V71.alloc (.cells #[.int .i64 0, .int .i64 0] 23))) (.cells oc 37))
                    replace hh1 := hh1.go (ex_alloc (Below.refl (V71.alloc (.cells #[.int .i64 0, .int .i64 0] 23)).heap.size (V71.alloc (.cells #[.int .i64 0, .int .i64 0] 23))) (.cells oc 37))
                    obtain ⟨pm, hpm⟩ : ∃ p, pz + 1 = p := ⟨_, rfl⟩
                    rw [hpm] at bm
                    try rw [hpm]
                    have nmz : pm ≠ pz := by omega
                    have nzm : pz ≠ pm := by omega
                    clear tmz
                    have ym : V54.heap.size ≤ pm := by omega
                    clear sm
                    refine ⟨inEx N2, ?_⟩
                    repeat (refine tq_quiet rfl ?_; go_big_quiet_step (fail); refine wpQuiet_nil ?_)
                    refine tq_loud rfl ?_
                    go_wp2_with fail
                    refine (Same_v rodT Ab1 Ad1 2 2 A1 none (some ⟨pm, 0, none⟩) 4 0 6 springH [] [nmZero, nmZero, nmZero, nmZero, nmZero, nmZero] _ hg1 hh1 (hn _) (by first | exact zer6 HOC.out bm | exact zer6 HOC.out (Blk.drew bm)) (by decide) (by decide)).mono ?_
                    rintro e V78 ⟨⟨R1, ev1, rfl, hc1⟩, hV78⟩
                    replace bz := Blk.below bz hV78 bz.lt
                    replace bm := Blk.below bm hV78 bm.lt
                    have N3 := ex_trans N2 hV78
                    go_wp2_with fail
                    refine ⟨inEx N3, ?_⟩
                    repeat (refine tq_quiet rfl ?_; go_big_quiet_step (fail); refine wpQuiet_nil ?_)
                    refine tq_loud rfl ?_
                    have XA8 := N3
                    generalize V78 = V79 at *
                    have sc0 : V79.cell? ⟨pz, 0, none⟩ = some (.int .i64 0) := bz.cell 0
                    have sc1 : V79.cell? ⟨pz, 1, none⟩ = some (.int .i64 0) := bz.cell 1
                    have sf := bz.frozen0
                    have sl := bz.lt
                    go_wp2_with fail
                    replace bz := bz.set_ 0 (.int .i64 R1.lo)
                    replace bm := bm.far (p := ⟨pz, 0, none⟩) nmz (.int .i64 R1.lo)
                    replace XA8 := ex_set (p := ⟨pz, 0, none⟩) XA8 yz (.int .i64 R1.lo)
                    replace bz := bz.set_ 1 (.int .i64 R1.hi)
                    replace bm := bm.far (p := ⟨pz, 1, none⟩) nmz (.int .i64 R1.hi)
                    replace XA8 := ex_set (p := ⟨pz, 1, none⟩) XA8 yz (.int .i64 R1.hi)
                    simp only [List.setIfInBounds_toArray, List.set_cons_zero, List.set_cons_succ] at bz
                    clear sf sl sc0 sc1
                    generalize ((V79.setCell ⟨pz, 0, none⟩ (.int .i64 R1.lo)).setCell ⟨pz, 1, none⟩ (.int .i64 R1.hi)) = V80 at *
                    refine ⟨inEx XA8, ?_⟩
                    repeat (refine tq_quiet rfl ?_; go_big_quiet_step (fail); refine wpQuiet_nil ?_)
                    refine tq_done (r := [_]) rfl ?_
                    go_wp2_with fail
                    exact hrest V80 R1 ev1 _ (XA8) hc1 (exFrame (by kernel_rfl))
                · go_wp2_with fail
                  have sm := (N0).size
                  try simp at sm
                  have N2 := ex_alloc N0 (.cells oc 37)
                  have bm : Blk (V70.alloc (.cells oc 37)) (V70.heap.size) 37 oc := Blk.new' _ _ _ (by first | rfl | (simp; done) | (simp; omega))
                  replace hg1 := hg1.go (ex_alloc (Below.refl V70.heap.size V70) (.cells oc 37))
                  obtain ⟨pm, hpm⟩ : ∃ p, V70.heap.size = p := ⟨_, rfl⟩
                  rw [hpm] at bm
                  try rw [hpm]
                  have ym : V54.heap.size ≤ pm := by omega
                  clear sm
                  refine ⟨inEx N2, ?_⟩
                  repeat (refine tq_quiet rfl ?_; go_big_quiet_step (fail); refine wpQuiet_nil ?_)
                  refine tq_fork rfl rfl ?_ ?_
                  · go_wp2_with fail
                    refine (sr_spring _).mono ?_
                    rintro e V81 ⟨⟨A1, rfl, hh1⟩, hV81⟩
                    replace bm := Blk.below bm hV81 bm.lt
                    have N1 := ex_trans N2 hV81
                    go_wp2_with fail
                    replace hg1 := hg1.go hV81
                    refine ⟨inEx N1, ?_⟩
                    repeat (refine tq_quiet rfl ?_; go_big_quiet_step (fail); refine wpQuiet_nil ?_)
                    refine tq_fork rfl rfl ?_ ?_
                    · go_wp2_with fail
                      refine (Same_v rodT Ab1 Ad1 2 2 A1 none (some ⟨pm, 0, none⟩) 4 0 6 springH [] [nmZero, nmZero, nmZero, nmZero, nmZero, nmZero] _ hg1 hh1 (hn _) (by first | exact zer6 HOC.out bm | exact zer6 HOC.out (Blk.drew bm)) (by decide) (by decide)).mono ?_
                      rintro e V82 ⟨⟨R1, ev1, rfl, hc1⟩, hV82⟩
                      replace bm := Blk.below bm hV82 bm.lt
                      have N3 := ex_trans N1 hV82
                      go_wp2_with fail
                      refine ⟨inEx N3, ?_⟩
                      repeat (refine tq_quiet rfl ?_; go_big_quiet_step (fail); refine wpQuiet_nil ?_)
                      refine tq_loud rfl ?_
                      go_wp2_with fail
                      have tzm := bm.lt
                      try simp at tzm
                      have sz := (N3).size
                      try simp at sz
                      have N7 := ex_alloc N3 (.cells #[.int .i64 0, .int .i64 0] 23)
                      have bz : Blk (V82.alloc (.cells #[.int .i64 0, .int .i64 0] 23)) (V82.heap.size) 23 #[.int .i64 0, .int .i64 0] := Blk.new' _ _ _ (by first | rfl | (simp; done) | (simp; omega))
                      replace bm := bm.alloc (.cells #[.int .i64 0, .int .i64 0] 23)
                      obtain ⟨pz, hpz⟩ : ∃ p, V82.heap.size = p := ⟨_, rfl⟩
                      rw [hpz] at bz
                      try rw [hpz]
                      have nzm : pz ≠ pm := by omega
                      have nmz : pm ≠ pz := by omega
                      clear tzm
                      have yz : V54.heap.size ≤ pz := by omega
                      clear sz
                      refine ⟨inEx N7, ?_⟩
                      repeat (refine tq_quiet rfl ?_; go_big_quiet_step (fail); refine wpQuiet_nil ?_)
                      refine tq_loud rfl ?_
                      have XA8 := N7
                      generalize (V82.alloc (.cells #[.int .i64 0, .int .i64 0] 23)) = V83 at *
                      have sc0 : V83.cell? ⟨pz, 0, none⟩ = some (.int .i64 0) := bz.cell 0
                      have sc1 : V83.cell? ⟨pz, 1, none⟩ = some (.int .i64 0) := bz.cell 1
                      have sf := bz.frozen0
                      have sl := bz.lt
                      go_wp2_with fail
                      replace bz := bz.set_ 0 (.int .i64 R1.lo)
                      replace bm := bm.far (p := ⟨pz, 0, none⟩) nmz (.int .i64 R1.lo)
                      replace XA8 := ex_set (p := ⟨pz, 0, none⟩) XA8 yz (.int .i64 R1.lo)
                      replace bz := bz.set_ 1 (.int .i64 R1.hi)
                      replace bm := bm.far (p := ⟨pz, 1, none⟩) nmz (.int .i64 R1.hi)
                      replace XA8 := ex_set (p := ⟨pz, 1, none⟩) XA8 yz (.int .i64 R1.hi)
                      simp only [List.setIfInBounds_toArray, List.set_cons_zero, List.set_cons_succ] at bz
                      clear sf sl sc0 sc1
                      generalize ((V83.setCell ⟨pz, 0, none⟩ (.int .i64 R1.lo)).setCell ⟨pz, 1, none⟩ (.int .i64 R1.hi)) = V84 at *
                      refine ⟨inEx XA8, ?_⟩
                      repeat (refine tq_quiet rfl ?_; go_big_quiet_step (fail); refine wpQuiet_nil ?_)
                      refine tq_done (r := [_]) rfl ?_
                      go_wp2_with fail
                      exact hrest V84 R1 ev1 _ (XA8) hc1 (exFrame (by kernel_rfl))
                    · go_wp2_with fail
                      have tzm := bm.lt
                      try simp at tzm
                      have sz := (N1).size
                      try simp at sz
                      have N7 := ex_alloc N1 (.cells #[.int .i64 0, .int .i64 0] 23)
                      have bz : Blk (V81.alloc (.cells #[.int .i64 0, .int .i64 0] 23)) (V81.heap.size) 23 #[.int .i64 0, .int .i64 0] := Blk.new' _ _ _ (by first | rfl | (simp; done) | (simp; omega))
                      replace bm := bm.alloc (.cells #[.int .i64 0, .int .i64 0] 23)
                      replace hg1 := hg1.go (ex_alloc (Below.refl V81.heap.size V81) (.cells #[.int .i64 0, .int .i64 0] 23))
                      replace hh1 := hh1.go (ex_alloc (Below.refl V81.heap.size V81) (.cells #[.int .i64 0, .int .i64 0] 23))
                      obtain ⟨pz, hpz⟩ : ∃ p, V81.heap.size = p := ⟨_, rfl⟩
                      rw [hpz] at bz
                      try rw [hpz]
                      have nzm : pz ≠ pm := by omega
                      have nmz : pm ≠ pz := by omega
                      clear tzm
                      have yz : V54.heap.size ≤ pz := by omega
                      clear sz
                      refine ⟨inEx N7, ?_⟩
                      repeat (refine tq_quiet rfl ?_; go_big_quiet_step (fail); refine wpQuiet_nil ?_)
                      refine tq_loud rfl ?_
                      go_wp2_with fail
                      refine (Same_v rodT Ab1 Ad1 2 2 A1 none (some ⟨pm, 0, none⟩) 4 0 6 springH [] [nmZero, nmZero, nmZero, nmZero, nmZero, nmZero] _ hg1 hh1 (hn _) (by first | exact zer6 HOC.out bm | exact zer6 HOC.out (Blk.drew bm)) (by decide) (by decide)).mono ?_
                      rintro e V85 ⟨⟨R1, ev1, rfl, hc1⟩, hV85⟩
                      replace bm := Blk.below bm hV85 bm.lt
                      replace bz := Blk.below bz hV85 bz.lt
                      have N3 := ex_trans N7 hV85
                      go_wp2_with fail
                      refine ⟨inEx N3, ?_⟩
                      repeat (refine tq_quiet rfl ?_; go_big_quiet_step (fail); refine wpQuiet_nil ?_)
                      refine tq_loud rfl ?_
                      have XA8 := N3
                      generalize V85 = V86 at *
                      have sc0 : V86.cell? ⟨pz, 0, none⟩ = some (.int .i64 0) := bz.cell 0
                      have sc1 : V86.cell? ⟨pz, 1, none⟩ = some (.int .i64 0) := bz.cell 1
                      have sf := bz.frozen0
                      have sl := bz.lt
                      go_wp2_with fail
                      replace bz := bz.set_ 0 (.int .i64 R1.lo)
                      replace bm := bm.far (p := ⟨pz, 0, none⟩) nmz (.int .i64 R1.lo)
                      replace XA8 := ex_set (p := ⟨pz, 0, none⟩) XA8 yz (.int .i64 R1.lo)
                      replace bz := bz.set_ 1 (.int .i64 R1.hi)
                      replace bm := bm.far (p := ⟨pz, 1, none⟩) nmz (.int .i64 R1.hi)
                      replace XA8 := ex_set (p := ⟨pz, 1, none⟩) XA8 yz (.int .i64 R1.hi)
                      simp only [List.setIfInBounds_toArray, List.set_cons_zero, List.set_cons_succ] at bz
                      clear sf sl sc0 sc1
                      generalize ((V86.setCell ⟨pz, 0, none⟩ (.int .i64 R1.lo)).setCell ⟨pz, 1, none⟩ (.int .i64 R1.hi)) = V87 at *
                      refine ⟨inEx XA8, ?_⟩
                      repeat (refine tq_quiet rfl ?_; go_big_quiet_step (fail); refine wpQuiet_nil ?_)
                      refine tq_done (r := [_]) rfl ?_
                      go_wp2_with fail
                      exact hrest V87 R1 ev1 _ (XA8) hc1 (exFrame (by kernel_rfl))
                  · go_wp2_with fail
                    have tzm := bm.lt
                    try simp at tzm
                    have sz := (N2).size
                    try simp at sz
                    have N7 := ex_alloc N2 (.cells #[.int .i64 0, .int .i64 0] 23)
                    have bz : Blk ((V70.alloc (.cells oc 37)).alloc (.cells #[.int .i64 0, .int .i64 0] 23)) (pm + 1) 23 #[.int .i64 0, .int .i64 0] := Blk.new' _ _ _ (by first | rfl | (simp; done) | (simp; omega))
                    replace bm := bm.alloc (.cells #[.int .i64 0, .int .i64 0] 23)
                    replace hg1 := hg1.go (ex_alloc (Below.refl (V70.alloc (.cells oc 37)).heap.size (V70.alloc (.cells oc 37))) (.cells #[.int .i64 0, .int .i64 0] 23))
                    obtain ⟨pz, hpz⟩ : ∃ p, pm + 1 = p := ⟨_, rfl⟩
                    rw [hpz] at bz
                    try rw [hpz]
                    have nzm : pz ≠ pm := by omega
                    have nmz : pm ≠ pz := by omega
                    clear tzm
                    have yz : V54.heap.size ≤ pz := by omega
                    clear sz
                    refine ⟨inEx N7, ?_⟩
                    repeat (refine tq_quiet rfl ?_; go_big_quiet_step (fail); refine wpQuiet_nil ?_)
                    refine tq_loud rfl ?_
                    go_wp2_with fail
                    refine (sr_spring _).mono ?_
                    rintro e V88 ⟨⟨A1, rfl, hh1⟩, hV88⟩
                    replace bm := Blk.below bm hV88 bm.lt
                    replace bz := Blk.below bz hV88 bz.lt
                    have N1 := ex_trans N7 hV88
                    go_wp2_with fail
                    replace hg1 := hg1.go hV88
                    refine ⟨inEx N1, ?_⟩
                    repeat (refine tq_quiet rfl ?_; go_big_quiet_step (fail); refine wpQuiet_nil ?_)
                    refine tq_loud rfl ?_
                    go_wp2_with fail
                    refine (Same_v rodT Ab1 Ad1 2 2 A1 none (some ⟨pm, 0, none⟩) 4 0 6 springH [] [nmZero, nmZero, nmZero, nmZero, nmZero, nmZero] _ hg1 hh1 (hn _) (by first | exact zer6 HOC.out bm | exact zer6 HOC.out (Blk.drew bm)) (by decide) (by decide)).mono ?_
                    rintro e V89 ⟨⟨R1, ev1, rfl, hc1⟩, hV89⟩
                    replace bm := Blk.below bm hV89 bm.lt
                    replace bz := Blk.below bz hV89 bz.lt
                    have N3 := ex_trans N1 hV89
                    go_wp2_with fail
                    refine ⟨inEx N3, ?_⟩
                    repeat (refine tq_quiet rfl ?_; go_big_quiet_step (fail); refine wpQuiet_nil ?_)
                    refine tq_loud rfl ?_
                    have XA8 := N3
                    generalize V89 = V90 at *
                    have sc0 : V90.cell? ⟨pz, 0, none⟩ = some (.int .i64 0) := bz.cell 0
                    have sc1 : V90.cell? ⟨pz, 1, none⟩ = some (.int .i64 0) := bz.cell 1
                    have sf := bz.frozen0
                    have sl := bz.lt
                    go_wp2_with fail
                    replace bz := bz.set_ 0 (.int .i64 R1.lo)
                    replace bm := bm.far (p := ⟨pz, 0, none⟩) nmz (.int .i64 R1.lo)
                    replace XA8 := ex_set (p := ⟨pz, 0, none⟩) XA8 yz (.int .i64 R1.lo)
                    replace bz := bz.set_ 1 (.int .i64 R1.hi)
                    replace bm := bm.far (p := ⟨pz, 1, none⟩) nmz (.int .i64 R1.hi)
                    replace XA8 := ex_set (p := ⟨pz, 1, none⟩) XA8 yz (.int .i64 R1.hi)
                    simp only [List.setIfInBounds_toArray, List.set_cons_zero, List.set_cons_succ] at bz
                    clear sf sl sc0 sc1
                    generalize ((V90.setCell ⟨pz, 0, none⟩ (.int .i64 R1.lo)).setCell ⟨pz, 1, none⟩ (.int .i64 R1.hi)) = V91 at *
                    refine ⟨inEx XA8, ?_⟩
                    repeat (refine tq_quiet rfl ?_; go_big_quiet_step (fail); refine wpQuiet_nil ?_)
                    refine tq_done (r := [_]) rfl ?_
                    go_wp2_with fail
                    exact hrest V91 R1 ev1 _ (XA8) hc1 (exFrame (by kernel_rfl))
                · go_wp2_with fail
                  have sz := (N0).size
                  try simp at sz
                  have N7 := ex_alloc N0 (.cells #[.int .i64 0, .int .i64 0] 23)
                  have bz : Blk (V70.alloc (.cells #[.int .i64 0, .int .i64 0] 23)) (V70.heap.size) 23 #[.int .i64 0, .int .i64 0] := Blk.new' _ _ _ (by first | rfl | (simp; done) | (simp; omega))
                  replace hg1 := hg1.go (ex_alloc (Below.refl V70.heap.size V70) (.cells #[.int .i64 0, .int .i64 0] 23))
                  obtain ⟨pz, hpz⟩ : ∃ p, V70.heap.size = p := ⟨_, rfl⟩
                  rw [hpz] at bz
                  try rw [hpz]
                  have yz : V54.heap.size ≤ pz := by omega
                  clear sz
                  refine ⟨inEx N7, ?_⟩
                  repeat (refine tq_quiet rfl ?_; go_big_quiet_step (fail); refine wpQuiet_nil ?_)
                  refine tq_fork rfl rfl ?_ ?_
                  · go_wp2_with fail
                    refine (sr_spring _).mono ?_
                    rintro e V92 ⟨⟨A1, rfl, hh1⟩, hV92⟩
                    replace bz := Blk.below bz hV92 bz.lt
                    have N1 := ex_trans N7 hV92
                    go_wp2_with fail
                    replace hg1 := hg1.go hV92
                    refine ⟨inEx N1, ?_⟩
                    repeat (refine tq_quiet rfl ?_; go_big_quiet_step (fail); refine wpQuiet_nil ?_)
                    refine tq_loud rfl ?_
                    go_wp2_with fail
                    have tmz := bz.lt
                    try simp at tmz
                    have sm := (N1).size
                    try simp at sm
                    have N2 := ex_alloc N1 (.cells oc 37)
                    have bm : Blk (V92.alloc (.cells oc 37)) (V92.heap.size) 37 oc := Blk.new' _ _ _ (by first | rfl | (simp; done) | (simp; omega))
                    replace bz := bz.alloc (.cells oc 37)
                    replace hg1 := hg1.go (ex_alloc (Below.refl V92.heap.size V92) (.cells oc 37))
                    replace hh1 := hh1.go (ex_alloc (Below.refl V92.heap.size V92) (.cells oc 37))
                    obtain ⟨pm, hpm⟩ : ∃ p, V92.heap.size = p := ⟨_, rfl⟩
                    rw [hpm] at bm
                    try rw [hpm]
                    have nmz : pm ≠ pz := by omega
                    have nzm : pz ≠ pm := by omega
                    clear tmz
                    have ym : V54.heap.size ≤ pm := by omega
                    clear sm
                    refine ⟨inEx N2, ?_⟩
                    repeat (refine tq_quiet rfl ?_; go_big_quiet_step (fail); refine wpQuiet_nil ?_)
                    refine tq_loud rfl ?_
                    go_wp2_with fail
                    refine (Same_v rodT Ab1 Ad1 2 2 A1 none (some ⟨pm, 0, none⟩) 4 0 6 springH [] [nmZero, nmZero, nmZero, nmZero, nmZero, nmZero] _ hg1 hh1 (hn _) (by first | exact zer6 HOC.out bm | exact zer6 HOC.out (Blk.drew bm)) (by decide) (by decide)).mono ?_
                    rintro e V93 ⟨⟨R1, ev1, rfl, hc1⟩, hV93⟩
                    replace bz := Blk.below bz hV93 bz.lt
                    replace bm := Blk.below bm hV93 bm.lt
                    have N3 := ex_trans N2 hV93
                    go_wp2_with fail
                    refine ⟨inEx N3, ?_⟩
                    repeat (refine tq_quiet rfl ?_; go_big_quiet_step (fail); refine wpQuiet_nil ?_)
                    refine tq_loud rfl ?_
                    have XA8 := N3
                    generalize V93 = V94 at *
                    have sc0 : V94.cell? ⟨pz, 0, none⟩ = some (.int .i64 0) := bz.cell 0
                    have sc1 : V94.cell? ⟨pz, 1, none⟩ = some (.int .i64 0) := bz.cell 1
                    have sf := bz.frozen0
                    have sl := bz.lt
                    go_wp2_with fail
                    replace bz := bz.set_ 0 (.int .i64 R1.lo)
                    replace bm := bm.far (p := ⟨pz, 0, none⟩) nmz (.int .i64 R1.lo)
                    replace XA8 := ex_set (p := ⟨pz, 0, none⟩) XA8 yz (.int .i64 R1.lo)
                    replace bz := bz.set_ 1 (.int .i64 R1.hi)
                    replace bm := bm.far (p := ⟨pz, 1, none⟩) nmz (.int .i64 R1.hi)
                    replace XA8 := ex_set (p := ⟨pz, 1, none⟩) XA8 yz (.int .i64 R1.hi)
                    simp only [List.setIfInBounds_toArray, List.set_cons_zero, List.set_cons_succ] at bz
                    clear sf sl sc0 sc1
                    generalize ((V94.setCell ⟨pz, 0, none⟩ (.int .i64 R1.lo)).setCell ⟨pz, 1, none⟩ (.int .i64 R1.hi)) = V95 at *
                    refine ⟨inEx XA8, ?_⟩
                    repeat (refine tq_quiet rfl ?_; go_big_quiet_step (fail); refine wpQuiet_nil ?_)
                    refine tq_done (r := [_]) rfl ?_
                    go_wp2_with fail
                    exact hrest V95 R1 ev1 _ (XA8) hc1 (exFrame (by kernel_rfl))
                  · go_wp2_with fail
                    have tmz := bz.lt
                    try simp at tmz
                    have sm := (N7).size
                    try simp at sm
                    have N2 := ex_alloc N7 (.cells oc 37)
                    have bm : Blk ((V70.alloc (.cells #[.int .i64 0, .int .i64 0] 23)).alloc (.cells oc 37)) (pz + 1) 37 oc := Blk.new' _ _ _ (by first | rfl | (simp; done) | (simp; omega))
                    replace bz := bz.alloc (.cells oc 37)
                    replace hg1 := hg1.go (ex_alloc (Below.refl (V70.alloc (.cells #[.int .i64 0, .int .i64 0] 23)).heap.size (V70.alloc (.cells #[.int .i64 0, .int .i64 0] 23))) (.cells oc 37))
                    obtain ⟨pm, hpm⟩ : ∃ p, pz + 1 = p := ⟨_, rfl⟩
                    rw [hpm] at bm
                    try rw [hpm]
                    have nmz : pm ≠ pz := by omega
                    have nzm : pz ≠ pm := by omega
                    clear tmz
                    have ym : V54.heap.size ≤ pm := by omega
                    clear sm
                    refine ⟨inEx N2, ?_⟩
                    repeat (refine tq_quiet rfl ?_; go_big_quiet_step (fail); refine wpQuiet_nil ?_)
                    refine tq_loud rfl ?_
                    go_wp2_with fail
                    refine (sr_spring _).mono ?_
                    rintro e V96 ⟨⟨A1, rfl, hh1⟩, hV96⟩
                    replace bz := Blk.below bz hV96 bz.lt
                    replace bm := Blk.below bm hV96 bm.lt
                    have N1 := ex_trans N2 hV96
                    go_wp2_with fail
                    replace hg1 := hg1.go hV96
                    refine ⟨inEx N1, ?_⟩
                    repeat (refine tq_quiet rfl ?_; go_big_quiet_step (fail); refine wpQuiet_nil ?_)
                    refine tq_loud rfl ?_
                    go_wp2_with fail
                    refine (Same_v rodT Ab1 Ad1 2 2 A1 none (some ⟨pm, 0, none⟩) 4 0 6 springH [] [nmZero, nmZero, nmZero, nmZero, nmZero, nmZero] _ hg1 hh1 (hn _) (by first | exact zer6 HOC.out bm | exact zer6 HOC.out (Blk.drew bm)) (by decide) (by decide)).mono ?_
                    rintro e V97 ⟨⟨R1, ev1, rfl, hc1⟩, hV97⟩
                    replace bz := Blk.below bz hV97 bz.lt
                    replace bm := Blk.below bm hV97 bm.lt
                    have N3 := ex_trans N1 hV97
                    go_wp2_with fail
                    refine ⟨inEx N3, ?_⟩
                    repeat (refine tq_quiet rfl ?_; go_big_quiet_step (fail); refine wpQuiet_nil ?_)
                    refine tq_loud rfl ?_
                    have XA8 := N3
                    generalize V97 = V98 at *
                    have sc0 : V98.cell? ⟨pz, 0, none⟩ = some (.int .i64 0) := bz.cell 0
                    have sc1 : V98.cell? ⟨pz, 1, none⟩ = some (.int .i64 0) := bz.cell 1
                    have sf := bz.frozen0
                    have sl := bz.lt
                    go_wp2_with fail
                    replace bz := bz.set_ 0 (.int .i64 R1.lo)
                    replace bm := bm.far (p := ⟨pz, 0, none⟩) nmz (.int .i64 R1.lo)
                    replace XA8 := ex_set (p := ⟨pz, 0, none⟩) XA8 yz (.int .i64 R1.lo)
                    replace bz := bz.set_ 1 (.int .i64 R1.hi)
                    replace bm := bm.far (p := ⟨pz, 1, none⟩) nmz (.int .i64 R1.hi)
                    replace XA8 := ex_set (p := ⟨pz, 1, none⟩) XA8 yz (.int .i64 R1.hi)
                    simp only [List.setIfInBounds_toArray, List.set_cons_zero, List.set_cons_succ] at bz
                    clear sf sl sc0 sc1
                    generalize ((V98.setCell ⟨pz, 0, none⟩ (.int .i64 R1.lo)).setCell ⟨pz, 1, none⟩ (.int .i64 R1.hi)) = V99 at *
                    refine ⟨inEx XA8, ?_⟩
                    repeat (refine tq_quiet rfl ?_; go_big_quiet_step (fail); refine wpQuiet_nil ?_)
                    refine tq_done (r := [_]) rfl ?_
                    go_wp2_with fail
                    exact hrest V99 R1 ev1 _ (XA8) hc1 (exFrame (by kernel_rfl))
              · go_wp2_with fail
                have sm := ((Below.refl V54.heap.size V54)).size
                try simp at sm
                have N2 := ex_alloc (Below.refl V54.heap.size V54) (.cells oc 37)
                have bm : Blk (V54.alloc (.cells oc 37)) (V54.heap.size) 37 oc := Blk.new' _ _ _ (by first | rfl | (simp; done) | (simp; omega))
                obtain ⟨pm, hpm⟩ : ∃ p, V54.heap.size = p := ⟨_, rfl⟩
                rw [hpm] at bm
                try rw [hpm]
                have ym : V54.heap.size ≤ pm := by omega
                clear sm
                refine ⟨inEx (N2).drew, ?_⟩
                repeat (refine tq_quiet rfl ?_; go_big_quiet_step (fail); refine wpQuiet_nil ?_)
                refine tq_fork rfl rfl ?_ ?_
                · go_wp2_with fail
                  refine (sr_rod _).mono ?_
                  rintro e V100 ⟨⟨Ab1, Ad1, rfl, hg1⟩, hV100⟩
                  replace bm := Blk.below (Blk.drew bm) hV100 bm.lt
                  have N0 := ex_trans (N2).drew hV100
                  go_wp2_with fail
                  refine ⟨inEx N0, ?_⟩
                  repeat (refine tq_quiet rfl ?_; go_big_quiet_step (fail); refine wpQuiet_nil ?_)
                  refine tq_fork rfl rfl ?_ ?_
                  · go_wp2_with fail
                    refine (sr_spring _).mono ?_
                    rintro e V101 ⟨⟨A1, rfl, hh1⟩, hV101⟩
                    replace bm := Blk.below bm hV101 bm.lt
                    have N1 := ex_trans N0 hV101
                    go_wp2_with fail
                    replace hg1 := hg1.go hV101
                    refine ⟨inEx N1, ?_⟩
                    repeat (refine tq_quiet rfl ?_; go_big_quiet_step (fail); refine wpQuiet_nil ?_)
                    refine tq_fork rfl rfl ?_ ?_
                    · go_wp2_with fail
                      refine (Same_v rodT Ab1 Ad1 2 2 A1 none (some ⟨pm, 0, none⟩) 4 0 6 springH [] [nmZero, nmZero, nmZero, nmZero, nmZero, nmZero] _ hg1 hh1 (hn _) (by first | exact zer6 HOC.out bm | exact zer6 HOC.out (Blk.drew bm)) (by decide) (by decide)).mono ?_
                      rintro e V102 ⟨⟨R1, ev1, rfl, hc1⟩, hV102⟩
                      replace bm := Blk.below bm hV102 bm.lt
                      have N3 := ex_trans N1 hV102
                      go_wp2_with fail
                      refine ⟨inEx N3, ?_⟩
                      repeat (refine tq_quiet rfl ?_; go_big_quiet_step (fail); refine wpQuiet_nil ?_)
                      refine tq_loud rfl ?_
                      go_wp2_with fail
                      have tzm := bm.lt
                      try simp at tzm
                      have sz := (N3).size
                      try simp at sz
                      have N7 := ex_alloc N3 (.cells #[.int .i64 0, .int .i64 0] 23)
                      have bz : Blk (V102.alloc (.cells #[.int .i64 0, .int .i64 0] 23)) (V102.heap.size) 23 #[.int .i64 0, .int .i64 0] := Blk.new' _ _ _ (by first | rfl | (simp; done) | (simp; omega))
                      replace bm := bm.alloc (.cells #[.int .i64 0, .int .i64 0] 23)
                      obtain ⟨pz, hpz⟩ : ∃ p, V102.heap.size = p := ⟨_, rfl⟩
                      rw [hpz] at bz
                      try rw [hpz]
                      have nzm : pz ≠ pm := by omega
                      have nmz : pm ≠ pz := by omega
                      clear tzm
                      have yz : V54.heap.size ≤ pz := by omega
                      clear sz
                      refine ⟨inEx N7, ?_⟩
                      repeat (refine tq_quiet rfl ?_; go_big_quiet_step (fail); refine wpQuiet_nil ?_)
                      refine tq_loud rfl ?_
                      have XA8 := N7
                      generalize (V102.alloc (.cells #[.int .i64 0, .int .i64 0] 23)) = V103 at *
                      have sc0 : V103.cell? ⟨pz, 0, none⟩ = some (.int .i64 0) := bz.cell 0
                      have sc1 : V103.cell? ⟨pz, 1, none⟩ = some (.int .i64 0) := bz.cell 1
                      have sf := bz.frozen0
                      have sl := bz.lt
                      go_wp2_with fail
                      replace bz := bz.set_ 0 (.int .i64 R1.lo)
                      replace bm := bm.far (p := ⟨pz, 0, none⟩) nmz (.int .i64 R1.lo)
                      replace XA8 := ex_set (p := ⟨pz, 0, none⟩) XA8 yz (.int .i64 R1.lo)
                      replace bz := bz.set_ 1 (.int .i64 R1.hi)
                      replace bm := bm.far (p := ⟨pz, 1, none⟩) nmz (.int .i64 R1.hi)
                      replace XA8 := ex_set (p := ⟨pz, 1, none⟩) XA8 yz (.int .i64 R1.hi)
                      simp only [List.setIfInBounds_toArray, List.set_cons_zero, List.set_cons_succ] at bz
                      clear sf sl sc0 sc1
                      generalize ((V103.setCell ⟨pz, 0, none⟩ (.int .i64 R1.lo)).setCell ⟨pz, 1, none⟩ (.int .i64 R1.hi)) = V104 at *
                      refine ⟨inEx XA8, ?_⟩
                      repeat (refine tq_quiet rfl ?_; go_big_quiet_step (fail); refine wpQuiet_nil ?_)
                      refine tq_done (r := [_]) rfl ?_
                      go_wp2_with fail
                      exact hrest V104 R1 ev1 _ (XA8) hc1 (exFrame (by kernel_rfl))
                    · go_wp2_with fail
                      have tzm := bm.lt
                      try simp at tzm
                      have sz := (N1).size
                      try simp at sz
                      have N7 := ex_alloc N1 (.cells #[.int .i64 0, .int .i64 0] 23)
                      have bz : Blk (V101.alloc (.cells #[.int .i64 0, .int .i64 0] 23)) (V101.heap.size) 23 #[.int .i64 0, .int .i64 0] := Blk.new' _ _ _ (by first | rfl | (simp; done) | (simp; omega))
                      replace bm := bm.alloc (.cells #[.int .i64 0, .int .i64 0] 23)
                      replace hg1 := hg1.go (ex_alloc (Below.refl V101.heap.size V101) (.cells #[.int .i64 0, .int .i64 0] 23))
                      replace hh1 := hh1.go (ex_alloc (Below.refl V101.heap.size V101) (.cells #[.int .i64 0, .int .i64 0] 23))
                      obtain ⟨pz, hpz⟩ : ∃ p, V101.heap.size = p := ⟨_, rfl⟩
                      rw [hpz] at bz
                      try rw [hpz]
                      have nzm : pz ≠ pm := by omega
                      have nmz : pm ≠ pz := by omega
                      clear tzm
                      have yz : V54.heap.size ≤ pz := by omega
                      clear sz
                      refine ⟨inEx N7, ?_⟩
                      repeat (refine tq_quiet rfl ?_; go_big_quiet_step (fail); refine wpQuiet_nil ?_)
                      refine tq_loud rfl ?_
                      go_wp2_with fail
                      refine (Same_v rodT Ab1 Ad1 2 2 A1 none (some ⟨pm, 0, none⟩) 4 0 6 springH [] [nmZero, nmZero, nmZero, nmZero, nmZero, nmZero] _ hg1 hh1 (hn _) (by first | exact zer6 HOC.out bm | exact zer6 HOC.out (Blk.drew bm)) (by decide) (by decide)).mono ?_
                      rintro e V105 ⟨⟨R1, ev1, rfl, hc1⟩, hV105⟩
                      replace bm := Blk.below bm hV105 bm.lt
                      replace bz := Blk.below bz hV105 bz.lt
                      have N3 := ex_trans N7 hV105
                      go_wp2_with fail
                      refine ⟨inEx N3, ?_⟩
                      repeat (refine tq_quiet rfl ?_; go_big_quiet_step (fail); refine wpQuiet_nil ?_)
                      refine tq_loud rfl ?_
                      have XA8 := N3
                      generalize V105 = V106 at *
                      have sc0 : V106.cell? ⟨pz, 0, none⟩ = some (.int .i64 0) := bz.cell 0
                      have sc1 : V106.cell? ⟨pz, 1, none⟩ = some (.int .i64 0) := bz.cell 1
                      have sf := bz.frozen0
                      have sl := bz.lt
                      go_wp2_with fail
                      replace bz := bz.set_ 0 (.int .i64 R1.lo)
                      replace bm := bm.far (p := ⟨pz, 0, none⟩) nmz (.int .i64 R1.lo)
                      replace XA8 := ex_set (p := ⟨pz, 0, none⟩) XA8 yz (.int .i64 R1.lo)
                      replace bz := bz.set_ 1 (.int .i64 R1.hi)
                      replace bm := bm.far (p := ⟨pz, 1, none⟩) nmz (.int .i64 R1.hi)
                      replace XA8 := ex_set (p := ⟨pz, 1, none⟩) XA8 yz (.int .i64 R1.hi)
                      simp only [List.setIfInBounds_toArray, List.set_cons_zero, List.set_cons_succ] at bz
                      clear sf sl sc0 sc1
                      generalize ((V106.setCell ⟨pz, 0, none⟩ (.int .i64 R1.lo)).setCell ⟨pz, 1, none⟩ (.int .i64 R1.hi)) = V107 at *
                      refine ⟨inEx XA8, ?_⟩
                      repeat (refine tq_quiet rfl ?_; go_big_quiet_step (fail); refine wpQuiet_nil ?_)
                      refine tq_done (r := [_]) rfl ?_
                      go_wp2_with fail
                      exact hrest V107 R1 ev1 _ (XA8) hc1 (exFrame (by kernel_rfl))
                  · go_wp2_with fail
                    have tzm := bm.lt
                    try simp at tzm
                    have sz := (N0).size
                    try simp at sz
                    have N7 := ex_alloc N0 (.cells #[.int .i64 0, .int .i64 0] 23)
                    have bz : Blk (V100.alloc (.cells #[.int .i64 0, .int .i64 0] 23)) (V100.heap.size) 23 #[.int .i64 0, .int .i64 0] := Blk.new' _ _ _ (by first | rfl | (simp; done) | (simp; omega))
                    replace bm := bm.alloc (.cells #[.int .i64 0, .int .i64 0] 23)
                    replace hg1 := hg1.go (ex_alloc (Below.refl V100.heap.size V100) (.cells #[.int .i64 0, .int .i64 0] 23))
                    obtain ⟨pz, hpz⟩ : ∃ p, V100.heap.size = p := ⟨_, rfl⟩
                    rw [hpz] at bz
                    try rw [hpz]
                    have nzm : pz ≠ pm := by omega
                    have nmz : pm ≠ pz := by omega
                    clear tzm
                    have yz : V54.heap.size ≤ pz := by omega
                    clear sz
                    refine ⟨inEx N7, ?_⟩
                    repeat (refine tq_quiet rfl ?_; go_big_quiet_step (fail); refine wpQuiet_nil ?_)
                    refine tq_loud rfl ?_
                    go_wp2_with fail
                    refine (sr_spring _).mono ?_
                    rintro e V108 ⟨⟨A1, rfl, hh1⟩, hV108⟩
                    replace bm := Blk.below bm hV108 bm.lt
                    replace bz := Blk.below bz hV108 bz.lt
                    have N1 := ex_trans N7 hV108
                    go_wp2_with fail
                    replace hg1 := hg1.go hV108
                    refine ⟨inEx N1, ?_⟩
                    repeat (refine tq_quiet rfl ?_; go_big_quiet_step (fail); refine wpQuiet_nil ?_)
                    refine tq_loud rfl ?_
                    go_wp2_with fail
                    refine (Same_v rodT Ab1 Ad1 2 2 A1 none (some ⟨pm, 0, none⟩) 4 0 6 springH [] [nmZero, nmZero, nmZero, nmZero, nmZero, nmZero] _ hg1 hh1 (hn _) (by first | exact zer6 HOC.out bm | exact zer6 HOC.out (Blk.drew bm)) (by decide) (by decide)).mono ?_
                    rintro e V109 ⟨⟨R1, ev1, rfl, hc1⟩, hV109⟩
                    replace bm := Blk.below bm hV109 bm.lt
                    replace bz := Blk.below bz hV109 bz.lt
                    have N3 := ex_trans N1 hV109
                    go_wp2_with fail
                    refine ⟨inEx N3, ?_⟩
                    repeat (refine tq_quiet rfl ?_; go_big_quiet_step (fail); refine wpQuiet_nil ?_)
                    refine tq_loud rfl ?_
                    have XA8 := N3
                    generalize V109 = V110 at *
                    have sc0 : V110.cell? ⟨pz, 0, none⟩ = some (.int .i64 0) := bz.cell 0
                    have sc1 : V110.cell? ⟨pz, 1, none⟩ = some (.int .i64 0) := bz.cell 1
                    have sf := bz.frozen0
                    have sl := bz.lt
                    go_wp2_with fail
                    replace bz := bz.set_ 0 (.int .i64 R1.lo)
                    replace bm := bm.far (p := ⟨pz, 0, none⟩) nmz (.int .i64 R1.lo)
                    replace XA8 := ex_set (p := ⟨pz, 0, none⟩) XA8 yz (.int .i64 R1.lo)
                    replace bz := bz.set_ 1 (.int .i64 R1.hi)
                    replace bm := bm.far (p := ⟨pz, 1, none⟩) nmz (.int .i64 R1.hi)
                    replace XA8 := ex_set (p := ⟨pz, 1, none⟩) XA8 yz (.int .i64 R1.hi)
                    simp only [List.setIfInBounds_toArray, List.set_cons_zero, List.set_cons_succ] at bz
                    clear sf sl sc0 sc1
                    generalize ((V110.setCell ⟨pz, 0, none⟩ (.int .i64 R1.lo)).setCell ⟨pz, 1, none⟩ (.int .i64 R1.hi)) = V111 at *
                    refine ⟨inEx XA8, ?_⟩
                    repeat (refine tq_quiet rfl ?_; go_big_quiet_step (fail); refine wpQuiet_nil ?_)
                    refine tq_done (r := [_]) rfl ?_
                    go_wp2_with fail
                    exact hrest V111 R1 ev1 _ (XA8) hc1 (exFrame (by kernel_rfl))
                · go_wp2_with fail
                  have tzm := bm.lt
                  try simp at tzm
                  have sz := (N2).size
                  try simp at sz
                  have N7 := ex_alloc N2 (.cells #[.int .i64 0, .int .i64 0] 23)
                  have bz : Blk ((V54.alloc (.cells oc 37)).alloc (.cells #[.int .i64 0, .int .i64 0] 23)) (pm + 1) 23 #[.int .i64 0, .int .i64 0] := Blk.new' _ _ _ (by first | rfl | (simp; done) | (simp; omega))
                  replace bm := bm.alloc (.cells #[.int .i64 0, .int .i64 0] 23)
                  obtain ⟨pz, hpz⟩ : ∃ p, pm + 1 = p := ⟨_, rfl⟩
                  rw [hpz] at bz
                  try rw [hpz]
                  have nzm : pz ≠ pm := by omega
                  have nmz : pm ≠ pz := by omega
                  clear tzm
                  have yz : V54.heap.size ≤ pz := by omega
                  clear sz
                  refine ⟨inEx (N7).drew, ?_⟩
                  repeat (refine tq_quiet rfl ?_; go_big_quiet_step (fail); refine wpQuiet_nil ?_)
                  refine tq_loud rfl ?_
                  go_wp2_with fail
                  refine (sr_rod _).mono ?_
                  rintro e V112 ⟨⟨Ab1, Ad1, rfl, hg1⟩, hV112⟩
                  replace bm := Blk.below (Blk.drew bm) hV112 bm.lt
                  replace bz := Blk.below (Blk.drew bz) hV112 bz.lt
                  have N0 := ex_trans (N7).drew hV112
                  go_wp2_with fail
                  refine ⟨inEx N0, ?_⟩
                  repeat (refine tq_quiet rfl ?_; go_big_quiet_step (fail); refine wpQuiet_nil ?_)
                  refine tq_loud rfl ?_
                  go_wp2_with fail
                  refine (sr_spring _).mono ?_
                  rintro e V113 ⟨⟨A1, rfl, hh1⟩, hV113⟩
                  replace bm := Blk.below bm hV113 bm.lt
                  replace bz := Blk.below bz hV113 bz.lt
                  have N1 := ex_trans N0 hV113
                  go_wp2_with fail
                  replace hg1 := hg1.go hV113
                  refine ⟨inEx N1, ?_⟩
                  repeat (refine tq_quiet rfl ?_; go_big_quiet_step (fail); refine wpQuiet_nil ?_)
                  refine tq_loud rfl ?_
                  go_wp2_with fail
                  refine (Same_v rodT Ab1 Ad1 2 2 A1 none (some ⟨pm, 0, none⟩) 4 0 6 springH [] [nmZero, nmZero, nmZero, nmZero, nmZero, nmZero] _ hg1 hh1 (hn _) (by first | exact zer6 HOC.out bm | exact zer6 HOC.out (Blk.drew bm)) (by decide) (by decide)).mono ?_
                  rintro e V114 ⟨⟨R1, ev1, rfl, hc1⟩, hV114⟩
                  replace bm := Blk.below bm hV114 bm.lt
                  replace bz := Blk.below bz hV114 bz.lt
                  have N3 := ex_trans N1 hV114
                  go_wp2_with fail
                  refine ⟨inEx N3, ?_⟩
                  repeat (refine tq_quiet rfl ?_; go_big_quiet_step (fail); refine wpQuiet_nil ?_)
                  refine tq_loud rfl ?_
                  have XA8 := N3
                  generalize V114 = V115 at *
                  have sc0 : V115.cell? ⟨pz, 0, none⟩ = some (.int .i64 0) := bz.cell 0
                  have sc1 : V115.cell? ⟨pz, 1, none⟩ = some (.int .i64 0) := bz.cell 1
                  have sf := bz.frozen0
                  have sl := bz.lt
                  go_wp2_with fail
                  replace bz := bz.set_ 0 (.int .i64 R1.lo)
                  replace bm := bm.far (p := ⟨pz, 0, none⟩) nmz (.int .i64 R1.lo)
                  replace XA8 := ex_set (p := ⟨pz, 0, none⟩) XA8 yz (.int .i64 R1.lo)
                  replace bz := bz.set_ 1 (.int .i64 R1.hi)
                  replace bm := bm.far (p := ⟨pz, 1, none⟩) nmz (.int .i64 R1.hi)
                  replace XA8 := ex_set (p := ⟨pz, 1, none⟩) XA8 yz (.int .i64 R1.hi)
                  simp only [List.setIfInBounds_toArray, List.set_cons_zero, List.set_cons_succ] at bz
                  clear sf sl sc0 sc1
                  generalize ((V115.setCell ⟨pz, 0, none⟩ (.int .i64 R1.lo)).setCell ⟨pz, 1, none⟩ (.int .i64 R1.hi)) = V116 at *
                  refine ⟨inEx XA8, ?_⟩
                  repeat (refine tq_quiet rfl ?_; go_big_quiet_step (fail); refine wpQuiet_nil ?_)
                  refine tq_done (r := [_]) rfl ?_
                  go_wp2_with fail
                  exact hrest V116 R1 ev1 _ (XA8) hc1 (exFrame (by kernel_rfl))
              · go_wp2_with fail
                have sz := ((Below.refl V54.heap.size V54)).size
                try simp at sz
                have N7 := ex_alloc (Below.refl V54.heap.size V54) (.cells #[.int .i64 0, .int .i64 0] 23)
                have bz : Blk (V54.alloc (.cells #[.int .i64 0, .int .i64 0] 23)) (V54.heap.size) 23 #[.int .i64 0, .int .i64 0] := Blk.new' _ _ _ (by first | rfl | (simp; done) | (simp; omega))
                obtain ⟨pz, hpz⟩ : ∃ p, V54.heap.size = p := ⟨_, rfl⟩
                rw [hpz] at bz
                try rw [hpz]
                have yz : V54.heap.size ≤ pz := by omega
                clear sz
                refine ⟨inEx (N7).drew, ?_⟩
                repeat (refine tq_quiet rfl ?_; go_big_quiet_step (fail); refine wpQuiet_nil ?_)
                refine tq_fork rfl rfl ?_ ?_
                · go_wp2_with fail
                  refine (sr_rod _).mono ?_
                  rintro e V117 ⟨⟨Ab1, Ad1, rfl, hg1⟩, hV117⟩
                  replace bz := Blk.below (Blk.drew bz) hV117 bz.lt
                  have N0 := ex_trans (N7).drew hV117
                  go_wp2_with fail
                  refine ⟨inEx N0, ?_⟩
                  repeat (refine tq_quiet rfl ?_; go_big_quiet_step (fail); refine wpQuiet_nil ?_)
                  refine tq_fork rfl rfl ?_ ?_
                  · go_wp2_with fail
                    refine (sr_spring _).mono ?_
                    rintro e V118 ⟨⟨A1, rfl, hh1⟩, hV118⟩
                    replace bz := Blk.below bz hV118 bz.lt
                    have N1 := ex_trans N0 hV118
                    go_wp2_with fail
                    replace hg1 := hg1.go hV118
                    refine ⟨inEx N1, ?_⟩
                    repeat (refine tq_quiet rfl ?_; go_big_quiet_step (fail); refine wpQuiet_nil ?_)
                    refine tq_loud rfl ?_
                    go_wp2_with fail
                    have tmz := bz.lt
                    try simp at tmz
                    have sm := (N1).size
                    try simp at sm
                    have N2 := ex_alloc N1 (.cells oc 37)
                    have bm : Blk (V118.alloc (.cells oc 37)) (V118.heap.size) 37 oc := Blk.new' _ _ _ (by first | rfl | (simp; done) | (simp; omega))
                    replace bz := bz.alloc (.cells oc 37)
                    replace hg1 := hg1.go (ex_alloc (Below.refl V118.heap.size V118) (.cells oc 37))
                    replace hh1 := hh1.go (ex_alloc (Below.refl V118.heap.size V118) (.cells oc 37))
                    obtain ⟨pm, hpm⟩ : ∃ p, V118.heap.size = p := ⟨_, rfl⟩
                    rw [hpm] at bm
                    try rw [hpm]
                    have nmz : pm ≠ pz := by omega
                    have nzm : pz ≠ pm := by omega
                    clear tmz
                    have ym : V54.heap.size ≤ pm := by omega
                    clear sm
                    refine ⟨inEx N2, ?_⟩
                    repeat (refine tq_quiet rfl ?_; go_big_quiet_step (fail); refine wpQuiet_nil ?_)
                    refine tq_loud rfl ?_
                    go_wp2_with fail
                    refine (Same_v rodT Ab1 Ad1 2 2 A1 none (some ⟨pm, 0, none⟩) 4 0 6 springH [] [nmZero, nmZero, nmZero, nmZero, nmZero, nmZero] _ hg1 hh1 (hn _) (by first | exact zer6 HOC.out bm | exact zer6 HOC.out (Blk.drew bm)) (by decide) (by decide)).mono ?_
                    rintro e V119 ⟨⟨R1, ev1, rfl, hc1⟩, hV119⟩
                    replace bz := Blk.below bz hV119 bz.lt
                    replace bm := Blk.below bm hV119 bm.lt
                    have N3 := ex_trans N2 hV119
                    go_wp2_with fail
                    refine ⟨inEx N3, ?_⟩
                    repeat (refine tq_quiet rfl ?_; go_big_quiet_step (fail); refine wpQuiet_nil ?_)
                    refine tq_loud rfl ?_
                    have XA8 := N3
                    generalize V119 = V120 at *
                    have sc0 : V120.cell? ⟨pz, 0, none⟩ = some (.int .i64 0) := bz.cell 0
                    have sc1 : V120.cell? ⟨pz, 1, none⟩ = some (.int .i64 0) := bz.cell 1
                    have sf := bz.frozen0
                    have sl := bz.lt
                    go_wp2_with fail
                    replace bz := bz.set_ 0 (.int .i64 R1.lo)
                    replace bm := bm.far (p := ⟨pz, 0, none⟩) nmz (.int .i64 R1.lo)
                    replace XA8 := ex_set (p := ⟨pz, 0, none⟩) XA8 yz (.int .i64 R1.lo)
                    replace bz := bz.set_ 1 (.int .i64 R1.hi)
                    replace bm := bm.far (p := ⟨pz, 1, none⟩) nmz (.int .i64 R1.hi)
                    replace XA8 := ex_set (p := ⟨pz, 1, none⟩) XA8 yz (.int .i64 R1.hi)
                    simp only [List.setIfInBounds_toArray, List.set_cons_zero, List.set_cons_succ] at bz
                    clear sf sl sc0 sc1
                    generalize ((V120.setCell ⟨pz, 0, none⟩ (.int .i64 R1.lo)).setCell ⟨pz, 1, none⟩ (.int .i64 R1.hi)) = V121 at *
                    refine ⟨inEx XA8, ?_⟩
                    repeat (refine tq_quiet rfl ?_; go_big_quiet_step (fail); refine wpQuiet_nil ?_)
                    refine tq_done (r := [_]) rfl ?_
                    go_wp2_with fail
                    exact hrest V121 R1 ev1 _ (XA8) hc1 (exFrame (by kernel_rfl))
                  · go_wp2_with fail
                    have tmz := bz.lt
                    try simp at tmz
                    have sm := (N0).size
                    try simp at sm
                    have N2 := ex_alloc N0 (.cells oc 37)
                    have bm : Blk (V117.alloc (.cells oc 37)) (V117.heap.size) 37 oc := Blk.new' _ _ _ (by first | rfl | (simp; done) | (simp; omega))
                    replace bz := bz.alloc (.cells oc 37)
                    replace hg1 := hg1.go (ex_alloc (Below.refl V117.heap.size V117) (.cells oc 37))
                    obtain ⟨pm, hpm⟩ : ∃ p, V117.heap.size = p := ⟨_, rfl⟩
                    rw [hpm] at bm
                    try rw [hpm]
                    have nmz : pm ≠ pz := by omega
                    have nzm : pz ≠ pm := by omega
                    clear tmz
                    have ym : V54.heap.size ≤ pm := by omega
                    clear sm
                    refine ⟨inEx N2, ?_⟩
                    repeat (refine tq_quiet rfl ?_; go_big_quiet_step (fail); refine wpQuiet_nil ?_)
                    refine tq_loud rfl ?_
                    go_wp2_with fail
                    refine (sr_spring _).mono ?_
                    rintro e V122 ⟨⟨A1, rfl, hh1⟩, hV122⟩
                    replace bz := Blk.below bz hV122 bz.lt
                    replace bm := Blk.below bm hV122 bm.lt
                    have N1 := ex_trans N2 hV122
                    go_wp2_with fail
                    replace hg1 := hg1.go hV122
                    refine ⟨inEx N1, ?_⟩
                    repeat (refine tq_quiet rfl ?_; go_big_quiet_step (fail); refine wpQuiet_nil ?_)
                    refine tq_loud rfl ?_
                    go_wp2_with fail
                    refine (Same_v rodT Ab1 Ad1 2 2 A1 none (some ⟨pm, 0, none⟩) 4 0 6 springH [] [nmZero, nmZero, nmZero, nmZero, nmZero, nmZero] _ hg1 hh1 (hn _) (by first | exact zer6 HOC.out bm | exact zer6 HOC.out (Blk.drew bm)) (by decide) (by decide)).mono ?_
                    rintro e V123 ⟨⟨R1, ev1, rfl, hc1⟩, hV123⟩
                    replace bz := Blk.below bz hV123 bz.lt
                    replace bm := Blk.below bm hV123 bm.lt
                    have N3 := ex_trans N1 hV123
                    go_wp2_with fail
                    refine ⟨inEx N3, ?_⟩
                    repeat (refine tq_quiet rfl ?_; go_big_quiet_step (fail); refine wpQuiet_nil ?_)
                    refine tq_loud rfl ?_
                    have XA8 := N3
                    generalize V123 = V124 at *
                    have sc0 : V124.cell? ⟨pz, 0, none⟩ = some (.int .i64 0) := bz.cell 0
                    have sc1 : V124.cell? ⟨pz, 1, none⟩ = some (.int .i64 0) := bz.cell 1
                    have sf := bz.frozen0
                    have sl := bz.lt
                    go_wp2_with fail
                    replace bz := bz.set_ 0 (.int .i64 R1.lo)
                    replace bm := bm.far (p := ⟨pz, 0, none⟩) nmz (.int .i64 R1.lo)
                    replace XA8 := ex_set (p := ⟨pz, 0, none⟩) XA8 yz (.int .i64 R1.lo)
                    replace bz := bz.set_ 1 (.int .i64 R1.hi)
                    replace bm := bm.far (p := ⟨pz, 1, none⟩) nmz (.int .i64 R1.hi)
                    replace XA8 := ex_set (p := ⟨pz, 1, none⟩) XA8 yz (.int .i64 R1.hi)
                    simp only [List.setIfInBounds_toArray, List.set_cons_zero, List.set_cons_succ] at bz
                    clear sf sl sc0 sc1
                    generalize ((V124.setCell ⟨pz, 0, none⟩ (.int .i64 R1.lo)).setCell ⟨pz, 1, none⟩ (.int .i64 R1.hi)) = V125 at *
                    refine ⟨inEx XA8, ?_⟩
                    repeat (refine tq_quiet rfl ?_; go_big_quiet_step (fail); refine wpQuiet_nil ?_)
                    refine tq_done (r := [_]) rfl ?_
                    go_wp2_with fail
                    exact hrest V125 R1 ev1 _ (XA8) hc1 (exFrame (by kernel_rfl))
                · go_wp2_with fail
                  have tmz := bz.lt
                  try simp at tmz
                  have sm := (N7).size
                  try simp at sm
                  have N2 := ex_alloc N7 (.cells oc 37)
                  have bm : Blk ((V54.alloc (.cells #[.int .i64 0, .int .i64 0] 23)).alloc (.cells oc 37)) (pz + 1) 37 oc := Blk.new' _ _ _ (by first | rfl | (simp; done) | (simp; omega))
                  replace bz := bz.alloc (.cells oc 37)
                  obtain ⟨pm, hpm⟩ : ∃ p, pz + 1 = p := ⟨_, rfl⟩
                  rw [hpm] at bm
                  try rw [hpm]
                  have nmz : pm ≠ pz := by omega
                  have nzm : pz ≠ pm := by omega
                  clear tmz
                  have ym : V54.heap.size ≤ pm := by omega
                  clear sm
                  refine ⟨inEx (N2).drew, ?_⟩
                  repeat (refine tq_quiet rfl ?_; go_big_quiet_step (fail); refine wpQuiet_nil ?_)
                  refine tq_loud rfl ?_
                  go_wp2_with fail
                  refine (sr_rod _).mono ?_
                  rintro e V126 ⟨⟨Ab1, Ad1, rfl, hg1⟩, hV126⟩
                  replace bz := Blk.below (Blk.drew bz) hV126 bz.lt
                  replace bm := Blk.below (Blk.drew bm) hV126 bm.lt
                  have N0 := ex_trans (N2).drew hV126
                  go_wp2_with fail
                  refine ⟨inEx N0, ?_⟩
                  repeat (refine tq_quiet rfl ?_; go_big_quiet_step (fail); refine wpQuiet_nil ?_)
                  refine tq_loud rfl ?_
                  go_wp2_with fail
                  refine (sr_spring _).mono ?_
                  rintro e V127 ⟨⟨A1, rfl, hh1⟩, hV127⟩
                  replace bz := Blk.below bz hV127 bz.lt
                  replace bm := Blk.below bm hV127 bm.lt
                  have N1 := ex_trans N0 hV127
                  go_wp2_with fail
                  replace hg1 := hg1.go hV127
                  refine ⟨inEx N1, ?_⟩
                  repeat (refine tq_quiet rfl ?_; go_big_quiet_step (fail); refine wpQuiet_nil ?_)
                  refine tq_loud rfl ?_
                  go_wp2_with fail
                  refine (Same_v rodT Ab1 Ad1 2 2 A1 none (some ⟨pm, 0, none⟩) 4 0 6 springH [] [nmZero, nmZero, nmZero, nmZero, nmZero, nmZero] _ hg1 hh1 (hn _) (by first | exact zer6 HOC.out bm | exact zer6 HOC.out (Blk.drew bm)) (by decide) (by decide)).mono ?_
                  rintro e V128 ⟨⟨R1, ev1, rfl, hc1⟩, hV128⟩
                  replace bz := Blk.below bz hV128 bz.lt
                  replace bm := Blk.below bm hV128 bm.lt
                  have N3 := ex_trans N1 hV128
                  go_wp2_with fail
                  refine ⟨inEx N3, ?_⟩
                  repeat (refine tq_quiet rfl ?_; go_big_quiet_step (fail); refine wpQuiet_nil ?_)
                  refine tq_loud rfl ?_
                  have XA8 := N3
                  generalize V128 = V129 at *
                  have sc0 : V129.cell? ⟨pz, 0, none⟩ = some (.int .i64 0) := bz.cell 0
                  have sc1 : V129.cell? ⟨pz, 1, none⟩ = some (.int .i64 0) := bz.cell 1
                  have sf := bz.frozen0
                  have sl := bz.lt
                  go_wp2_with fail
                  replace bz := bz.set_ 0 (.int .i64 R1.lo)
                  replace bm := bm.far (p := ⟨pz, 0, none⟩) nmz (.int .i64 R1.lo)
                  replace XA8 := ex_set (p := ⟨pz, 0, none⟩) XA8 yz (.int .i64 R1.lo)
                  replace bz := bz.set_ 1 (.int .i64 R1.hi)
                  replace bm := bm.far (p := ⟨pz, 1, none⟩) nmz (.int .i64 R1.hi)
                  replace XA8 := ex_set (p := ⟨pz, 1, none⟩) XA8 yz (.int .i64 R1.hi)
                  simp only [List.setIfInBounds_toArray, List.set_cons_zero, List.set_cons_succ] at bz
                  clear sf sl sc0 sc1
                  generalize ((V129.setCell ⟨pz, 0, none⟩ (.int .i64 R1.lo)).setCell ⟨pz, 1, none⟩ (.int .i64 R1.hi)) = V130 at *
                  refine ⟨inEx XA8, ?_⟩
                  repeat (refine tq_quiet rfl ?_; go_big_quiet_step (fail); refine wpQuiet_nil ?_)
                  refine tq_done (r := [_]) rfl ?_
                  go_wp2_with fail
                  exact hrest V130 R1 ev1 _ (XA8) hc1 (exFrame (by kernel_rfl))
            refine wp_region_ext_tq 9 (.quiet 2 (.fork 0 (.fork 1 (.fork 3 (.quiet 4 (.quiet 5 (.quiet 6 (.loud 7 (.loud 8 .done))))) 7 (.loud 3 (.quiet 4 (.quiet 5 (.quiet 6 (.loud 8 .done)))))) 7 (.loud 1 (.loud 3 (.quiet 4 (.quiet 5 (.quiet 6 (.loud 8 .done))))))) 7 (.loud 0 (.loud 1 (.loud 3 (.quiet 4 (.quiet 5 (.quiet 6 (.loud 8 .done))))))))) (by kernel_rfl) (by kernel_rfl) (by intro d _ _ _ _ h; cases d <;> exact h) ?_
            have D0 := (Below.refl V30.heap.size V30).drew
            repeat (refine tq_quiet rfl ?_; first | (refine wpQuiet_load_row rfl 37 _ rfl _ rfl 37 _ (0, 0) _ qb.ex Try.underlying37 rfl (by kernel_rfl) ?_; simp only [Act.put, List.setIfInBounds_toArray, List.set_cons_zero, List.set_cons_succ]; refine wpQuiet_nil ?_) | (go_big_quiet_step (fail); refine wpQuiet_nil ?_))
            refine tq_fork rfl rfl ?_ ?_
            · go_wp2_with fail
              refine (sr_rod _).mono ?_
              rintro e V131 ⟨⟨Ab1, Ad1, rfl, hg1⟩, hV131⟩
              have N0 := ex_trans ((Below.refl V30.heap.size V30)).drew hV131
              go_wp2_with fail
              refine ⟨inEx N0, ?_⟩
              repeat (refine tq_quiet rfl ?_; go_big_quiet_step (fail); refine wpQuiet_nil ?_)
              refine tq_fork rfl rfl ?_ ?_
              · go_wp2_with fail
                refine (sr_spring _).mono ?_
                rintro e V132 ⟨⟨A1, rfl, hh1⟩, hV132⟩
                have N1 := ex_trans N0 hV132
                go_wp2_with fail
                replace hg1 := hg1.go hV132
                refine ⟨inEx N1, ?_⟩
                repeat (refine tq_quiet rfl ?_; go_big_quiet_step (fail); refine wpQuiet_nil ?_)
                refine tq_fork rfl rfl ?_ ?_
                · go_wp2_with fail
                  refine (Accept_v rodT Ab1 Ad1 2 2 A1 none 4 0 springH [] nmBroken (-1) _ hg1 hh1 (hn _) (by decide)).mono ?_
                  rintro e V133 ⟨⟨R1, ev1, rfl, hc1⟩, hV133⟩
                  have N3 := ex_trans N1 hV133
                  go_wp2_with fail
                  refine ⟨inEx N3, ?_⟩
                  repeat (refine tq_quiet rfl ?_; go_big_quiet_step (fail); refine wpQuiet_nil ?_)
                  refine tq_loud rfl ?_
                  go_wp2_with fail
                  have sz := (N3).size
                  try simp at sz
                  have N7 := ex_alloc N3 (.cells #[.int .i64 0, .int .i64 0] 23)
                  have bz : Blk (V133.alloc (.cells #[.int .i64 0, .int .i64 0] 23)) (V133.heap.size) 23 #[.int .i64 0, .int .i64 0] := Blk.new' _ _ _ (by first | rfl | (simp; done) | (simp; omega))
                  obtain ⟨pz, hpz⟩ : ∃ p, V133.heap.size = p := ⟨_, rfl⟩
                  rw [hpz] at bz
                  try rw [hpz]
                  have yz : V30.heap.size ≤ pz := by omega
                  clear sz
                  refine ⟨inEx N7, ?_⟩
                  repeat (refine tq_quiet rfl ?_; go_big_quiet_step (fail); refine wpQuiet_nil ?_)
                  refine tq_loud rfl ?_
                  have XA8 := N7
                  generalize (V133.alloc (.cells #[.int .i64 0, .int .i64 0] 23)) = V134 at *
                  have sc0 : V134.cell? ⟨pz, 0, none⟩ = some (.int .i64 0) := bz.cell 0
                  have sc1 : V134.cell? ⟨pz, 1, none⟩ = some (.int .i64 0) := bz.cell 1
                  have sf := bz.frozen0
                  have sl := bz.lt
                  go_wp2_with fail
                  replace bz := bz.set_ 0 (.int .i64 R1.lo)
                  replace XA8 := ex_set (p := ⟨pz, 0, none⟩) XA8 yz (.int .i64 R1.lo)
                  replace bz := bz.set_ 1 (.int .i64 R1.hi)
                  replace XA8 := ex_set (p := ⟨pz, 1, none⟩) XA8 yz (.int .i64 R1.hi)
                  simp only [List.setIfInBounds_toArray, List.set_cons_zero, List.set_cons_succ] at bz
                  clear sf sl sc0 sc1
                  generalize ((V134.setCell ⟨pz, 0, none⟩ (.int .i64 R1.lo)).setCell ⟨pz, 1, none⟩ (.int .i64 R1.hi)) = V135 at *
                  refine ⟨inEx XA8, ?_⟩
                  repeat (refine tq_quiet rfl ?_; go_big_quiet_step (fail); refine wpQuiet_nil ?_)
                  refine tq_done (r := [_]) rfl ?_
                  go_wp2_with fail
                  exact hrest V135 R1 ev1 _ (XA8) hc1 (exFrame (by kernel_rfl))
                · go_wp2_with fail
                  have sz := (N1).size
                  try simp at sz
                  have N7 := ex_alloc N1 (.cells #[.int .i64 0, .int .i64 0] 23)
                  have bz : Blk (V132.alloc (.cells #[.int .i64 0, .int .i64 0] 23)) (V132.heap.size) 23 #[.int .i64 0, .int .i64 0] := Blk.new' _ _ _ (by first | rfl | (simp; done) | (simp; omega))
                  replace hg1 := hg1.go (ex_alloc (Below.refl V132.heap.size V132) (.cells #[.int .i64 0, .int .i64 0] 23))
                  replace hh1 := hh1.go (ex_alloc (Below.refl V132.heap.size V132) (.cells #[.int .i64 0, .int .i64 0] 23))
                  obtain ⟨pz, hpz⟩ : ∃ p, V132.heap.size = p := ⟨_, rfl⟩
                  rw [hpz] at bz
                  try rw [hpz]
                  have yz : V30.heap.size ≤ pz := by omega
                  clear sz
                  refine ⟨inEx N7, ?_⟩
                  repeat (refine tq_quiet rfl ?_; go_big_quiet_step (fail); refine wpQuiet_nil ?_)
                  refine tq_loud rfl ?_
                  go_wp2_with fail
                  refine (Accept_v rodT Ab1 Ad1 2 2 A1 none 4 0 springH [] nmBroken (-1) _ hg1 hh1 (hn _) (by decide)).mono ?_
                  rintro e V136 ⟨⟨R1, ev1, rfl, hc1⟩, hV136⟩
                  replace bz := Blk.below bz hV136 bz.lt
                  have N3 := ex_trans N7 hV136
                  go_wp2_with fail
                  refine ⟨inEx N3, ?_⟩
                  repeat (refine tq_quiet rfl ?_; go_big_quiet_step (fail); refine wpQuiet_nil ?_)
                  refine tq_loud rfl ?_
                  have XA8 := N3
                  generalize V136 = V137 at *
                  have sc0 : V137.cell? ⟨pz, 0, none⟩ = some (.int .i64 0) := bz.cell 0
                  have sc1 : V137.cell? ⟨pz, 1, none⟩ = some (.int .i64 0) := bz.cell 1
                  have sf := bz.frozen0
                  have sl := bz.lt
                  go_wp2_with fail
                  replace bz := bz.set_ 0 (.int .i64 R1.lo)
                  replace XA8 := ex_set (p := ⟨pz, 0, none⟩) XA8 yz (.int .i64 R1.lo)
                  replace bz := bz.set_ 1 (.int .i64 R1.hi)
                  replace XA8 := ex_set (p := ⟨pz, 1, none⟩) XA8 yz (.int .i64 R1.hi)
                  simp only [List.setIfInBounds_toArray, List.set_cons_zero, List.set_cons_succ] at bz
                  clear sf sl sc0 sc1
                  generalize ((V137.setCell ⟨pz, 0, none⟩ (.int .i64 R1.lo)).setCell ⟨pz, 1, none⟩ (.int .i64 R1.hi)) = V138 at *
                  refine ⟨inEx XA8, ?_⟩
                  repeat (refine tq_quiet rfl ?_; go_big_quiet_step (fail); refine wpQuiet_nil ?_)
                  refine tq_done (r := [_]) rfl ?_
                  go_wp2_with fail
                  exact hrest V138 R1 ev1 _ (XA8) hc1 (exFrame (by kernel_rfl))
              · go_wp2_with fail
                have sz := (N0).size
                try simp at sz
                have N7 := ex_alloc N0 (.cells #[.int .i64 0, .int .i64 0] 23)
                have bz : Blk (V131.alloc (.cells #[.int .i64 0, .int .i64 0] 23)) (V131.heap.size) 23 #[.int .i64 0, .int .i64 0] := Blk.new' _ _ _ (by first | rfl | (simp; done) | (simp; omega))
                replace hg1 := hg1.go (ex_alloc (Below.refl V131.heap.size V131) (.cells #[.int .i64 0, .int .i64 0] 23))
                obtain ⟨pz, hpz⟩ : ∃ p, V131.heap.size = p := ⟨_, rfl⟩
                rw [hpz] at bz
                try rw [hpz]
                have yz : V30.heap.size ≤ pz := by omega
                clear sz
                refine ⟨inEx N7, ?_⟩
                repeat (refine tq_quiet rfl ?_; go_big_quiet_step (fail); refine wpQuiet_nil ?_)
                refine tq_loud rfl ?_
                go_wp2_with fail
                refine (sr_spring _).mono ?_
                rintro e V139 ⟨⟨A1, rfl, hh1⟩, hV139⟩
                replace bz := Blk.below bz hV139 bz.lt
                have N1 := ex_trans N7 hV139
                go_wp2_with fail
                replace hg1 := hg1.go hV139
                refine ⟨inEx N1, ?_⟩
                repeat (refine tq_quiet rfl ?_; go_big_quiet_step (fail); refine wpQuiet_nil ?_)
                refine tq_loud rfl ?_
                go_wp2_with fail
                refine (Accept_v rodT Ab1 Ad1 2 2 A1 none 4 0 springH [] nmBroken (-1) _ hg1 hh1 (hn _) (by decide)).mono ?_
                rintro e V140 ⟨⟨R1, ev1, rfl, hc1⟩, hV140⟩
                replace bz := Blk.below bz hV140 bz.lt
                have N3 := ex_trans N1 hV140
                go_wp2_with fail
                refine ⟨inEx N3, ?_⟩
                repeat (refine tq_quiet rfl ?_; go_big_quiet_step (fail); refine wpQuiet_nil ?_)
                refine tq_loud rfl ?_
                have XA8 := N3
                generalize V140 = V141 at *
                have sc0 : V141.cell? ⟨pz, 0, none⟩ = some (.int .i64 0) := bz.cell 0
                have sc1 : V141.cell? ⟨pz, 1, none⟩ = some (.int .i64 0) := bz.cell 1
                have sf := bz.frozen0
                have sl := bz.lt
                go_wp2_with fail
                replace bz := bz.set_ 0 (.int .i64 R1.lo)
                replace XA8 := ex_set (p := ⟨pz, 0, none⟩) XA8 yz (.int .i64 R1.lo)
                replace bz := bz.set_ 1 (.int .i64 R1.hi)
                replace XA8 := ex_set (p := ⟨pz, 1, none⟩) XA8 yz (.int .i64 R1.hi)
                simp only [List.setIfInBounds_toArray, List.set_cons_zero, List.set_cons_succ] at bz
                clear sf sl sc0 sc1
                generalize ((V141.setCell ⟨pz, 0, none⟩ (.int .i64 R1.lo)).setCell ⟨pz, 1, none⟩ (.int .i64 R1.hi)) = V142 at *
                refine ⟨inEx XA8, ?_⟩
                repeat (refine tq_quiet rfl ?_; go_big_quiet_step (fail); refine wpQuiet_nil ?_)
                refine tq_done (r := [_]) rfl ?_
                go_wp2_with fail
                exact hrest V142 R1 ev1 _ (XA8) hc1 (exFrame (by kernel_rfl))
            · go_wp2_with fail
              have sz := ((Below.refl V30.heap.size V30)).size
              try simp at sz
              have N7 := ex_alloc (Below.refl V30.heap.size V30) (.cells #[.int .i64 0, .int .i64 0] 23)
              have bz : Blk (V30.alloc (.cells #[.int .i64 0, .int .i64 0] 23)) (V30.heap.size) 23 #[.int .i64 0, .int .i64 0] := Blk.new' _ _ _ (by first | rfl | (simp; done) | (simp; omega))
              obtain ⟨pz, hpz⟩ : ∃ p, V30.heap.size = p := ⟨_, rfl⟩
              rw [hpz] at bz
              try rw [hpz]
              have yz : V30.heap.size ≤ pz := by omega
              clear sz
              refine ⟨inEx (N7).drew, ?_⟩
              repeat (refine tq_quiet rfl ?_; go_big_quiet_step (fail); refine wpQuiet_nil ?_)
              refine tq_loud rfl ?_
              go_wp2_with fail
              refine (sr_rod _).mono ?_
              rintro e V143 ⟨⟨Ab1, Ad1, rfl, hg1⟩, hV143⟩
              replace bz := Blk.below (Blk.drew bz) hV143 bz.lt
              have N0 := ex_trans (N7).drew hV143
              go_wp2_with fail
              refine ⟨inEx N0, ?_⟩
              repeat (refine tq_quiet rfl ?_; go_big_quiet_step (fail); refine wpQuiet_nil ?_)
              refine tq_loud rfl ?_
              go_wp2_with fail
              refine (sr_spring _).mono ?_
              rintro e V144 ⟨⟨A1, rfl, hh1⟩, hV144⟩
              replace bz := Blk.below bz hV144 bz.lt
              have N1 := ex_trans N0 hV144
              go_wp2_with fail
              replace hg1 := hg1.go hV144
              refine ⟨inEx N1, ?_⟩
              repeat (refine tq_quiet rfl ?_; go_big_quiet_step (fail); refine wpQuiet_nil ?_)
              refine tq_loud rfl ?_
              go_wp2_with fail
              refine (Accept_v rodT Ab1 Ad1 2 2 A1 none 4 0 springH [] nmBroken (-1) _ hg1 hh1 (hn _) (by decide)).mono ?_
              rintro e V145 ⟨⟨R1, ev1, rfl, hc1⟩, hV145⟩
              replace bz := Blk.below bz hV145 bz.lt
              have N3 := ex_trans N1 hV145
              go_wp2_with fail
              refine ⟨inEx N3, ?_⟩
              repeat (refine tq_quiet rfl ?_; go_big_quiet_step (fail); refine wpQuiet_nil ?_)
              refine tq_loud rfl ?_
              have XA8 := N3
              generalize V145 = V146 at *
              have sc0 : V146.cell? ⟨pz, 0, none⟩ = some (.int .i64 0) := bz.cell 0
              have sc1 : V146.cell? ⟨pz, 1, none⟩ = some (.int .i64 0) := bz.cell 1
              have sf := bz.frozen0
              have sl := bz.lt
              go_wp2_with fail
              replace bz := bz.set_ 0 (.int .i64 R1.lo)
              replace XA8 := ex_set (p := ⟨pz, 0, none⟩) XA8 yz (.int .i64 R1.lo)
              replace bz := bz.set_ 1 (.int .i64 R1.hi)
              replace XA8 := ex_set (p := ⟨pz, 1, none⟩) XA8 yz (.int .i64 R1.hi)
              simp only [List.setIfInBounds_toArray, List.set_cons_zero, List.set_cons_succ] at bz
              clear sf sl sc0 sc1
              generalize ((V146.setCell ⟨pz, 0, none⟩ (.int .i64 R1.lo)).setCell ⟨pz, 1, none⟩ (.int .i64 R1.hi)) = V147 at *
              refine ⟨inEx XA8, ?_⟩
              repeat (refine tq_quiet rfl ?_; go_big_quiet_step (fail); refine wpQuiet_nil ?_)
              refine tq_done (r := [_]) rfl ?_
              go_wp2_with fail
              exact hrest V147 R1 ev1 _ (XA8) hc1 (exFrame (by kernel_rfl))
          refine wp_region_ext_tq 9 (.quiet 2 (.fork 0 (.fork 1 (.fork 3 (.quiet 4 (.quiet 5 (.quiet 6 (.loud 7 (.loud 8 .done))))) 7 (.loud 3 (.quiet 4 (.quiet 5 (.quiet 6 (.loud 8 .done)))))) 7 (.loud 1 (.loud 3 (.quiet 4 (.quiet 5 (.quiet 6 (.loud 8 .done))))))) 7 (.loud 0 (.loud 1 (.loud 3 (.quiet 4 (.quiet 5 (.quiet 6 (.loud 8 .done))))))))) (by kernel_rfl) (by kernel_rfl) (by intro d _ _ _ _ h; cases d <;> exact h) ?_
          have D0 := (Below.refl V29.heap.size V29).drew
          repeat (refine tq_quiet rfl ?_; first | (refine wpQuiet_load_row rfl 37 _ rfl _ rfl 37 _ (0, 0) _ qo.ex Try.underlying37 rfl (by kernel_rfl) ?_; simp only [Act.put, List.setIfInBounds_toArray, List.set_cons_zero, List.set_cons_succ]; refine wpQuiet_nil ?_) | (go_big_quiet_step (fail); refine wpQuiet_nil ?_))
          refine tq_fork rfl rfl ?_ ?_
          · go_wp2_with fail
            refine (sr_rod _).mono ?_
            rintro e V148 ⟨⟨Ab1, Ad1, rfl, hg1⟩, hV148⟩
            have N0 := ex_trans ((Below.refl V29.heap.size V29)).drew hV148
            go_wp2_with fail
            refine ⟨inEx N0, ?_⟩
            repeat (refine tq_quiet rfl ?_; go_big_quiet_step (fail); refine wpQuiet_nil ?_)
            refine tq_fork rfl rfl ?_ ?_
            · go_wp2_with fail
              refine (sr_spring _).mono ?_
              rintro e V149 ⟨⟨A1, rfl, hh1⟩, hV149⟩
              have N1 := ex_trans N0 hV149
              go_wp2_with fail
              replace hg1 := hg1.go hV149
              refine ⟨inEx N1, ?_⟩
              repeat (refine tq_quiet rfl ?_; go_big_quiet_step (fail); refine wpQuiet_nil ?_)
              refine tq_fork rfl rfl ?_ ?_
              · go_wp2_with fail
                refine (Correct_v rodT Ab1 Ad1 2 2 A1 none 4 0 springH [] nmOut _ hg1 hh1 (hn _) (by decide)).mono ?_
                rintro e V150 ⟨⟨R1, ev1, rfl, hc1⟩, hV150⟩
                have N3 := ex_trans N1 hV150
                go_wp2_with fail
                refine ⟨inEx N3, ?_⟩
                repeat (refine tq_quiet rfl ?_; go_big_quiet_step (fail); refine wpQuiet_nil ?_)
                refine tq_loud rfl ?_
                go_wp2_with fail
                have sz := (N3).size
                try simp at sz
                have N7 := ex_alloc N3 (.cells #[.int .i64 0, .int .i64 0] 23)
                have bz : Blk (V150.alloc (.cells #[.int .i64 0, .int .i64 0] 23)) (V150.heap.size) 23 #[.int .i64 0, .int .i64 0] := Blk.new' _ _ _ (by first | rfl | (simp; done) | (simp; omega))
                obtain ⟨pz, hpz⟩ : ∃ p, V150.heap.size = p := ⟨_, rfl⟩
                rw [hpz] at bz
                try rw [hpz]
                have yz : V29.heap.size ≤ pz := by omega
                clear sz
                refine ⟨inEx N7, ?_⟩
                repeat (refine tq_quiet rfl ?_; go_big_quiet_step (fail); refine wpQuiet_nil ?_)
                refine tq_loud rfl ?_
                have XA8 := N7
                generalize (V150.alloc (.cells #[.int .i64 0, .int .i64 0] 23)) = V151 at *
                have sc0 : V151.cell? ⟨pz, 0, none⟩ = some (.int .i64 0) := bz.cell 0
                have sc1 : V151.cell? ⟨pz, 1, none⟩ = some (.int .i64 0) := bz.cell 1
                have sf := bz.frozen0
                have sl := bz.lt
                go_wp2_with fail
                replace bz := bz.set_ 0 (.int .i64 R1.lo)
                replace XA8 := ex_set (p := ⟨pz, 0, none⟩) XA8 yz (.int .i64 R1.lo)
                replace bz := bz.set_ 1 (.int .i64 R1.hi)
                replace XA8 := ex_set (p := ⟨pz, 1, none⟩) XA8 yz (.int .i64 R1.hi)
                simp only [List.setIfInBounds_toArray, List.set_cons_zero, List.set_cons_succ] at bz
                clear sf sl sc0 sc1
                generalize ((V151.setCell ⟨pz, 0, none⟩ (.int .i64 R1.lo)).setCell ⟨pz, 1, none⟩ (.int .i64 R1.hi)) = V152 at *
                refine ⟨inEx XA8, ?_⟩
                repeat (refine tq_quiet rfl ?_; go_big_quiet_step (fail); refine wpQuiet_nil ?_)
                refine tq_done (r := [_]) rfl ?_
                go_wp2_with fail
                exact hrest V152 R1 ev1 _ (XA8) hc1 (exFrame (by kernel_rfl))
              · go_wp2_with fail
                have sz := (N1).size
                try simp at sz
                have N7 := ex_alloc N1 (.cells #[.int .i64 0, .int .i64 0] 23)
                have bz : Blk (V149.alloc (.cells #[.int .i64 0, .int .i64 0] 23)) (V149.heap.size) 23 #[.int .i64 0, .int .i64 0] := Blk.new' _ _ _ (by first | rfl | (simp; done) | (simp; omega))
                replace hg1 := hg1.go (ex_alloc (Below.refl V149.heap.size V149) (.cells #[.int .i64 0, .int .i64 0] 23))
                replace hh1 := hh1.go (ex_alloc (Below.refl V149.heap.size V149) (.cells #[.int .i64 0, .int .i64 0] 23))
                obtain ⟨pz, hpz⟩ : ∃ p, V149.heap.size = p := ⟨_, rfl⟩
                rw [hpz] at bz
                try rw [hpz]
                have yz : V29.heap.size ≤ pz := by omega
                clear sz
                refine ⟨inEx N7, ?_⟩
                repeat (refine tq_quiet rfl ?_; go_big_quiet_step (fail); refine wpQuiet_nil ?_)
                refine tq_loud rfl ?_
                go_wp2_with fail
                refine (Correct_v rodT Ab1 Ad1 2 2 A1 none 4 0 springH [] nmOut _ hg1 hh1 (hn _) (by decide)).mono ?_
                rintro e V153 ⟨⟨R1, ev1, rfl, hc1⟩, hV153⟩
                replace bz := Blk.below bz hV153 bz.lt
                have N3 := ex_trans N7 hV153
                go_wp2_with fail
                refine ⟨inEx N3, ?_⟩
                repeat (refine tq_quiet rfl ?_; go_big_quiet_step (fail); refine wpQuiet_nil ?_)
                refine tq_loud rfl ?_
                have XA8 := N3
                generalize V153 = V154 at *
                have sc0 : V154.cell? ⟨pz, 0, none⟩ = some (.int .i64 0) := bz.cell 0
                have sc1 : V154.cell? ⟨pz, 1, none⟩ = some (.int .i64 0) := bz.cell 1
                have sf := bz.frozen0
                have sl := bz.lt
                go_wp2_with fail
                replace bz := bz.set_ 0 (.int .i64 R1.lo)
                replace XA8 := ex_set (p := ⟨pz, 0, none⟩) XA8 yz (.int .i64 R1.lo)
                replace bz := bz.set_ 1 (.int .i64 R1.hi)
                replace XA8 := ex_set (p := ⟨pz, 1, none⟩) XA8 yz (.int .i64 R1.hi)
                simp only [List.setIfInBounds_toArray, List.set_cons_zero, List.set_cons_succ] at bz
                clear sf sl sc0 sc1
                generalize ((V154.setCell ⟨pz, 0, none⟩ (.int .i64 R1.lo)).setCell ⟨pz, 1, none⟩ (.int .i64 R1.hi)) = V155 at *
                refine ⟨inEx XA8, ?_⟩
                repeat (refine tq_quiet rfl ?_; go_big_quiet_step (fail); refine wpQuiet_nil ?_)
                refine tq_done (r := [_]) rfl ?_
                go_wp2_with fail
                exact hrest V155 R1 ev1 _ (XA8) hc1 (exFrame (by kernel_rfl))
            · go_wp2_with fail
              have sz := (N0).size
              try simp at sz
              have N7 := ex_alloc N0 (.cells #[.int .i64 0, .int .i64 0] 23)
              have bz : Blk (V148.alloc (.cells #[.int .i64 0, .int .i64 0] 23)) (V148.heap.size) 23 #[.int .i64 0, .int .i64 0] := Blk.new' _ _ _ (by first | rfl | (simp; done) | (simp; omega))
              replace hg1 := hg1.go (ex_alloc (Below.refl V148.heap.size V148) (.cells #[.int .i64 0, .int .i64 0] 23))
              obtain ⟨pz, hpz⟩ : ∃ p, V148.heap.size = p := ⟨_, rfl⟩
              rw [hpz] at bz
              try rw [hpz]
              have yz : V29.heap.size ≤ pz := by omega
              clear sz
              refine ⟨inEx N7, ?_⟩
              repeat (refine tq_quiet rfl ?_; go_big_quiet_step (fail); refine wpQuiet_nil ?_)
              refine tq_loud rfl ?_
              go_wp2_with fail
              refine (sr_spring _).mono ?_
              rintro e V156 ⟨⟨A1, rfl, hh1⟩, hV156⟩
              replace bz := Blk.below bz hV156 bz.lt
              have N1 := ex_trans N7 hV156
              go_wp2_with fail
              replace hg1 := hg1.go hV156
              refine ⟨inEx N1, ?_⟩
              repeat (refine tq_quiet rfl ?_; go_big_quiet_step (fail); refine wpQuiet_nil ?_)
              refine tq_loud rfl ?_
              go_wp2_with fail
              refine (Correct_v rodT Ab1 Ad1 2 2 A1 none 4 0 springH [] nmOut _ hg1 hh1 (hn _) (by decide)).mono ?_
              rintro e V157 ⟨⟨R1, ev1, rfl, hc1⟩, hV157⟩
              replace bz := Blk.below bz hV157 bz.lt
              have N3 := ex_trans N1 hV157
              go_wp2_with fail
              refine ⟨inEx N3, ?_⟩
              repeat (refine tq_quiet rfl ?_; go_big_quiet_step (fail); refine wpQuiet_nil ?_)
              refine tq_loud rfl ?_
              have XA8 := N3
              generalize V157 = V158 at *
              have sc0 : V158.cell? ⟨pz, 0, none⟩ = some (.int .i64 0) := bz.cell 0
              have sc1 : V158.cell? ⟨pz, 1, none⟩ = some (.int .i64 0) := bz.cell 1
              have sf := bz.frozen0
              have sl := bz.lt
              go_wp2_with fail
              replace bz := bz.set_ 0 (.int .i64 R1.lo)
              replace XA8 := ex_set (p := ⟨pz, 0, none⟩) XA8 yz (.int .i64 R1.lo)
              replace bz := bz.set_ 1 (.int .i64 R1.hi)
              replace XA8 := ex_set (p := ⟨pz, 1, none⟩) XA8 yz (.int .i64 R1.hi)
              simp only [List.setIfInBounds_toArray, List.set_cons_zero, List.set_cons_succ] at bz
              clear sf sl sc0 sc1
              generalize ((V158.setCell ⟨pz, 0, none⟩ (.int .i64 R1.lo)).setCell ⟨pz, 1, none⟩ (.int .i64 R1.hi)) = V159 at *
              refine ⟨inEx XA8, ?_⟩
              repeat (refine tq_quiet rfl ?_; go_big_quiet_step (fail); refine wpQuiet_nil ?_)
              refine tq_done (r := [_]) rfl ?_
              go_wp2_with fail
              exact hrest V159 R1 ev1 _ (XA8) hc1 (exFrame (by kernel_rfl))
          · go_wp2_with fail
            have sz := ((Below.refl V29.heap.size V29)).size
            try simp at sz
            have N7 := ex_alloc (Below.refl V29.heap.size V29) (.cells #[.int .i64 0, .int .i64 0] 23)
            have bz : Blk (V29.alloc (.cells #[.int .i64 0, .int .i64 0] 23)) (V29.heap.size) 23 #[.int .i64 0, .int .i64 0] := Blk.new' _ _ _ (by first | rfl | (simp; done) | (simp; omega))
            obtain ⟨pz, hpz⟩ : ∃ p, V29.heap.size = p := ⟨_, rfl⟩
            rw [hpz] at bz
            try rw [hpz]
            have yz : V29.heap.size ≤ pz := by omega
            clear sz
            refine ⟨inEx (N7).drew, ?_⟩
            repeat (refine tq_quiet rfl ?_; go_big_quiet_step (fail); refine wpQuiet_nil ?_)
            refine tq_loud rfl ?_
            go_wp2_with fail
            refine (sr_rod _).mono ?_
            rintro e V160 ⟨⟨Ab1, Ad1, rfl, hg1⟩, hV160⟩
            replace bz := Blk.below (Blk.drew bz) hV160 bz.lt
            have N0 := ex_trans (N7).drew hV160
            go_wp2_with fail
            refine ⟨inEx N0, ?_⟩
            repeat (refine tq_quiet rfl ?_; go_big_quiet_step (fail); refine wpQuiet_nil ?_)
            refine tq_loud rfl ?_
            go_wp2_with fail
            refine (sr_spring _).mono ?_
            rintro e V161 ⟨⟨A1, rfl, hh1⟩, hV161⟩
            replace bz := Blk.below bz hV161 bz.lt
            have N1 := ex_trans N0 hV161
            go_wp2_with fail
            replace hg1 := hg1.go hV161
            refine ⟨inEx N1, ?_⟩
            repeat (refine tq_quiet rfl ?_; go_big_quiet_step (fail); refine wpQuiet_nil ?_)
            refine tq_loud rfl ?_
            go_wp2_with fail
            refine (Correct_v rodT Ab1 Ad1 2 2 A1 none 4 0 springH [] nmOut _ hg1 hh1 (hn _) (by decide)).mono ?_
            rintro e V162 ⟨⟨R1, ev1, rfl, hc1⟩, hV162⟩
            replace bz := Blk.below bz hV162 bz.lt
            have N3 := ex_trans N1 hV162
            go_wp2_with fail
            refine ⟨inEx N3, ?_⟩
            repeat (refine tq_quiet rfl ?_; go_big_quiet_step (fail); refine wpQuiet_nil ?_)
            refine tq_loud rfl ?_
            have XA8 := N3
            generalize V162 = V163 at *
            have sc0 : V163.cell? ⟨pz, 0, none⟩ = some (.int .i64 0) := bz.cell 0
            have sc1 : V163.cell? ⟨pz, 1, none⟩ = some (.int .i64 0) := bz.cell 1
            have sf := bz.frozen0
            have sl := bz.lt
            go_wp2_with fail
            replace bz := bz.set_ 0 (.int .i64 R1.lo)
            replace XA8 := ex_set (p := ⟨pz, 0, none⟩) XA8 yz (.int .i64 R1.lo)
            replace bz := bz.set_ 1 (.int .i64 R1.hi)
            replace XA8 := ex_set (p := ⟨pz, 1, none⟩) XA8 yz (.int .i64 R1.hi)
            simp only [List.setIfInBounds_toArray, List.set_cons_zero, List.set_cons_succ] at bz
            clear sf sl sc0 sc1
            generalize ((V163.setCell ⟨pz, 0, none⟩ (.int .i64 R1.lo)).setCell ⟨pz, 1, none⟩ (.int .i64 R1.hi)) = V164 at *
            refine ⟨inEx XA8, ?_⟩
            repeat (refine tq_quiet rfl ?_; go_big_quiet_step (fail); refine wpQuiet_nil ?_)
            refine tq_done (r := [_]) rfl ?_
            go_wp2_with fail
            exact hrest V164 R1 ev1 _ (XA8) hc1 (exFrame (by kernel_rfl))
        refine wp_region_ext_tq 9 (.quiet 2 (.fork 0 (.fork 1 (.fork 3 (.quiet 4 (.quiet 5 (.quiet 6 (.loud 7 (.loud 8 .done))))) 7 (.loud 3 (.quiet 4 (.quiet 5 (.quiet 6 (.loud 8 .done)))))) 7 (.loud 1 (.loud 3 (.quiet 4 (.quiet 5 (.quiet 6 (.loud 8 .done))))))) 7 (.loud 0 (.loud 1 (.loud 3 (.quiet 4 (.quiet 5 (.quiet 6 (.loud 8 .done))))))))) (by kernel_rfl) (by kernel_rfl) (by intro d _ _ _ _ h; cases d <;> exact h) ?_
        have D0 := (Below.refl V28.heap.size V28).drew
        repeat (refine tq_quiet rfl ?_; first | (refine wpQuiet_load_row rfl 37 _ rfl _ rfl 37 _ (0, 0) _ qf.ex Try.underlying37 rfl (by kernel_rfl) ?_; simp only [Act.put, List.setIfInBounds_toArray, List.set_cons_zero, List.set_cons_succ]; refine wpQuiet_nil ?_) | (go_big_quiet_step (fail); refine wpQuiet_nil ?_))
        refine tq_fork rfl rfl ?_ ?_
        · go_wp2_with fail
          refine (sr_rod _).mono ?_
          rintro e V165 ⟨⟨Ab1, Ad1, rfl, hg1⟩, hV165⟩
          have N0 := ex_trans ((Below.refl V28.heap.size V28)).drew hV165
          go_wp2_with fail
          refine ⟨inEx N0, ?_⟩
          repeat (refine tq_quiet rfl ?_; go_big_quiet_step (fail); refine wpQuiet_nil ?_)
          refine tq_fork rfl rfl ?_ ?_
          · go_wp2_with fail
            refine (sr_spring _).mono ?_
            rintro e V166 ⟨⟨A1, rfl, hh1⟩, hV166⟩
            have N1 := ex_trans N0 hV166
            go_wp2_with fail
            replace hg1 := hg1.go hV166
            refine ⟨inEx N1, ?_⟩
            repeat (refine tq_quiet rfl ?_; go_big_quiet_step (fail); refine wpQuiet_nil ?_)
            refine tq_fork rfl rfl ?_ ?_
            · go_wp2_with fail
              refine (Correct_v rodT Ab1 Ad1 2 2 A1 none 4 0 springH [] nmFar _ hg1 hh1 (hn _) (by decide)).mono ?_
              rintro e V167 ⟨⟨R1, ev1, rfl, hc1⟩, hV167⟩
              have N3 := ex_trans N1 hV167
              go_wp2_with fail
              refine ⟨inEx N3, ?_⟩
              repeat (refine tq_quiet rfl ?_; go_big_quiet_step (fail); refine wpQuiet_nil ?_)
              refine tq_loud rfl ?_
              go_wp2_with fail
              have sz := (N3).size
              try simp at sz
              have N7 := ex_alloc N3 (.cells #[.int .i64 0, .int .i64 0] 23)
              have bz : Blk (V167.alloc (.cells #[.int .i64 0, .int .i64 0] 23)) (V167.heap.size) 23 #[.int .i64 0, .int .i64 0] := Blk.new' _ _ _ (by first | rfl | (simp; done) | (simp; omega))
              obtain ⟨pz, hpz⟩ : ∃ p, V167.heap.size = p := ⟨_, rfl⟩
              rw [hpz] at bz
              try rw [hpz]
              have yz : V28.heap.size ≤ pz := by omega
              clear sz
              refine ⟨inEx N7, ?_⟩
              repeat (refine tq_quiet rfl ?_; go_big_quiet_step (fail); refine wpQuiet_nil ?_)
              refine tq_loud rfl ?_
              have XA8 := N7
              generalize (V167.alloc (.cells #[.int .i64 0, .int .i64 0] 23)) = V168 at *
              have sc0 : V168.cell? ⟨pz, 0, none⟩ = some (.int .i64 0) := bz.cell 0
              have sc1 : V168.cell? ⟨pz, 1, none⟩ = some (.int .i64 0) := bz.cell 1
              have sf := bz.frozen0
              have sl := bz.lt
              go_wp2_with fail
              replace bz := bz.set_ 0 (.int .i64 R1.lo)
              replace XA8 := ex_set (p := ⟨pz, 0, none⟩) XA8 yz (.int .i64 R1.lo)
              replace bz := bz.set_ 1 (.int .i64 R1.hi)
              replace XA8 := ex_set (p := ⟨pz, 1, none⟩) XA8 yz (.int .i64 R1.hi)
              simp only [List.setIfInBounds_toArray, List.set_cons_zero, List.set_cons_succ] at bz
              clear sf sl sc0 sc1
              generalize ((V168.setCell ⟨pz, 0, none⟩ (.int .i64 R1.lo)).setCell ⟨pz, 1, none⟩ (.int .i64 R1.hi)) = V169 at *
              refine ⟨inEx XA8, ?_⟩
              repeat (refine tq_quiet rfl ?_; go_big_quiet_step (fail); refine wpQuiet_nil ?_)
              refine tq_done (r := [_]) rfl ?_
              go_wp2_with fail
              exact hrest V169 R1 ev1 _ (XA8) hc1 (exFrame (by kernel_rfl))
            · go_wp2_with fail
              have sz := (N1).size
              try simp at sz
              have N7 := ex_alloc N1 (.cells #[.int .i64 0, .int .i64 0] 23)
              have bz : Blk (V166.alloc (.cells #[.int .i64 0, .int .i64 0] 23)) (V166.heap.size) 23 #[.int .i64 0, .int .i64 0] := Blk.new' _ _ _ (by first | rfl | (simp; done) | (simp; omega))
              replace hg1 := hg1.go (ex_alloc (Below.refl V166.heap.size V166) (.cells #[.int .i64 0, .int .i64 0] 23))
              replace hh1 := hh1.go (ex_alloc (Below.refl V166.heap.size V166) (.cells #[.int .i64 0, .int .i64 0] 23))
              obtain ⟨pz, hpz⟩ : ∃ p, V166.heap.size = p := ⟨_, rfl⟩
              rw [hpz] at bz
              try rw [hpz]
              have yz : V28.heap.size ≤ pz := by omega
              clear sz
              refine ⟨inEx N7, ?_⟩
              repeat (refine tq_quiet rfl ?_; go_big_quiet_step (fail); refine wpQuiet_nil ?_)
              refine tq_loud rfl ?_
              go_wp2_with fail
              refine (Correct_v rodT Ab1 Ad1 2 2 A1 none 4 0 springH [] nmFar _ hg1 hh1 (hn _) (by decide)).mono ?_
              rintro e V170 ⟨⟨R1, ev1, rfl, hc1⟩, hV170⟩
              replace bz := Blk.below bz hV170 bz.lt
              have N3 := ex_trans N7 hV170
              go_wp2_with fail
              refine ⟨inEx N3, ?_⟩
              repeat (refine tq_quiet rfl ?_; go_big_quiet_step (fail); refine wpQuiet_nil ?_)
              refine tq_loud rfl ?_
              have XA8 := N3
              generalize V170 = V171 at *
              have sc0 : V171.cell? ⟨pz, 0, none⟩ = some (.int .i64 0) := bz.cell 0
              have sc1 : V171.cell? ⟨pz, 1, none⟩ = some (.int .i64 0) := bz.cell 1
              have sf := bz.frozen0
              have sl := bz.lt
              go_wp2_with fail
              replace bz := bz.set_ 0 (.int .i64 R1.lo)
              replace XA8 := ex_set (p := ⟨pz, 0, none⟩) XA8 yz (.int .i64 R1.lo)
              replace bz := bz.set_ 1 (.int .i64 R1.hi)
              replace XA8 := ex_set (p := ⟨pz, 1, none⟩) XA8 yz (.int .i64 R1.hi)
              simp only [List.setIfInBounds_toArray, List.set_cons_zero, List.set_cons_succ] at bz
              clear sf sl sc0 sc1
              generalize ((V171.setCell ⟨pz, 0, none⟩ (.int .i64 R1.lo)).setCell ⟨pz, 1, none⟩ (.int .i64 R1.hi)) = V172 at *
              refine ⟨inEx XA8, ?_⟩
              repeat (refine tq_quiet rfl ?_; go_big_quiet_step (fail); refine wpQuiet_nil ?_)
              refine tq_done (r := [_]) rfl ?_
              go_wp2_with fail
              exact hrest V172 R1 ev1 _ (XA8) hc1 (exFrame (by kernel_rfl))
          · go_wp2_with fail
            have sz := (N0).size
            try simp at sz
            have N7 := ex_alloc N0 (.cells #[.int .i64 0, .int .i64 0] 23)
            have bz : Blk (V165.alloc (.cells #[.int .i64 0, .int .i64 0] 23)) (V165.heap.size) 23 #[.int .i64 0, .int .i64 0] := Blk.new' _ _ _ (by first | rfl | (simp; done) | (simp; omega))
            replace hg1 := hg1.go (ex_alloc (Below.refl V165.heap.size V165) (.cells #[.int .i64 0, .int .i64 0] 23))
            obtain ⟨pz, hpz⟩ : ∃ p, V165.heap.size = p := ⟨_, rfl⟩
            rw [hpz] at bz
            try rw [hpz]
            have yz : V28.heap.size ≤ pz := by omega
            clear sz
            refine ⟨inEx N7, ?_⟩
            repeat (refine tq_quiet rfl ?_; go_big_quiet_step (fail); refine wpQuiet_nil ?_)
            refine tq_loud rfl ?_
            go_wp2_with fail
            refine (sr_spring _).mono ?_
            rintro e V173 ⟨⟨A1, rfl, hh1⟩, hV173⟩
            replace bz := Blk.below bz hV173 bz.lt
            have N1 := ex_trans N7 hV173
            go_wp2_with fail
            replace hg1 := hg1.go hV173
            refine ⟨inEx N1, ?_⟩
            repeat (refine tq_quiet rfl ?_; go_big_quiet_step (fail); refine wpQuiet_nil ?_)
            refine tq_loud rfl ?_
            go_wp2_with fail
            refine (Correct_v rodT Ab1 Ad1 2 2 A1 none 4 0 springH [] nmFar _ hg1 hh1 (hn _) (by decide)).mono ?_
            rintro e V174 ⟨⟨R1, ev1, rfl, hc1⟩, hV174⟩
            replace bz := Blk.below bz hV174 bz.lt
            have N3 := ex_trans N1 hV174
            go_wp2_with fail
            refine ⟨inEx N3, ?_⟩
            repeat (refine tq_quiet rfl ?_; go_big_quiet_step (fail); refine wpQuiet_nil ?_)
            refine tq_loud rfl ?_
            have XA8 := N3
            generalize V174 = V175 at *
            have sc0 : V175.cell? ⟨pz, 0, none⟩ = some (.int .i64 0) := bz.cell 0
            have sc1 : V175.cell? ⟨pz, 1, none⟩ = some (.int .i64 0) := bz.cell 1
            have sf := bz.frozen0
            have sl := bz.lt
            go_wp2_with fail
            replace bz := bz.set_ 0 (.int .i64 R1.lo)
            replace XA8 := ex_set (p := ⟨pz, 0, none⟩) XA8 yz (.int .i64 R1.lo)
            replace bz := bz.set_ 1 (.int .i64 R1.hi)
            replace XA8 := ex_set (p := ⟨pz, 1, none⟩) XA8 yz (.int .i64 R1.hi)
            simp only [List.setIfInBounds_toArray, List.set_cons_zero, List.set_cons_succ] at bz
            clear sf sl sc0 sc1
            generalize ((V175.setCell ⟨pz, 0, none⟩ (.int .i64 R1.lo)).setCell ⟨pz, 1, none⟩ (.int .i64 R1.hi)) = V176 at *
            refine ⟨inEx XA8, ?_⟩
            repeat (refine tq_quiet rfl ?_; go_big_quiet_step (fail); refine wpQuiet_nil ?_)
            refine tq_done (r := [_]) rfl ?_
            go_wp2_with fail
            exact hrest V176 R1 ev1 _ (XA8) hc1 (exFrame (by kernel_rfl))
        · go_wp2_with fail
          have sz := ((Below.refl V28.heap.size V28)).size
          try simp at sz
          have N7 := ex_alloc (Below.refl V28.heap.size V28) (.cells #[.int .i64 0, .int .i64 0] 23)
          have bz : Blk (V28.alloc (.cells #[.int .i64 0, .int .i64 0] 23)) (V28.heap.size) 23 #[.int .i64 0, .int .i64 0] := Blk.new' _ _ _ (by first | rfl | (simp; done) | (simp; omega))
          obtain ⟨pz, hpz⟩ : ∃ p, V28.heap.size = p := ⟨_, rfl⟩
          rw [hpz] at bz
          try rw [hpz]
          have yz : V28.heap.size ≤ pz := by omega
          clear sz
          refine ⟨inEx (N7).drew, ?_⟩
          repeat (refine tq_quiet rfl ?_; go_big_quiet_step (fail); refine wpQuiet_nil ?_)
          refine tq_loud rfl ?_
          go_wp2_with fail
          refine (sr_rod _).mono ?_
          rintro e V177 ⟨⟨Ab1, Ad1, rfl, hg1⟩, hV177⟩
          replace bz := Blk.below (Blk.drew bz) hV177 bz.lt
          have N0 := ex_trans (N7).drew hV177
          go_wp2_with fail
          refine ⟨inEx N0, ?_⟩
          repeat (refine tq_quiet rfl ?_; go_big_quiet_step (fail); refine wpQuiet_nil ?_)
          refine tq_loud rfl ?_
          go_wp2_with fail
          refine (sr_spring _).mono ?_
          rintro e V178 ⟨⟨A1, rfl, hh1⟩, hV178⟩
          replace bz := Blk.below bz hV178 bz.lt
          have N1 := ex_trans N0 hV178
          go_wp2_with fail
          replace hg1 := hg1.go hV178
          refine ⟨inEx N1, ?_⟩
          repeat (refine tq_quiet rfl ?_; go_big_quiet_step (fail); refine wpQuiet_nil ?_)
          refine tq_loud rfl ?_
          go_wp2_with fail
          refine (Correct_v rodT Ab1 Ad1 2 2 A1 none 4 0 springH [] nmFar _ hg1 hh1 (hn _) (by decide)).mono ?_
          rintro e V179 ⟨⟨R1, ev1, rfl, hc1⟩, hV179⟩
          replace bz := Blk.below bz hV179 bz.lt
          have N3 := ex_trans N1 hV179
          go_wp2_with fail
          refine ⟨inEx N3, ?_⟩
          repeat (refine tq_quiet rfl ?_; go_big_quiet_step (fail); refine wpQuiet_nil ?_)
          refine tq_loud rfl ?_
          have XA8 := N3
          generalize V179 = V180 at *
          have sc0 : V180.cell? ⟨pz, 0, none⟩ = some (.int .i64 0) := bz.cell 0
          have sc1 : V180.cell? ⟨pz, 1, none⟩ = some (.int .i64 0) := bz.cell 1
          have sf := bz.frozen0
          have sl := bz.lt
          go_wp2_with fail
          replace bz := bz.set_ 0 (.int .i64 R1.lo)
          replace XA8 := ex_set (p := ⟨pz, 0, none⟩) XA8 yz (.int .i64 R1.lo)
          replace bz := bz.set_ 1 (.int .i64 R1.hi)
          replace XA8 := ex_set (p := ⟨pz, 1, none⟩) XA8 yz (.int .i64 R1.hi)
          simp only [List.setIfInBounds_toArray, List.set_cons_zero, List.set_cons_succ] at bz
          clear sf sl sc0 sc1
          generalize ((V180.setCell ⟨pz, 0, none⟩ (.int .i64 R1.lo)).setCell ⟨pz, 1, none⟩ (.int .i64 R1.hi)) = V181 at *
          refine ⟨inEx XA8, ?_⟩
          repeat (refine tq_quiet rfl ?_; go_big_quiet_step (fail); refine wpQuiet_nil ?_)
          refine tq_done (r := [_]) rfl ?_
          go_wp2_with fail
          exact hrest V181 R1 ev1 _ (XA8) hc1 (exFrame (by kernel_rfl))
      refine wp_region_ext_tq 9 (.quiet 2 (.quiet 4 (.fork 0 (.fork 1 (.loud 3 (.loud 5 (.quiet 6 (.quiet 7 (.quiet 8 .done))))) 3 (.loud 1 (.loud 5 (.quiet 6 (.quiet 7 (.quiet 8 .done)))))) 3 (.loud 0 (.loud 1 (.loud 5 (.quiet 6 (.quiet 7 (.quiet 8 .done))))))))) (by kernel_rfl) (by kernel_rfl) (by intro d _ _ _ _ h; cases d <;> exact h) ?_
      have D0 := (Below.refl V21.heap.size V21).drew
      repeat (refine tq_quiet rfl ?_; first | (refine wpQuiet_load_row rfl 37 _ rfl _ rfl 37 _ (0, 0) _ ql.ex Try.underlying37 rfl (by kernel_rfl) ?_; simp only [Act.put, List.setIfInBounds_toArray, List.set_cons_zero, List.set_cons_succ]; refine wpQuiet_nil ?_) | (go_big_quiet_step (fail); refine wpQuiet_nil ?_))
      refine tq_fork rfl rfl ?_ ?_
      · go_wp2_with fail
        refine (sr_rod _).mono ?_
        rintro e V182 ⟨⟨Ab1, Ad1, rfl, hg1⟩, hV182⟩
        have N0 := ex_trans ((Below.refl V21.heap.size V21)).drew hV182
        go_wp2_with fail
        refine ⟨inEx N0, ?_⟩
        repeat (refine tq_quiet rfl ?_; go_big_quiet_step (fail); refine wpQuiet_nil ?_)
        refine tq_fork rfl rfl ?_ ?_
        · go_wp2_with fail
          refine (sr_spring _).mono ?_
          rintro e V183 ⟨⟨A1, rfl, hh1⟩, hV183⟩
          have N1 := ex_trans N0 hV183
          go_wp2_with fail
          replace hg1 := hg1.go hV183
          refine ⟨inEx N1, ?_⟩
          repeat (refine tq_quiet rfl ?_; go_big_quiet_step (fail); refine wpQuiet_nil ?_)
          refine tq_loud rfl ?_
          go_wp2_with fail
          have si := (N1).size
          try simp at si
          have N3 := ex_alloc N1 (.cells #[.int .i64 1, .int .i64 (-7), .int .i64 0] 40)
          have bi : Blk (V183.alloc (.cells #[.int .i64 1, .int .i64 (-7), .int .i64 0] 40)) (V183.heap.size) 40 #[.int .i64 1, .int .i64 (-7), .int .i64 0] := Blk.new' _ _ _ (by first | rfl | (simp; done) | (simp; omega))
          replace hg1 := hg1.go (ex_alloc (Below.refl V183.heap.size V183) (.cells #[.int .i64 1, .int .i64 (-7), .int .i64 0] 40))
          replace hh1 := hh1.go (ex_alloc (Below.refl V183.heap.size V183) (.cells #[.int .i64 1, .int .i64 (-7), .int .i64 0] 40))
          obtain ⟨pi, hpi⟩ : ∃ p, V183.heap.size = p := ⟨_, rfl⟩
          rw [hpi] at bi
          try rw [hpi]
          have yi : V21.heap.size ≤ pi := by omega
          clear si
          refine ⟨inEx N3, ?_⟩
          repeat (refine tq_quiet rfl ?_; go_big_quiet_step (fail); refine wpQuiet_nil ?_)
          refine tq_loud rfl ?_
          go_wp2_with fail
          refine (Correct_v rodT Ab1 Ad1 2 2 A1 (some ⟨pi, 0, none⟩) 4 1 springH [⟨1, -7, 0⟩] nmLate _ hg1 hh1 (by first | exact one_at bi (ice_row _ _ _) | exact one_at (Blk.drew bi) (ice_row _ _ _)) (by decide)).mono ?_
          rintro e V184 ⟨⟨R1, ev1, rfl, hc1⟩, hV184⟩
          replace bi := Blk.below bi hV184 bi.lt
          have N5 := ex_trans N3 hV184
          go_wp2_with fail
          refine ⟨inEx N5, ?_⟩
          repeat (refine tq_quiet rfl ?_; go_big_quiet_step (fail); refine wpQuiet_nil ?_)
          refine tq_done (r := [_]) rfl ?_
          go_wp2_with fail
          exact hrest V184 R1 ev1 _ (N5) hc1 (exFrame (by kernel_rfl))
        · go_wp2_with fail
          have si := (N0).size
          try simp at si
          have N3 := ex_alloc N0 (.cells #[.int .i64 1, .int .i64 (-7), .int .i64 0] 40)
          have bi : Blk (V182.alloc (.cells #[.int .i64 1, .int .i64 (-7), .int .i64 0] 40)) (V182.heap.size) 40 #[.int .i64 1, .int .i64 (-7), .int .i64 0] := Blk.new' _ _ _ (by first | rfl | (simp; done) | (simp; omega))
          replace hg1 := hg1.go (ex_alloc (Below.refl V182.heap.size V182) (.cells #[.int .i64 1, .int .i64 (-7), .int .i64 0] 40))
          obtain ⟨pi, hpi⟩ : ∃ p, V182.heap.size = p := ⟨_, rfl⟩
          rw [hpi] at bi
          try rw [hpi]
          have yi : V21.heap.size ≤ pi := by omega
          clear si
          refine ⟨inEx N3, ?_⟩
          repeat (refine tq_quiet rfl ?_; go_big_quiet_step (fail); refine wpQuiet_nil ?_)
          refine tq_loud rfl ?_
          go_wp2_with fail
          refine (sr_spring _).mono ?_
          rintro e V185 ⟨⟨A1, rfl, hh1⟩, hV185⟩
          replace bi := Blk.below bi hV185 bi.lt
          have N1 := ex_trans N3 hV185
          go_wp2_with fail
          replace hg1 := hg1.go hV185
          refine ⟨inEx N1, ?_⟩
          repeat (refine tq_quiet rfl ?_; go_big_quiet_step (fail); refine wpQuiet_nil ?_)
          refine tq_loud rfl ?_
          go_wp2_with fail
          refine (Correct_v rodT Ab1 Ad1 2 2 A1 (some ⟨pi, 0, none⟩) 4 1 springH [⟨1, -7, 0⟩] nmLate _ hg1 hh1 (by first | exact one_at bi (ice_row _ _ _) | exact one_at (Blk.drew bi) (ice_row _ _ _)) (by decide)).mono ?_
          rintro e V186 ⟨⟨R1, ev1, rfl, hc1⟩, hV186⟩
          replace bi := Blk.below bi hV186 bi.lt
          have N5 := ex_trans N1 hV186
          go_wp2_with fail
          refine ⟨inEx N5, ?_⟩
          repeat (refine tq_quiet rfl ?_; go_big_quiet_step (fail); refine wpQuiet_nil ?_)
          refine tq_done (r := [_]) rfl ?_
          go_wp2_with fail
          exact hrest V186 R1 ev1 _ (N5) hc1 (exFrame (by kernel_rfl))
      · go_wp2_with fail
        have si := ((Below.refl V21.heap.size V21)).size
        try simp at si
        have N3 := ex_alloc (Below.refl V21.heap.size V21) (.cells #[.int .i64 1, .int .i64 (-7), .int .i64 0] 40)
        have bi : Blk (V21.alloc (.cells #[.int .i64 1, .int .i64 (-7), .int .i64 0] 40)) (V21.heap.size) 40 #[.int .i64 1, .int .i64 (-7), .int .i64 0] := Blk.new' _ _ _ (by first | rfl | (simp; done) | (simp; omega))
        obtain ⟨pi, hpi⟩ : ∃ p, V21.heap.size = p := ⟨_, rfl⟩
        rw [hpi] at bi
        try rw [hpi]
        have yi : V21.heap.size ≤ pi := by omega
        clear si
        refine ⟨inEx (N3).drew, ?_⟩
        repeat (refine tq_quiet rfl ?_; go_big_quiet_step (fail); refine wpQuiet_nil ?_)
        refine tq_loud rfl ?_
        go_wp2_with fail
        refine (sr_rod _).mono ?_
        rintro e V187 ⟨⟨Ab1, Ad1, rfl, hg1⟩, hV187⟩
        replace bi := Blk.below (Blk.drew bi) hV187 bi.lt
        have N0 := ex_trans (N3).drew hV187
        go_wp2_with fail
        refine ⟨inEx N0, ?_⟩
        repeat (refine tq_quiet rfl ?_; go_big_quiet_step (fail); refine wpQuiet_nil ?_)
        refine tq_loud rfl ?_
        go_wp2_with fail
        refine (sr_spring _).mono ?_
        rintro e V188 ⟨⟨A1, rfl, hh1⟩, hV188⟩
        replace bi := Blk.below bi hV188 bi.lt
        have N1 := ex_trans N0 hV188
        go_wp2_with fail
        replace hg1 := hg1.go hV188
        refine ⟨inEx N1, ?_⟩
        repeat (refine tq_quiet rfl ?_; go_big_quiet_step (fail); refine wpQuiet_nil ?_)
        refine tq_loud rfl ?_
        go_wp2_with fail
        refine (Correct_v rodT Ab1 Ad1 2 2 A1 (some ⟨pi, 0, none⟩) 4 1 springH [⟨1, -7, 0⟩] nmLate _ hg1 hh1 (by first | exact one_at bi (ice_row _ _ _) | exact one_at (Blk.drew bi) (ice_row _ _ _)) (by decide)).mono ?_
        rintro e V189 ⟨⟨R1, ev1, rfl, hc1⟩, hV189⟩
        replace bi := Blk.below bi hV189 bi.lt
        have N5 := ex_trans N1 hV189
        go_wp2_with fail
        refine ⟨inEx N5, ?_⟩
        repeat (refine tq_quiet rfl ?_; go_big_quiet_step (fail); refine wpQuiet_nil ?_)
        refine tq_done (r := [_]) rfl ?_
        go_wp2_with fail
        exact hrest V189 R1 ev1 _ (N5) hc1 (exFrame (by kernel_rfl))
    refine wp_region_ext_tq 7 (.quiet 2 (.loud 0 (.loud 1 (.loud 3 (.quiet 4 (.quiet 5 (.quiet 6 .done))))))) (by kernel_rfl) (by kernel_rfl) (by intro d _ _ _ _ h; cases d <;> exact h) ?_
    have D0 := (Below.refl V20.heap.size V20).drew
    repeat (refine tq_quiet rfl ?_; first | (refine wpQuiet_load_row rfl 37 _ rfl _ rfl 37 _ (0, 0) _ ql.ex Try.underlying37 rfl (by kernel_rfl) ?_; simp only [Act.put, List.setIfInBounds_toArray, List.set_cons_zero, List.set_cons_succ]; refine wpQuiet_nil ?_) | (go_big_quiet_step (fail); refine wpQuiet_nil ?_))
    refine tq_loud rfl ?_
    go_wp2_with fail
    refine (sr_rod _).mono ?_
    rintro e V190 ⟨⟨Ab1, Ad1, rfl, hg1⟩, hV190⟩
    have N0 := ex_trans ((Below.refl V20.heap.size V20)).drew hV190
    go_wp2_with fail
    refine ⟨inEx N0, ?_⟩
    repeat (refine tq_quiet rfl ?_; go_big_quiet_step (fail); refine wpQuiet_nil ?_)
    refine tq_loud rfl ?_
    go_wp2_with fail
    refine (sr_spring _).mono ?_
    rintro e V191 ⟨⟨A1, rfl, hh1⟩, hV191⟩
    have N1 := ex_trans N0 hV191
    go_wp2_with fail
    replace hg1 := hg1.go hV191
    refine ⟨inEx N1, ?_⟩
    repeat (refine tq_quiet rfl ?_; go_big_quiet_step (fail); refine wpQuiet_nil ?_)
    refine tq_loud rfl ?_
    go_wp2_with fail
    refine (Correct_v rodT Ab1 Ad1 2 2 A1 none 4 0 springH [] nmLate _ hg1 hh1 (hn _) (by decide)).mono ?_
    rintro e V192 ⟨⟨R1, ev1, rfl, hc1⟩, hV192⟩
    have N3 := ex_trans N1 hV192
    go_wp2_with fail
    refine ⟨inEx N3, ?_⟩
    repeat (refine tq_quiet rfl ?_; go_big_quiet_step (fail); refine wpQuiet_nil ?_)
    refine tq_done (r := [_]) rfl ?_
    go_wp2_with fail
    exact hrest V192 R1 ev1 _ (N3) hc1 (exFrame (by kernel_rfl))
  refine wp_region_ext_tq 7 (.quiet 2 (.loud 0 (.loud 1 (.loud 3 (.quiet 4 (.quiet 5 (.quiet 6 .done))))))) (by kernel_rfl) (by kernel_rfl) (by intro d _ _ _ _ h; cases d <;> exact h) ?_
  have D0 := (Below.refl V19.heap.size V19).drew
  repeat (refine tq_quiet rfl ?_; first | (refine wpQuiet_load_row rfl 37 _ rfl _ rfl 37 _ (0, 0) _ qb.ex Try.underlying37 rfl (by kernel_rfl) ?_; simp only [Act.put, List.setIfInBounds_toArray, List.set_cons_zero, List.set_cons_succ]; refine wpQuiet_nil ?_) | (go_big_quiet_step (fail); refine wpQuiet_nil ?_))
  refine tq_loud rfl ?_
  go_wp2_with fail
  refine (sr_rod _).mono ?_
  rintro e V193 ⟨⟨Ab1, Ad1, rfl, hg1⟩, hV193⟩
  have N0 := ex_trans ((Below.refl V19.heap.size V19)).drew hV193
  go_wp2_with fail
  refine ⟨inEx N0, ?_⟩
  repeat (refine tq_quiet rfl ?_; go_big_quiet_step (fail); refine wpQuiet_nil ?_)
  refine tq_loud rfl ?_
  go_wp2_with fail
  refine (sr_spring _).mono ?_
  rintro e V194 ⟨⟨A1, rfl, hh1⟩, hV194⟩
  have N1 := ex_trans N0 hV194
  go_wp2_with fail
  replace hg1 := hg1.go hV194
  refine ⟨inEx N1, ?_⟩
  repeat (refine tq_quiet rfl ?_; go_big_quiet_step (fail); refine wpQuiet_nil ?_)
  refine tq_loud rfl ?_
  go_wp2_with fail
  refine (Correct_v rodT Ab1 Ad1 2 2 A1 none 4 0 springH [] nmBroken _ hg1 hh1 (hn _) (by decide)).mono ?_
  rintro e V195 ⟨⟨R1, ev1, rfl, hc1⟩, hV195⟩
  have N3 := ex_trans N1 hV195
  go_wp2_with fail
  refine ⟨inEx N3, ?_⟩
  repeat (refine tq_quiet rfl ?_; go_big_quiet_step (fail); refine wpQuiet_nil ?_)
  refine tq_done (r := [_]) rfl ?_
  go_wp2_with fail
  exact hrest V195 R1 ev1 _ (N3) hc1 (exFrame (by kernel_rfl))


end Go.Proofs.Ytkaogjhnogkcdaa
end
