/- Bath's laws: BathFewest (walk). -/
import Derived.Lib.MinMax
import Derived.Deep.CutBlock
import Derived.Test.YtnplefhigbkbbaaQ13
import Derived.Test.YtnplefhigbkbbaaQ8
import Derived.Test.YtnplefhigbkbbaaQ10
set_option linter.unusedVariables false
set_option linter.unusedSimpArgs false
set_option linter.unusedSectionVars false
section
namespace Go.Proofs.Ytnplefhigbkbbaa
open Go.RowKit
attribute [local go_sem] Ex.cell? Ex.frozen? Fx.cell?

theorem RightP.mono {w x : Wo} (hl : x.rng.length = w.rng.length) (hro : w.room ≤ x.room) (hst : w.steps ≤ x.steps) (hrg : ∀ k, k < w.rng.length → (gR x.rng k).lo ≤ (gR w.rng k).lo ∧ (gR w.rng k).hi ≤ (gR x.rng k).hi) {q : List Dp} (h : RightP w q) : RightP x q where
  dips := fun k hk => by
    have d := h.dips k hk
    refine ⟨⟨d.len.1, by have := d.len.2; omega⟩, fun j hj => by rw [hl]; exact d.ins j hj, d.inc, fun j hj => ?_⟩
    have h1 := d.ins j hj
    have h2 := d.heat j hj
    have h3 := hrg _ (show (gI (gDp q k).ins j).toNat < w.rng.length by omega)
    omega
  known := by
    obtain ⟨K, h1, h2⟩ := h.known
    exact ⟨K, h1, fun i hi => by have := h2 i (by rw [← hl]; exact hi); omega⟩
theorem wider_room {w : Wo} (h : WoOk w) : WoOk ⟨w.rng, min 6 (w.room + 1), w.steps⟩ ∧ ∀ q, RightP w q → RightP ⟨w.rng, min 6 (w.room + 1), w.steps⟩ q := by
  have h1 := h.room
  exact ⟨⟨h.n, h.rng, by show 2 ≤ min 6 (w.room + 1) ∧ min 6 (w.room + 1) ≤ 6; omega, h.steps⟩, fun q hq => RightP.mono (w := w) (x := ⟨w.rng, min 6 (w.room + 1), w.steps⟩) rfl (by show w.room ≤ min 6 (w.room + 1); omega) (Int.le_refl _) (fun k _ => ⟨Int.le_refl _, Int.le_refl _⟩) hq⟩
theorem wider_steps {w : Wo} (h : WoOk w) : WoOk ⟨w.rng, w.room, min 4 (w.steps + 1)⟩ ∧ ∀ q, RightP w q → RightP ⟨w.rng, w.room, min 4 (w.steps + 1)⟩ q := by
  have h1 := h.steps
  exact ⟨⟨h.n, h.rng, h.room, by show 1 ≤ min 4 (w.steps + 1) ∧ min 4 (w.steps + 1) ≤ 4; omega⟩, fun q hq => RightP.mono (w := w) (x := ⟨w.rng, w.room, min 4 (w.steps + 1)⟩) rfl (Int.le_refl _) (by show w.steps ≤ min 4 (w.steps + 1); omega) (fun k _ => ⟨Int.le_refl _, Int.le_refl _⟩) hq⟩
theorem wider_rng {w : Wo} (h : WoOk w) {b : Nat} (hb : b < w.rng.length) {m : Int} (hm : 0 ≤ m) : WoOk ⟨w.rng.set b ⟨max 0 ((gR w.rng b).lo - m), min 1000 ((gR w.rng b).hi + m)⟩, w.room, w.steps⟩ ∧ ∀ q, RightP w q → RightP ⟨w.rng.set b ⟨max 0 ((gR w.rng b).lo - m), min 1000 ((gR w.rng b).hi + m)⟩, w.room, w.steps⟩ q := by
  have hl : (w.rng.set b ⟨max 0 ((gR w.rng b).lo - m), min 1000 ((gR w.rng b).hi + m)⟩).length = w.rng.length := List.length_set
  have h1 := h.rng b hb
  refine ⟨⟨by show 0 < (w.rng.set b _).length ∧ (w.rng.set b _).length ≤ 6; rw [hl]; exact h.n, fun k hk => ?_, h.room, h.steps⟩, fun q hq => RightP.mono (w := w) (x := ⟨w.rng.set b ⟨max 0 ((gR w.rng b).lo - m), min 1000 ((gR w.rng b).hi + m)⟩, w.room, w.steps⟩) hl (Int.le_refl _) (Int.le_refl _) (fun k hk => ?_) hq⟩
  · have hk' : k < w.rng.length := by rw [← hl]; exact hk
    show 0 ≤ (gR (w.rng.set b _) k).lo ∧ (gR (w.rng.set b _) k).lo ≤ (gR (w.rng.set b _) k).hi ∧ (gR (w.rng.set b _) k).hi ≤ 1000
    rw [gR_set hb]
    split
    · show 0 ≤ max 0 ((gR w.rng b).lo - m) ∧ max 0 ((gR w.rng b).lo - m) ≤ min 1000 ((gR w.rng b).hi + m) ∧ min 1000 ((gR w.rng b).hi + m) ≤ 1000
      omega
    · exact h.rng k hk'
  · show (gR (w.rng.set b _) k).lo ≤ (gR w.rng k).lo ∧ (gR w.rng k).hi ≤ (gR (w.rng.set b _) k).hi
    rw [gR_set hb]
    split
    · rename_i e; subst e
      show max 0 ((gR w.rng k).lo - m) ≤ (gR w.rng k).lo ∧ (gR w.rng k).hi ≤ min 1000 ((gR w.rng k).hi + m)
      omega
    · exact ⟨Int.le_refl _, Int.le_refl _⟩
theorem few_parts {w x : Wo} {p r r2 : List Dp} {ev ev2 : Int} {isb : Bool} (hw : WoOk w) (hx : WoOk x ∧ ∀ q, RightP w q → RightP x q) (h : PlanV w r ev) (h2 : PlanV x r2 ev2) (hi : ProveV w p 99 isb) :
    Hid (ev = 0 ∧ MinPl w r ∨ ev = 9 ∧ isb = false) ∧ Hid (ev = 0 → ev2 = 0 ∧ r2.length ≤ r.length) := by
  have hcw := woOk_iff.2 hw
  have hcx := woOk_iff.2 hx.1
  rcases h with ⟨h, _⟩ | ⟨_, hn, rfl, _⟩ | ⟨_, hm, rfl⟩
  · exact absurd hcw h
  · refine ⟨Lib.hid (.inr ⟨rfl, ?_⟩), Lib.hid (fun e => absurd e (by decide))⟩
    cases isb
    · rfl
    · exact absurd (hi.1 rfl).2.1 (hn p)
  · refine ⟨Lib.hid (.inl ⟨rfl, hm⟩), Lib.hid (fun _ => ?_)⟩
    rcases h2 with ⟨h, _⟩ | ⟨_, hn, _⟩ | ⟨_, hm2, e⟩
    · exact absurd hcx h
    · exact absurd (hx.2 _ hm.right) (hn r)
    · exact ⟨e, hm2.least _ (hx.2 _ hm.right)⟩
theorem few_err {x : Wo} {r : List Dp} {ev : Int} (hx : WoOk x) (h : PlanV x r ev) : Hid (ev = 0 ∨ ev = 9) := by
  rcases h with ⟨h, _⟩ | ⟨_, _, e, _⟩ | ⟨_, _, e⟩
  · exact absurd (woOk_iff.2 hx) h
  · exact Lib.hid (.inr e)
  · exact Lib.hid (.inl e)
theorem few_is {w : Wo} {p r : List Dp} {isb : Bool} (h : MinPl w r) (hi : ProveV w p 99 isb) : isb = true → (r.length : Int) ≤ (p.length : Int) := fun e => by
  have := h.least _ (hi.1 e).2.1
  omega
theorem MinPl.small {w : Wo} {r : List Dp} (h : MinPl w r) (hw : WoOk w) (h6 : r.length ≤ 6) : SmPl r := ⟨by omega, fun k hk => by
  have h1 := (h.right.dips k hk).len.2
  have h2 := hw.room
  omega⟩
theorem prove_len {w : Wo} {r : List Dp} {t : Bool} (hw : WoOk w) (h : MinPl w r) (ht : ProveV w r (r.length : Int) t) : t = true := ht.2 ⟨woOk_iff.2 hw, h.right, Int.le_refl _⟩
theorem prove_less {w : Wo} {r : List Dp} {t : Bool} (ht : ProveV w r ((r.length : Int) - 1) t) : t = false := by
  cases t
  · rfl
  · have := (ht.1 rfl).2.2
    omega
set_option maxRecDepth 100000 in
set_option maxHeartbeats 25600000 in
theorem FewestLaw_any (w0 : Wo) (Ar : Option Addr) (cr : Nat) (p : List Dp) (Ap : Option Addr) (cp : Nat) (rA : Nat → Option Addr) (rc : Nat → Nat) (m1 m2 : Int) (hm2 : 0 ≤ m2 ∧ m2 ≤ 255) (w : World) (hr : SlAt w w.heap.size 2 Ar w0.rng.length (fR w0.rng)) (hrl : w0.rng.length ≤ maxLen) (hp : PlIn w w.heap.size p Ap rA rc) (hpl : p.length ≤ maxLen) :
    Calls Try.prog 13 #[.agg #[.slice Ar w0.rng.length cr, .int .i64 w0.room, .int .i64 w0.steps], .slice Ap p.length cp, .int .u8 m1, .int .u8 m2] w fun e w' => e = .returned (.bool true) ∧ Below w.heap.size w w' := by
  have B_V := ex_alloc (Below.refl w.heap.size w) (.cells #[.slice Ar w0.rng.length cr, .int .i64 w0.room, .int .i64 w0.steps] 60)
  have q0 : Blk (w.alloc (.cells #[.slice Ar w0.rng.length cr, .int .i64 w0.room, .int .i64 w0.steps] 60)) w.heap.size 60 #[.slice Ar w0.rng.length cr, .int .i64 w0.room, .int .i64 w0.steps] := Blk.new _ _ _
  have hm : maxLen = 9223372036854775807 := rfl
  go_enter Try.func13, Try.ntmps13
  go_wp2_with fail
  generalize w.alloc (.cells #[.slice Ar w0.rng.length cr, .int .i64 w0.room, .int .i64 w0.steps] 60) = V at *
  have a0 : V.cell? ⟨w.heap.size, 0, none⟩ = some (.slice Ar w0.rng.length cr) := q0.cell 0
  have a1 : V.cell? ⟨w.heap.size, 1, none⟩ = some (.int .i64 w0.room) := q0.cell 1
  have a2 : V.cell? ⟨w.heap.size, 2, none⟩ = some (.int .i64 w0.steps) := q0.cell 2
  have l0 := q0.lt
  refine (short_law w0 Ar cr p Ap cp rA rc V (hp.below B_V) hpl hrl).mono ?_
  rintro e W1 ⟨⟨y, rfl, hx⟩, hW1⟩
  replace q0 := q0.below hW1 q0.lt
  have B_W1 := ex_trans B_V hW1
  clear a0 a1 a2 l0
  have a0 : W1.cell? ⟨w.heap.size, 0, none⟩ = some (.slice Ar w0.rng.length cr) := q0.cell 0
  have a1 : W1.cell? ⟨w.heap.size, 1, none⟩ = some (.int .i64 w0.room) := q0.cell 1
  have a2 : W1.cell? ⟨w.heap.size, 2, none⟩ = some (.int .i64 w0.steps) := q0.cell 2
  have l0 := q0.lt
  cases y
  · go_wp2_with fail
    refine (wakes_any _).mono ?_
    rintro e Wz ⟨rfl, hz⟩
    go_wp2
    go_ret
    exact ⟨rfl, ex_trans B_W1 hz⟩
  have HS := Lib.hid (hx.out rfl)
  clear hx
  have hn9 := HS.out.n
  have hp9 := HS.out.len
  have hsm : SmPl p := ⟨by omega, fun k hk => by have := HS.out.ins k hk; omega⟩
  have HSM := Lib.hid hsm
  clear hsm
  go_wp2_with fail
  refine (worksFault_any w0 Ar cr W1 ((hr.below B_W1).up B_W1.size) (by omega)).mono ?_
  rintro e W2 ⟨rfl, hW2⟩
  replace q0 := q0.below hW2 q0.lt
  have B_W2 := ex_trans B_W1 hW2
  clear a0 a1 a2 l0
  have a0 : W2.cell? ⟨w.heap.size, 0, none⟩ = some (.slice Ar w0.rng.length cr) := q0.cell 0
  have a1 : W2.cell? ⟨w.heap.size, 1, none⟩ = some (.int .i64 w0.room) := q0.cell 1
  have a2 : W2.cell? ⟨w.heap.size, 2, none⟩ = some (.int .i64 w0.steps) := q0.cell 2
  have l0 := q0.lt
  by_cases h0 : ckWo w0 = 0
  rotate_left
  · generalize ckWo w0 = ck at *
    have e2 : (ck != 0) = true := by simp [h0]
    clear h0
    go_wp2_with fail
    refine (wakes_any _).mono ?_
    rintro e Wz ⟨rfl, hz⟩
    go_wp2
    go_ret
    exact ⟨rfl, ex_trans B_W2 hz⟩
  rw [h0]
  have HOK : Hid (WoOk w0) := Lib.hid (woOk_iff.1 h0)
  clear h0
  obtain ⟨v, hv⟩ : ∃ v, m1.tmod 3 = v := ⟨_, rfl⟩
  go_upto_block 0 with fail
  have N9 := ex_alloc (Below.refl W2.heap.size W2) (.cells #[.slice Ar w0.rng.length cr, .int .i64 w0.room, .int .i64 w0.steps] 60)
  have q9 : Blk (W2.alloc (.cells #[.slice Ar w0.rng.length cr, .int .i64 w0.room, .int .i64 w0.steps] 60)) W2.heap.size 60 #[.slice Ar w0.rng.length cr, .int .i64 w0.room, .int .i64 w0.steps] := Blk.new _ _ _
  replace q0 := q0.below N9 q0.lt
  have B_V2 := ex_trans B_W2 N9
  obtain ⟨p9, hp9e⟩ : ∃ p9, W2.heap.size = p9 := ⟨_, rfl⟩
  have hp90 : w.heap.size < p9 := by omega
  rw [hp9e] at q9 ⊢
  clear hp9e N9
  generalize W2.alloc (.cells #[.slice Ar w0.rng.length cr, .int .i64 w0.room, .int .i64 w0.steps] 60) = V2 at *
  clear l0 a0 a1 a2
  refine wp_cut (fun a W => Rel (fun a W => (∃ (x : Wo) (Ax : Option Addr) (cx : Nat), Hid (WoOk x ∧ ∀ q, RightP w0 q → RightP x q) ∧ Blk W w.heap.size 60 #[.slice Ar w0.rng.length cr, .int .i64 w0.room, .int .i64 w0.steps] ∧ Blk W p9 60 #[.slice Ax x.rng.length cx, .int .i64 x.room, .int .i64 x.steps] ∧ SlAt W W.heap.size 2 Ax x.rng.length (fR x.rng) ∧ Below w.heap.size w W) ∧ ∃ u : Nat → Value, a = ⟨List.toArray (u 0 :: .slice Ap p.length cp :: u 2 :: u 3 :: .pointer (some ⟨w.heap.size, 0, none⟩) :: u 5 :: u 6 :: u 7 :: .bool false :: .pointer (some ⟨p9, 0, none⟩) :: u 10 :: u 11 :: u 12 :: u 13 :: u 14 :: u 15 :: u 16 :: u 17 :: u 18 :: u 19 :: u 20 :: u 21 :: u 22 :: u 23 :: u 24 :: u 25 :: u 26 :: u 27 :: u 28 :: u 29 :: u 30 :: u 31 :: u 32 :: u 33 :: u 34 :: u 35 :: u 36 :: u 37 :: u 38 :: u 39 :: u 40 :: u 41 :: u 42 :: u 43 :: u 44 :: u 45 :: u 46 :: u 47 :: u 48 :: u 49 :: u 50 :: u 51 :: u 52 :: u 53 :: u 54 :: u 55 :: u 56 :: u 57 :: u 58 :: u 59 :: u 60 :: u 61 :: u 62 :: u 63 :: u 64 :: u 65 :: u 66 :: u 67 :: u 68 :: u 69 :: u 70 :: u 71 :: u 72 :: u 73 :: u 74 :: u 75 :: u 76 :: u 77 :: u 78 :: u 79 :: u 80 :: u 81 :: u 82 :: u 83 :: u 84 :: u 85 :: u 86 :: u 87 :: u 88 :: u 89 :: u 90 :: u 91 :: u 92 :: u 93 :: u 94 :: u 95 :: u 96 :: u 97 :: u 98 :: u 99 :: u 100 :: u 101 :: u 102 :: u 103 :: u 104 :: u 105 :: u 106 :: u 107 :: u 108 :: u 109 :: u 110 :: u 111 :: u 112 :: u 113 :: u 114 :: u 115 :: u 116 :: u 117 :: u 118 :: u 119 :: u 120 :: u 121 :: u 122 :: u 123 :: u 124 :: u 125 :: u 126 :: u 127 :: u 128 :: u 129 :: u 130 :: u 131 :: u 132 :: u 133 :: u 134 :: u 135 :: u 136 :: u 137 :: u 138 :: u 139 :: u 140 :: u 141 :: u 142 :: u 143 :: u 144 :: u 145 :: u 146 :: u 147 :: u 148 :: u 149 :: u 150 :: u 151 :: u 152 :: u 153 :: u 154 :: u 155 :: u 156 :: u 157 :: u 158 :: u 159 :: u 160 :: u 161 :: []), []⟩) a W) ?_ ?_
  rotate_left
  · intro J K' hJ hK
    have hn := HOK.out.n
    have hro := HOK.out.room
    have hst := HOK.out.steps
    have hr2 := (hr.below B_V2).up B_V2.size
    have a0 : V2.cell? ⟨w.heap.size, 0, none⟩ = some (.slice Ar w0.rng.length cr) := q0.cell 0
    have a1 : V2.cell? ⟨w.heap.size, 1, none⟩ = some (.int .i64 w0.room) := q0.cell 1
    have a2 : V2.cell? ⟨w.heap.size, 2, none⟩ = some (.int .i64 w0.steps) := q0.cell 2
    have l0 := q0.lt
    have b0 : V2.cell? ⟨p9, 0, none⟩ = some (.slice Ar w0.rng.length cr) := q9.cell 0
    have b1 : V2.cell? ⟨p9, 1, none⟩ = some (.int .i64 w0.room) := q9.cell 1
    have b2 : V2.cell? ⟨p9, 2, none⟩ = some (.int .i64 w0.steps) := q9.cell 2
    have l9 := q9.lt
    have f9 := q9.frozen0
    have hpn : w.heap.size ≠ p9 := by omega
    by_cases v0 : v = 0
    · subst v0
      have kr : IntKind.i64.wrap (w0.room + 1) = w0.room + 1 := IntWalk.i64_in _ (by omega)
      go_wp2_with fail
      clear a0 a1 a2 b0 b1 b2 kr
      have q92 := q9.set_ 1 (.int .i64 (min 6 (w0.room + 1)))
      simp only [List.setIfInBounds_toArray, List.set_cons_zero, List.set_cons_succ] at q92
      refine Met.intro (hJ _ _ ⟨⟨⟨⟨w0.rng, min 6 (w0.room + 1), w0.steps⟩, Ar, cr, Lib.hid (wider_room HOK.out), (q0.far (p := ⟨p9, 1, none⟩) hpn (.int .i64 (min 6 (w0.room + 1)))), q92, (hr.below (ex_set B_V2 (p := ⟨p9, 1, none⟩) (by show w.heap.size ≤ p9; omega) (.int .i64 (min 6 (w0.room + 1))))).up (ex_set B_V2 (p := ⟨p9, 1, none⟩) (by show w.heap.size ≤ p9; omega) (.int .i64 (min 6 (w0.room + 1)))).size, ex_set B_V2 (p := ⟨p9, 1, none⟩) (by show w.heap.size ≤ p9; omega) (.int .i64 (min 6 (w0.room + 1)))⟩, exFrame (by kernel_rfl)⟩⟩)
    have ev0 : (v == 0) = false := by simp [v0]
    by_cases v1 : v = 1
    · subst v1
      clear ev0 v0
      have kr : IntKind.i64.wrap (w0.steps + 1) = w0.steps + 1 := IntWalk.i64_in _ (by omega)
      go_wp2_with fail
      clear a0 a1 a2 b0 b1 b2 kr
      have q92 := q9.set_ 2 (.int .i64 (min 4 (w0.steps + 1)))
      simp only [List.setIfInBounds_toArray, List.set_cons_zero, List.set_cons_succ] at q92
      refine Met.intro (hJ _ _ ⟨⟨⟨⟨w0.rng, w0.room, min 4 (w0.steps + 1)⟩, Ar, cr, Lib.hid (wider_steps HOK.out), (q0.far (p := ⟨p9, 2, none⟩) hpn (.int .i64 (min 4 (w0.steps + 1)))), q92, (hr.below (ex_set B_V2 (p := ⟨p9, 2, none⟩) (by show w.heap.size ≤ p9; omega) (.int .i64 (min 4 (w0.steps + 1))))).up (ex_set B_V2 (p := ⟨p9, 2, none⟩) (by show w.heap.size ≤ p9; omega) (.int .i64 (min 4 (w0.steps + 1)))).size, ex_set B_V2 (p := ⟨p9, 2, none⟩) (by show w.heap.size ≤ p9; omega) (.int .i64 (min 4 (w0.steps + 1)))⟩, exFrame (by kernel_rfl)⟩⟩)
    have ev1 : (v == 1) = false := by simp [v1]
    clear v0 v1
    obtain ⟨i0, hi0, hz0, hz1, hz2⟩ := info_parts rrange_info
    have HI := Lib.hid hi0
    clear hi0
    obtain ⟨b, eb⟩ : ∃ n : Nat, m2.tmod (w0.rng.length : Int) = (n : Int) := ⟨(m2.tmod (w0.rng.length : Int)).toNat, by rw [Int.toNat_of_nonneg (Int.tmod_nonneg _ (by omega))]⟩
    have lb : b < w0.rng.length := by have := Int.tmod_lt_of_pos m2 (b := (w0.rng.length : Int)) (by omega); omega
    have tb : IntKind.i64.wrap (m2.tmod (w0.rng.length : Int)) = (b : Int) := by rw [eb]; exact IntWalk.i64_in _ (by omega)
    have k2 : IntKind.i64.wrap m2 = m2 := IntWalk.i64_in _ (by omega)
    have NE := ex_alloc (Below.refl V2.heap.size V2) (.cells #[] 46)
    have qe : Blk (V2.alloc (.cells #[] 46)) V2.heap.size 46 #[] := Blk.new _ _ _
    have q01 := q0.below NE q0.lt
    have q91 := q9.below NE q9.lt
    have B_E := ex_trans B_V2 NE
    have hA2 := (hr.below B_E).up B_E.size
    go_wp2_with (refine pause_at 32 rfl ?_)
    refine Paused.mk ?_
    refine wpList_append_list (α := Rg) (f := cR) (F := fR) (sz := 2) (fun _ => rfl) cR_at cR_one rfl _ _ _ rfl V2.heap.size 46 i0 _ 16 Try.underlying22 HI.out hz0 hz1 hz2 rfl (by omega) (some ⟨V2.heap.size, 0, none⟩) 0 [] rfl (own_empty qe (Nat.le_refl _)) Ar cr w0.rng rfl hA2 (by simp; unfold maxLen; omega) (by simp; omega) (by simp) (V2.heap.size + 1) (by simp) ?_
    intro L B k1 V3 HL o1 gr1 n1
    have hL : L = w0.rng := HL.out
    clear HL
    subst hL
    have hqb : ∀ j, (Value.slice (some ⟨V2.heap.size, 0, none⟩) 0 0).ownBlock = some j → V2.heap.size = j := fun j hj => by simpa [Value.ownBlock] using hj
    have B3 : Below w.heap.size w V3 := B_E.grown gr1 B_E.size (fun j hj => by have := hqb j hj; omega)
    have p0 := q01.grown gr1 (fun e => by have := hqb _ e.symm; omega)
    have p1 := q91.grown gr1 (fun e => by have := hqb _ e.symm; omega)
    clear a0 a1 a2 b0 b1 b2 f9 qe gr1 n1 hqb q01 q91 NE
    obtain ⟨g, cg, hv1, hg, hgl, c0, c1, hf⟩ := rgs_cell o1 (k := b) lb
    injection hv1 with hv1 _ hv2
    subst hv1 hv2
    have b0 : V3.cell? ⟨p9, 0, none⟩ = some (.slice Ar w0.rng.length cr) := p1.cell 0
    have f9 := p1.frozen0
    have l91 := p1.lt
    have hgn : g ≠ p9 := by omega
    have hgn' : p9 ≠ g := by omega
    have hgw : w.heap.size ≠ g := by omega
    have hg0 : w.heap.size ≤ g := by omega
    have o2 := own_far o1 (p := ⟨p9, 0, none⟩) (by show p9 < V2.heap.size; omega) (.slice (some ⟨g, 0, none⟩) w0.rng.length k1)
    have p12 := p1.set_ 0 (.slice (some ⟨g, 0, none⟩) w0.rng.length k1)
    have p02 := p0.far (p := ⟨p9, 0, none⟩) hpn (.slice (some ⟨g, 0, none⟩) w0.rng.length k1)
    have B4 := ex_set B3 (p := ⟨p9, 0, none⟩) (by show w.heap.size ≤ p9; omega) (.slice (some ⟨g, 0, none⟩) w0.rng.length k1)
    simp only [List.setIfInBounds_toArray, List.set_cons_zero] at p12
    go_upto_region 6 with fail
    have hs2 : (V3.setCell ⟨p9, 0, none⟩ (.slice (some ⟨g, 0, none⟩) w0.rng.length k1)).heap.size = V3.heap.size := by simp
    rw [← hs2] at hgl l91
    clear hs2 c0 c1 hf b0 f9 p0 p1 B3 o1
    generalize V3.setCell ⟨p9, 0, none⟩ (.slice (some ⟨g, 0, none⟩) w0.rng.length k1) = V4 at *
    obtain ⟨g2, cg2, hv1, _, _, c0, c1, hf⟩ := rgs_cell o2 (k := b) lb
    injection hv1 with hv1
    injection hv1 with hv1
    injection hv1 with hv1
    subst hv1
    have b0 : V4.cell? ⟨p9, 0, none⟩ = some (.slice (some ⟨g, 0, none⟩) w0.rng.length k1) := p12.cell 0
    go_wp2_with fail
    refine wp_region_ext_mix 9 [(false, 0), (false, 1), (false, 2), (false, 3), (false, 4), (false, 5), (false, 6), (false, 7), (false, 8)] (by kernel_rfl) (by kernel_rfl) (by intro d _ _ _ _ h; cases d <;> exact h) ?_
    repeat (refine mix_quiet rfl ?_; go_big_quiet_step (fail); refine wpQuiet_nil ?_)
    refine mix_nil rfl ?_
    go_upto_region 7 with fail
    have o3 : V4.drew.ownsRow V2.heap.size 46 2 (.slice (some ⟨g, 0, none⟩) w0.rng.length k1) w0.rng.length (w0.rng.flatMap cR) := o2
    have p13 := p12.drew
    have p03 := p02.drew
    have B5 := B4.drew
    have d0 : V4.drew.cell? ⟨g, b * 2, none⟩ = _ := c0
    have d1 : V4.drew.cell? ⟨g, b * 2 + 1, none⟩ = _ := c1
    have df : ∀ j, V4.drew.frozen? ⟨g, j, none⟩ = false := hf
    have hgl5 : g < V4.drew.heap.size := hgl
    clear o2 p12 p02 B4 c0 c1 hf hgl b0 l91
    generalize V4.drew = V5 at *
    have hrg := HOK.out.rng b lb
    have hd0 : V5.cell? ⟨g, b * 2, none⟩ = some (.int .i64 (gR w0.rng b).lo) := d0
    have hd1 : V5.cell? ⟨g, b * 2 + 1, none⟩ = some (.int .i64 (gR w0.rng b).hi) := d1
    clear d0 d1
    have kl : IntKind.i64.wrap ((gR w0.rng b).lo - m2) = (gR w0.rng b).lo - m2 := IntWalk.i64_in _ (by omega)
    have kh : IntKind.i64.wrap ((gR w0.rng b).hi + m2) = (gR w0.rng b).hi + m2 := IntWalk.i64_in _ (by omega)
    go_wp2_with fail
    refine wp_region_fx_tq (fun j => j = g) 23 (.quiet 0 (.quiet 1 (.quiet 2 (.quiet 3 (.quiet 4 (.quiet 6 (.quiet 7 (.quiet 10 (.quiet 11 (.quiet 12 (.quiet 14 (.quiet 15 (.fork 5 (.quiet 8 (.fork 9 (.loud 13 (.quiet 16 (.quiet 18 (.quiet 19 (.fork 17 (.loud 20 (.quiet 21 (.quiet 22 .done))) 20 (.loud 17 (.quiet 21 (.quiet 22 .done)))))))) 13 (.quiet 16 (.fork 9 (.quiet 18 (.quiet 19 (.fork 17 (.loud 20 (.quiet 21 (.quiet 22 .done))) 20 (.loud 17 (.quiet 21 (.quiet 22 .done)))))) 17 (.loud 9 (.quiet 18 (.quiet 19 (.loud 20 (.quiet 21 (.quiet 22 .done)))))))))) 13 (.quiet 16 (.fork 5 (.quiet 8 (.fork 9 (.quiet 18 (.quiet 19 (.fork 17 (.loud 20 (.quiet 21 (.quiet 22 .done))) 20 (.loud 17 (.quiet 21 (.quiet 22 .done)))))) 17 (.loud 9 (.quiet 18 (.quiet 19 (.loud 20 (.quiet 21 (.quiet 22 .done)))))))) 17 (.loud 5 (.quiet 8 (.loud 9 (.quiet 18 (.quiet 19 (.loud 20 (.quiet 21 (.quiet 22 .done))))))))))))))))))))))) (by kernel_rfl) (by kernel_rfl) (by intro d _ _ _ _ h; cases d <;> exact h) ?_
    repeat (refine tq_quiet rfl ?_; go_big_quiet_step (fail); refine wpQuiet_nil ?_)
    refine tq_fork rfl rfl ?_ ?_
    · go_wp2_with fail
      refine ⟨inFx (Fr.refl (fun j => j = g) V5).drew, ?_⟩
      repeat (refine tq_quiet rfl ?_; go_big_quiet_step (fail); refine wpQuiet_nil ?_)
      refine tq_fork rfl rfl ?_ ?_
      · go_wp2_with fail
        refine ⟨inFx (Fr.refl (fun j => j = g) V5).drew, ?_⟩
        repeat (refine tq_quiet rfl ?_; go_big_quiet_step (fail); refine wpQuiet_nil ?_)
        refine tq_loud rfl ?_
        go_wp2_with fail
        refine ⟨inFx (Fr.refl (fun j => j = g) V5).drew, ?_⟩
        repeat (refine tq_quiet rfl ?_; go_big_quiet_step (fail); refine wpQuiet_nil ?_)
        refine tq_fork rfl rfl ?_ ?_
        · go_wp2_with fail
          refine ⟨inFx (Fr.refl (fun j => j = g) V5).drew, ?_⟩
          repeat (refine tq_quiet rfl ?_; go_big_quiet_step (fail); refine wpQuiet_nil ?_)
          refine tq_loud rfl ?_
          go_wp2_with fail
          refine ⟨inFx ((Fr.refl (fun j => j = g) V5).drew.andSet rfl), ?_⟩
          repeat (refine tq_quiet rfl ?_; go_big_quiet_step (fail); refine wpQuiet_nil ?_)
          refine tq_done (r := [_]) rfl ?_
          go_wp2_with fail
          have o5 := rgs_set (l := w0.rng) (k := b) (show V5.drew.ownsRow V2.heap.size 46 2 (.slice (some ⟨g, 0, none⟩) w0.rng.length k1) w0.rng.length (w0.rng.flatMap cR) from o3) (show (Value.slice (some ⟨g, 0, none⟩) w0.rng.length k1).ownBlock = some g from rfl) lb ⟨(max 0 ((gR w0.rng b).lo - m2)), (min 1000 ((gR w0.rng b).hi + m2))⟩
          have p14 := (p13.drew.far (p := ⟨g, b * 2, none⟩) hgn' (.int .i64 (max 0 ((gR w0.rng b).lo - m2)))).far (p := ⟨g, b * 2 + 1, none⟩) hgn' (.int .i64 (min 1000 ((gR w0.rng b).hi + m2)))
          have p04 := (p03.drew.far (p := ⟨g, b * 2, none⟩) hgw (.int .i64 (max 0 ((gR w0.rng b).lo - m2)))).far (p := ⟨g, b * 2 + 1, none⟩) hgw (.int .i64 (min 1000 ((gR w0.rng b).hi + m2)))
          have B6 := ex_set (ex_set B5.drew (p := ⟨g, b * 2, none⟩) hg0 (.int .i64 (max 0 ((gR w0.rng b).lo - m2)))) (p := ⟨g, b * 2 + 1, none⟩) hg0 (.int .i64 (min 1000 ((gR w0.rng b).hi + m2)))
          obtain ⟨A9, c9, hv9, _, _, hsl⟩ := own_R o5
          rw [List.length_set] at hv9
          injection hv9 with hv91 _ hv92
          subst hv91 hv92
          have hlen : (w0.rng.set b ⟨(max 0 ((gR w0.rng b).lo - m2)), (min 1000 ((gR w0.rng b).hi + m2))⟩).length = w0.rng.length := List.length_set
          refine Met.intro (hJ _ _ ⟨⟨⟨⟨w0.rng.set b ⟨(max 0 ((gR w0.rng b).lo - m2)), (min 1000 ((gR w0.rng b).hi + m2))⟩, w0.room, w0.steps⟩, (some ⟨g, 0, none⟩), k1, Lib.hid (wider_rng HOK.out lb hm2.1), p04, (by show Blk _ p9 60 #[.slice (some ⟨g, 0, none⟩) (w0.rng.set b ⟨(max 0 ((gR w0.rng b).lo - m2)), (min 1000 ((gR w0.rng b).hi + m2))⟩).length k1, .int .i64 w0.room, .int .i64 w0.steps]; rw [hlen]; exact p14), hsl, B6⟩, exFrame (by kernel_rfl)⟩⟩)
        · go_wp2_with fail
          refine ⟨inFx ((Fr.refl (fun j => j = g) V5).drew.andSet rfl), ?_⟩
          repeat (refine tq_quiet rfl ?_; go_big_quiet_step (fail); refine wpQuiet_nil ?_)
          refine tq_loud rfl ?_
          go_wp2_with fail
          refine ⟨inFx ((Fr.refl (fun j => j = g) V5).drew.andSet rfl), ?_⟩
          repeat (refine tq_quiet rfl ?_; go_big_quiet_step (fail); refine wpQuiet_nil ?_)
          refine tq_done (r := [_]) rfl ?_
          go_wp2_with fail
          have o5 := rgs_set (l := w0.rng) (k := b) (show V5.drew.ownsRow V2.heap.size 46 2 (.slice (some ⟨g, 0, none⟩) w0.rng.length k1) w0.rng.length (w0.rng.flatMap cR) from o3) (show (Value.slice (some ⟨g, 0, none⟩) w0.rng.length k1).ownBlock = some g from rfl) lb ⟨(max 0 ((gR w0.rng b).lo - m2)), (min 1000 ((gR w0.rng b).hi + m2))⟩
          have p14 := (p13.drew.far (p := ⟨g, b * 2, none⟩) hgn' (.int .i64 (max 0 ((gR w0.rng b).lo - m2)))).far (p := ⟨g, b * 2 + 1, none⟩) hgn' (.int .i64 (min 1000 ((gR w0.rng b).hi + m2)))
          have p04 := (p03.drew.far (p := ⟨g, b * 2, none⟩) hgw (.int .i64 (max 0 ((gR w0.rng b).lo - m2)))).far (p := ⟨g, b * 2 + 1, none⟩) hgw (.int .i64 (min 1000 ((gR w0.rng b).hi + m2)))
          have B6 := ex_set (ex_set B5.drew (p := ⟨g, b * 2, none⟩) hg0 (.int .i64 (max 0 ((gR w0.rng b).lo - m2)))) (p := ⟨g, b * 2 + 1, none⟩) hg0 (.int .i64 (min 1000 ((gR w0.rng b).hi + m2)))
          obtain ⟨A9, c9, hv9, _, _, hsl⟩ := own_R o5
          rw [List.length_set] at hv9
          injection hv9 with hv91 _ hv92
          subst hv91 hv92
          have hlen : (w0.rng.set b ⟨(max 0 ((gR w0.rng b).lo - m2)), (min 1000 ((gR w0.rng b).hi + m2))⟩).length = w0.rng.length := List.length_set
          refine Met.intro (hJ _ _ ⟨⟨⟨⟨w0.rng.set b ⟨(max 0 ((gR w0.rng b).lo - m2)), (min 1000 ((gR w0.rng b).hi + m2))⟩, w0.room, w0.steps⟩, (some ⟨g, 0, none⟩), k1, Lib.hid (wider_rng HOK.out lb hm2.1), p04, (by show Blk _ p9 60 #[.slice (some ⟨g, 0, none⟩) (w0.rng.set b ⟨(max 0 ((gR w0.rng b).lo - m2)), (min 1000 ((gR w0.rng b).hi + m2))⟩).length k1, .int .i64 w0.room, .int .i64 w0.steps]; rw [hlen]; exact p14), hsl, B6⟩, exFrame (by kernel_rfl)⟩⟩)
      · go_wp2_with fail
        refine ⟨inFx (Fr.refl (fun j => j = g) V5).drew, ?_⟩
        repeat (refine tq_quiet rfl ?_; go_big_quiet_step (fail); refine wpQuiet_nil ?_)
        refine tq_fork rfl rfl ?_ ?_
        · go_wp2_with fail
          refine ⟨inFx (Fr.refl (fun j => j = g) V5).drew, ?_⟩
          repeat (refine tq_quiet rfl ?_; go_big_quiet_step (fail); refine wpQuiet_nil ?_)
          refine tq_fork rfl rfl ?_ ?_
          · go_wp2_with fail
            refine ⟨inFx (Fr.refl (fun j => j = g) V5).drew, ?_⟩
            repeat (refine tq_quiet rfl ?_; go_big_quiet_step (fail); refine wpQuiet_nil ?_)
            refine tq_loud rfl ?_
            go_wp2_with fail
            refine ⟨inFx ((Fr.refl (fun j => j = g) V5).drew.andSet rfl), ?_⟩
            repeat (refine tq_quiet rfl ?_; go_big_quiet_step (fail); refine wpQuiet_nil ?_)
            refine tq_done (r := [_]) rfl ?_
            go_wp2_with fail
            have o5 := rgs_set (l := w0.rng) (k := b) (show V5.drew.ownsRow V2.heap.size 46 2 (.slice (some ⟨g, 0, none⟩) w0.rng.length k1) w0.rng.length (w0.rng.flatMap cR) from o3) (show (Value.slice (some ⟨g, 0, none⟩) w0.rng.length k1).ownBlock = some g from rfl) lb ⟨(max 0 ((gR w0.rng b).lo - m2)), (min 1000 ((gR w0.rng b).hi + m2))⟩
            have p14 := (p13.drew.far (p := ⟨g, b * 2, none⟩) hgn' (.int .i64 (max 0 ((gR w0.rng b).lo - m2)))).far (p := ⟨g, b * 2 + 1, none⟩) hgn' (.int .i64 (min 1000 ((gR w0.rng b).hi + m2)))
            have p04 := (p03.drew.far (p := ⟨g, b * 2, none⟩) hgw (.int .i64 (max 0 ((gR w0.rng b).lo - m2)))).far (p := ⟨g, b * 2 + 1, none⟩) hgw (.int .i64 (min 1000 ((gR w0.rng b).hi + m2)))
            have B6 := ex_set (ex_set B5.drew (p := ⟨g, b * 2, none⟩) hg0 (.int .i64 (max 0 ((gR w0.rng b).lo - m2)))) (p := ⟨g, b * 2 + 1, none⟩) hg0 (.int .i64 (min 1000 ((gR w0.rng b).hi + m2)))
            obtain ⟨A9, c9, hv9, _, _, hsl⟩ := own_R o5
            rw [List.length_set] at hv9
            injection hv9 with hv91 _ hv92
            subst hv91 hv92
            have hlen : (w0.rng.set b ⟨(max 0 ((gR w0.rng b).lo - m2)), (min 1000 ((gR w0.rng b).hi + m2))⟩).length = w0.rng.length := List.length_set
            refine Met.intro (hJ _ _ ⟨⟨⟨⟨w0.rng.set b ⟨(max 0 ((gR w0.rng b).lo - m2)), (min 1000 ((gR w0.rng b).hi + m2))⟩, w0.room, w0.steps⟩, (some ⟨g, 0, none⟩), k1, Lib.hid (wider_rng HOK.out lb hm2.1), p04, (by show Blk _ p9 60 #[.slice (some ⟨g, 0, none⟩) (w0.rng.set b ⟨(max 0 ((gR w0.rng b).lo - m2)), (min 1000 ((gR w0.rng b).hi + m2))⟩).length k1, .int .i64 w0.room, .int .i64 w0.steps]; rw [hlen]; exact p14), hsl, B6⟩, exFrame (by kernel_rfl)⟩⟩)
          · go_wp2_with fail
            refine ⟨inFx ((Fr.refl (fun j => j = g) V5).drew.andSet rfl), ?_⟩
            repeat (refine tq_quiet rfl ?_; go_big_quiet_step (fail); refine wpQuiet_nil ?_)
            refine tq_loud rfl ?_
            go_wp2_with fail
            refine ⟨inFx ((Fr.refl (fun j => j = g) V5).drew.andSet rfl), ?_⟩
            repeat (refine tq_quiet rfl ?_; go_big_quiet_step (fail); refine wpQuiet_nil ?_)
            refine tq_done (r := [_]) rfl ?_
            go_wp2_with fail
            have o5 := rgs_set (l := w0.rng) (k := b) (show V5.drew.ownsRow V2.heap.size 46 2 (.slice (some ⟨g, 0, none⟩) w0.rng.length k1) w0.rng.length (w0.rng.flatMap cR) from o3) (show (Value.slice (some ⟨g, 0, none⟩) w0.rng.length k1).ownBlock = some g from rfl) lb ⟨(max 0 ((gR w0.rng b).lo - m2)), (min 1000 ((gR w0.rng b).hi + m2))⟩
            have p14 := (p13.drew.far (p := ⟨g, b * 2, none⟩) hgn' (.int .i64 (max 0 ((gR w0.rng b).lo - m2)))).far (p := ⟨g, b * 2 + 1, none⟩) hgn' (.int .i64 (min 1000 ((gR w0.rng b).hi + m2)))
            have p04 := (p03.drew.far (p := ⟨g, b * 2, none⟩) hgw (.int .i64 (max 0 ((gR w0.rng b).lo - m2)))).far (p := ⟨g, b * 2 + 1, none⟩) hgw (.int .i64 (min 1000 ((gR w0.rng b).hi + m2)))
            have B6 := ex_set (ex_set B5.drew (p := ⟨g, b * 2, none⟩) hg0 (.int .i64 (max 0 ((gR w0.rng b).lo - m2)))) (p := ⟨g, b * 2 + 1, none⟩) hg0 (.int .i64 (min 1000 ((gR w0.rng b).hi + m2)))
            obtain ⟨A9, c9, hv9, _, _, hsl⟩ := own_R o5
            rw [List.length_set] at hv9
            injection hv9 with hv91 _ hv92
            subst hv91 hv92
            have hlen : (w0.rng.set b ⟨(max 0 ((gR w0.rng b).lo - m2)), (min 1000 ((gR w0.rng b).hi + m2))⟩).length = w0.rng.length := List.length_set
            refine Met.intro (hJ _ _ ⟨⟨⟨⟨w0.rng.set b ⟨(max 0 ((gR w0.rng b).lo - m2)), (min 1000 ((gR w0.rng b).hi + m2))⟩, w0.room, w0.steps⟩, (some ⟨g, 0, none⟩), k1, Lib.hid (wider_rng HOK.out lb hm2.1), p04, (by show Blk _ p9 60 #[.slice (some ⟨g, 0, none⟩) (w0.rng.set b ⟨(max 0 ((gR w0.rng b).lo - m2)), (min 1000 ((gR w0.rng b).hi + m2))⟩).length k1, .int .i64 w0.room, .int .i64 w0.steps]; rw [hlen]; exact p14), hsl, B6⟩, exFrame (by kernel_rfl)⟩⟩)
        · go_wp2_with fail
          refine ⟨inFx (Fr.refl (fun j => j = g) V5).drew, ?_⟩
          repeat (refine tq_quiet rfl ?_; go_big_quiet_step (fail); refine wpQuiet_nil ?_)
          refine tq_loud rfl ?_
          go_wp2_with fail
          refine ⟨inFx (Fr.refl (fun j => j = g) V5).drew, ?_⟩
          repeat (refine tq_quiet rfl ?_; go_big_quiet_step (fail); refine wpQuiet_nil ?_)
          refine tq_loud rfl ?_
          go_wp2_with fail
          refine ⟨inFx ((Fr.refl (fun j => j = g) V5).drew.andSet rfl), ?_⟩
          repeat (refine tq_quiet rfl ?_; go_big_quiet_step (fail); refine wpQuiet_nil ?_)
          refine tq_done (r := [_]) rfl ?_
          go_wp2_with fail
          have o5 := rgs_set (l := w0.rng) (k := b) (show V5.drew.ownsRow V2.heap.size 46 2 (.slice (some ⟨g, 0, none⟩) w0.rng.length k1) w0.rng.length (w0.rng.flatMap cR) from o3) (show (Value.slice (some ⟨g, 0, none⟩) w0.rng.length k1).ownBlock = some g from rfl) lb ⟨(max 0 ((gR w0.rng b).lo - m2)), (min 1000 ((gR w0.rng b).hi + m2))⟩
          have p14 := (p13.drew.far (p := ⟨g, b * 2, none⟩) hgn' (.int .i64 (max 0 ((gR w0.rng b).lo - m2)))).far (p := ⟨g, b * 2 + 1, none⟩) hgn' (.int .i64 (min 1000 ((gR w0.rng b).hi + m2)))
          have p04 := (p03.drew.far (p := ⟨g, b * 2, none⟩) hgw (.int .i64 (max 0 ((gR w0.rng b).lo - m2)))).far (p := ⟨g, b * 2 + 1, none⟩) hgw (.int .i64 (min 1000 ((gR w0.rng b).hi + m2)))
          have B6 := ex_set (ex_set B5.drew (p := ⟨g, b * 2, none⟩) hg0 (.int .i64 (max 0 ((gR w0.rng b).lo - m2)))) (p := ⟨g, b * 2 + 1, none⟩) hg0 (.int .i64 (min 1000 ((gR w0.rng b).hi + m2)))
          obtain ⟨A9, c9, hv9, _, _, hsl⟩ := own_R o5
          rw [List.length_set] at hv9
          injection hv9 with hv91 _ hv92
          subst hv91 hv92
          have hlen : (w0.rng.set b ⟨(max 0 ((gR w0.rng b).lo - m2)), (min 1000 ((gR w0.rng b).hi + m2))⟩).length = w0.rng.length := List.length_set
          refine Met.intro (hJ _ _ ⟨⟨⟨⟨w0.rng.set b ⟨(max 0 ((gR w0.rng b).lo - m2)), (min 1000 ((gR w0.rng b).hi + m2))⟩, w0.room, w0.steps⟩, (some ⟨g, 0, none⟩), k1, Lib.hid (wider_rng HOK.out lb hm2.1), p04, (by show Blk _ p9 60 #[.slice (some ⟨g, 0, none⟩) (w0.rng.set b ⟨(max 0 ((gR w0.rng b).lo - m2)), (min 1000 ((gR w0.rng b).hi + m2))⟩).length k1, .int .i64 w0.room, .int .i64 w0.steps]; rw [hlen]; exact p14), hsl, B6⟩, exFrame (by kernel_rfl)⟩⟩)
    · go_wp2_with fail
      refine ⟨inFx (Fr.refl (fun j => j = g) V5).drew, ?_⟩
      repeat (refine tq_quiet rfl ?_; go_big_quiet_step (fail); refine wpQuiet_nil ?_)
      refine tq_fork rfl rfl ?_ ?_
      · go_wp2_with fail
        refine ⟨inFx (Fr.refl (fun j => j = g) V5).drew, ?_⟩
        repeat (refine tq_quiet rfl ?_; go_big_quiet_step (fail); refine wpQuiet_nil ?_)
        refine tq_fork rfl rfl ?_ ?_
        · go_wp2_with fail
          refine ⟨inFx (Fr.refl (fun j => j = g) V5).drew, ?_⟩
          repeat (refine tq_quiet rfl ?_; go_big_quiet_step (fail); refine wpQuiet_nil ?_)
          refine tq_fork rfl rfl ?_ ?_
          · go_wp2_with fail
            refine ⟨inFx (Fr.refl (fun j => j = g) V5).drew, ?_⟩
            repeat (refine tq_quiet rfl ?_; go_big_quiet_step (fail); refine wpQuiet_nil ?_)
            refine tq_loud rfl ?_
            go_wp2_with fail
            refine ⟨inFx ((Fr.refl (fun j => j = g) V5).drew.andSet rfl), ?_⟩
            repeat (refine tq_quiet rfl ?_; go_big_quiet_step (fail); refine wpQuiet_nil ?_)
            refine tq_done (r := [_]) rfl ?_
            go_wp2_with fail
            have o5 := rgs_set (l := w0.rng) (k := b) (show V5.drew.ownsRow V2.heap.size 46 2 (.slice (some ⟨g, 0, none⟩) w0.rng.length k1) w0.rng.length (w0.rng.flatMap cR) from o3) (show (Value.slice (some ⟨g, 0, none⟩) w0.rng.length k1).ownBlock = some g from rfl) lb ⟨(max 0 ((gR w0.rng b).lo - m2)), (min 1000 ((gR w0.rng b).hi + m2))⟩
            have p14 := (p13.drew.far (p := ⟨g, b * 2, none⟩) hgn' (.int .i64 (max 0 ((gR w0.rng b).lo - m2)))).far (p := ⟨g, b * 2 + 1, none⟩) hgn' (.int .i64 (min 1000 ((gR w0.rng b).hi + m2)))
            have p04 := (p03.drew.far (p := ⟨g, b * 2, none⟩) hgw (.int .i64 (max 0 ((gR w0.rng b).lo - m2)))).far (p := ⟨g, b * 2 + 1, none⟩) hgw (.int .i64 (min 1000 ((gR w0.rng b).hi + m2)))
            have B6 := ex_set (ex_set B5.drew (p := ⟨g, b * 2, none⟩) hg0 (.int .i64 (max 0 ((gR w0.rng b).lo - m2)))) (p := ⟨g, b * 2 + 1, none⟩) hg0 (.int .i64 (min 1000 ((gR w0.rng b).hi + m2)))
            obtain ⟨A9, c9, hv9, _, _, hsl⟩ := own_R o5
            rw [List.length_set] at hv9
            injection hv9 with hv91 _ hv92
            subst hv91 hv92
            have hlen : (w0.rng.set b ⟨(max 0 ((gR w0.rng b).lo - m2)), (min 1000 ((gR w0.rng b).hi + m2))⟩).length = w0.rng.length := List.length_set
            refine Met.intro (hJ _ _ ⟨⟨⟨⟨w0.rng.set b ⟨(max 0 ((gR w0.rng b).lo - m2)), (min 1000 ((gR w0.rng b).hi + m2))⟩, w0.room, w0.steps⟩, (some ⟨g, 0, none⟩), k1, Lib.hid (wider_rng HOK.out lb hm2.1), p04, (by show Blk _ p9 60 #[.slice (some ⟨g, 0, none⟩) (w0.rng.set b ⟨(max 0 ((gR w0.rng b).lo - m2)), (min 1000 ((gR w0.rng b).hi + m2))⟩).length k1, .int .i64 w0.room, .int .i64 w0.steps]; rw [hlen]; exact p14), hsl, B6⟩, exFrame (by kernel_rfl)⟩⟩)
          · go_wp2_with fail
            refine ⟨inFx ((Fr.refl (fun j => j = g) V5).drew.andSet rfl), ?_⟩
            repeat (refine tq_quiet rfl ?_; go_big_quiet_step (fail); refine wpQuiet_nil ?_)
            refine tq_loud rfl ?_
            go_wp2_with fail
            refine ⟨inFx ((Fr.refl (fun j => j = g) V5).drew.andSet rfl), ?_⟩
            repeat (refine tq_quiet rfl ?_; go_big_quiet_step (fail); refine wpQuiet_nil ?_)
            refine tq_done (r := [_]) rfl ?_
            go_wp2_with fail
            have o5 := rgs_set (l := w0.rng) (k := b) (show V5.drew.ownsRow V2.heap.size 46 2 (.slice (some ⟨g, 0, none⟩) w0.rng.length k1) w0.rng.length (w0.rng.flatMap cR) from o3) (show (Value.slice (some ⟨g, 0, none⟩) w0.rng.length k1).ownBlock = some g from rfl) lb ⟨(max 0 ((gR w0.rng b).lo - m2)), (min 1000 ((gR w0.rng b).hi + m2))⟩
            have p14 := (p13.drew.far (p := ⟨g, b * 2, none⟩) hgn' (.int .i64 (max 0 ((gR w0.rng b).lo - m2)))).far (p := ⟨g, b * 2 + 1, none⟩) hgn' (.int .i64 (min 1000 ((gR w0.rng b).hi + m2)))
            have p04 := (p03.drew.far (p := ⟨g, b * 2, none⟩) hgw (.int .i64 (max 0 ((gR w0.rng b).lo - m2)))).far (p := ⟨g, b * 2 + 1, none⟩) hgw (.int .i64 (min 1000 ((gR w0.rng b).hi + m2)))
            have B6 := ex_set (ex_set B5.drew (p := ⟨g, b * 2, none⟩) hg0 (.int .i64 (max 0 ((gR w0.rng b).lo - m2)))) (p := ⟨g, b * 2 + 1, none⟩) hg0 (.int .i64 (min 1000 ((gR w0.rng b).hi + m2)))
            obtain ⟨A9, c9, hv9, _, _, hsl⟩ := own_R o5
            rw [List.length_set] at hv9
            injection hv9 with hv91 _ hv92
            subst hv91 hv92
            have hlen : (w0.rng.set b ⟨(max 0 ((gR w0.rng b).lo - m2)), (min 1000 ((gR w0.rng b).hi + m2))⟩).length = w0.rng.length := List.length_set
            refine Met.intro (hJ _ _ ⟨⟨⟨⟨w0.rng.set b ⟨(max 0 ((gR w0.rng b).lo - m2)), (min 1000 ((gR w0.rng b).hi + m2))⟩, w0.room, w0.steps⟩, (some ⟨g, 0, none⟩), k1, Lib.hid (wider_rng HOK.out lb hm2.1), p04, (by show Blk _ p9 60 #[.slice (some ⟨g, 0, none⟩) (w0.rng.set b ⟨(max 0 ((gR w0.rng b).lo - m2)), (min 1000 ((gR w0.rng b).hi + m2))⟩).length k1, .int .i64 w0.room, .int .i64 w0.steps]; rw [hlen]; exact p14), hsl, B6⟩, exFrame (by kernel_rfl)⟩⟩)
        · go_wp2_with fail
          refine ⟨inFx (Fr.refl (fun j => j = g) V5).drew, ?_⟩
          repeat (refine tq_quiet rfl ?_; go_big_quiet_step (fail); refine wpQuiet_nil ?_)
          refine tq_loud rfl ?_
          go_wp2_with fail
          refine ⟨inFx (Fr.refl (fun j => j = g) V5).drew, ?_⟩
          repeat (refine tq_quiet rfl ?_; go_big_quiet_step (fail); refine wpQuiet_nil ?_)
          refine tq_loud rfl ?_
          go_wp2_with fail
          refine ⟨inFx ((Fr.refl (fun j => j = g) V5).drew.andSet rfl), ?_⟩
          repeat (refine tq_quiet rfl ?_; go_big_quiet_step (fail); refine wpQuiet_nil ?_)
          refine tq_done (r := [_]) rfl ?_
          go_wp2_with fail
          have o5 := rgs_set (l := w0.rng) (k := b) (show V5.drew.ownsRow V2.heap.size 46 2 (.slice (some ⟨g, 0, none⟩) w0.rng.length k1) w0.rng.length (w0.rng.flatMap cR) from o3) (show (Value.slice (some ⟨g, 0, none⟩) w0.rng.length k1).ownBlock = some g from rfl) lb ⟨(max 0 ((gR w0.rng b).lo - m2)), (min 1000 ((gR w0.rng b).hi + m2))⟩
          have p14 := (p13.drew.far (p := ⟨g, b * 2, none⟩) hgn' (.int .i64 (max 0 ((gR w0.rng b).lo - m2)))).far (p := ⟨g, b * 2 + 1, none⟩) hgn' (.int .i64 (min 1000 ((gR w0.rng b).hi + m2)))
          have p04 := (p03.drew.far (p := ⟨g, b * 2, none⟩) hgw (.int .i64 (max 0 ((gR w0.rng b).lo - m2)))).far (p := ⟨g, b * 2 + 1, none⟩) hgw (.int .i64 (min 1000 ((gR w0.rng b).hi + m2)))
          have B6 := ex_set (ex_set B5.drew (p := ⟨g, b * 2, none⟩) hg0 (.int .i64 (max 0 ((gR w0.rng b).lo - m2)))) (p := ⟨g, b * 2 + 1, none⟩) hg0 (.int .i64 (min 1000 ((gR w0.rng b).hi + m2)))
          obtain ⟨A9, c9, hv9, _, _, hsl⟩ := own_R o5
          rw [List.length_set] at hv9
          injection hv9 with hv91 _ hv92
          subst hv91 hv92
          have hlen : (w0.rng.set b ⟨(max 0 ((gR w0.rng b).lo - m2)), (min 1000 ((gR w0.rng b).hi + m2))⟩).length = w0.rng.length := List.length_set
          refine Met.intro (hJ _ _ ⟨⟨⟨⟨w0.rng.set b ⟨(max 0 ((gR w0.rng b).lo - m2)), (min 1000 ((gR w0.rng b).hi + m2))⟩, w0.room, w0.steps⟩, (some ⟨g, 0, none⟩), k1, Lib.hid (wider_rng HOK.out lb hm2.1), p04, (by show Blk _ p9 60 #[.slice (some ⟨g, 0, none⟩) (w0.rng.set b ⟨(max 0 ((gR w0.rng b).lo - m2)), (min 1000 ((gR w0.rng b).hi + m2))⟩).length k1, .int .i64 w0.room, .int .i64 w0.steps]; rw [hlen]; exact p14), hsl, B6⟩, exFrame (by kernel_rfl)⟩⟩)
      · go_wp2_with fail
        refine ⟨inFx (Fr.refl (fun j => j = g) V5).drew, ?_⟩
        repeat (refine tq_quiet rfl ?_; go_big_quiet_step (fail); refine wpQuiet_nil ?_)
        refine tq_loud rfl ?_
        go_wp2_with fail
        refine ⟨inFx (Fr.refl (fun j => j = g) V5).drew, ?_⟩
        repeat (refine tq_quiet rfl ?_; go_big_quiet_step (fail); refine wpQuiet_nil ?_)
        refine tq_loud rfl ?_
        go_wp2_with fail
        refine ⟨inFx (Fr.refl (fun j => j = g) V5).drew, ?_⟩
        repeat (refine tq_quiet rfl ?_; go_big_quiet_step (fail); refine wpQuiet_nil ?_)
        refine tq_loud rfl ?_
        go_wp2_with fail
        refine ⟨inFx ((Fr.refl (fun j => j = g) V5).drew.andSet rfl), ?_⟩
        repeat (refine tq_quiet rfl ?_; go_big_quiet_step (fail); refine wpQuiet_nil ?_)
        refine tq_done (r := [_]) rfl ?_
        go_wp2_with fail
        have o5 := rgs_set (l := w0.rng) (k := b) (show V5.drew.ownsRow V2.heap.size 46 2 (.slice (some ⟨g, 0, none⟩) w0.rng.length k1) w0.rng.length (w0.rng.flatMap cR) from o3) (show (Value.slice (some ⟨g, 0, none⟩) w0.rng.length k1).ownBlock = some g from rfl) lb ⟨(max 0 ((gR w0.rng b).lo - m2)), (min 1000 ((gR w0.rng b).hi + m2))⟩
        have p14 := (p13.drew.far (p := ⟨g, b * 2, none⟩) hgn' (.int .i64 (max 0 ((gR w0.rng b).lo - m2)))).far (p := ⟨g, b * 2 + 1, none⟩) hgn' (.int .i64 (min 1000 ((gR w0.rng b).hi + m2)))
        have p04 := (p03.drew.far (p := ⟨g, b * 2, none⟩) hgw (.int .i64 (max 0 ((gR w0.rng b).lo - m2)))).far (p := ⟨g, b * 2 + 1, none⟩) hgw (.int .i64 (min 1000 ((gR w0.rng b).hi + m2)))
        have B6 := ex_set (ex_set B5.drew (p := ⟨g, b * 2, none⟩) hg0 (.int .i64 (max 0 ((gR w0.rng b).lo - m2)))) (p := ⟨g, b * 2 + 1, none⟩) hg0 (.int .i64 (min 1000 ((gR w0.rng b).hi + m2)))
        obtain ⟨A9, c9, hv9, _, _, hsl⟩ := own_R o5
        rw [List.length_set] at hv9
        injection hv9 with hv91 _ hv92
        subst hv91 hv92
        have hlen : (w0.rng.set b ⟨(max 0 ((gR w0.rng b).lo - m2)), (min 1000 ((gR w0.rng b).hi + m2))⟩).length = w0.rng.length := List.length_set
        refine Met.intro (hJ _ _ ⟨⟨⟨⟨w0.rng.set b ⟨(max 0 ((gR w0.rng b).lo - m2)), (min 1000 ((gR w0.rng b).hi + m2))⟩, w0.room, w0.steps⟩, (some ⟨g, 0, none⟩), k1, Lib.hid (wider_rng HOK.out lb hm2.1), p04, (by show Blk _ p9 60 #[.slice (some ⟨g, 0, none⟩) (w0.rng.set b ⟨(max 0 ((gR w0.rng b).lo - m2)), (min 1000 ((gR w0.rng b).hi + m2))⟩).length k1, .int .i64 w0.room, .int .i64 w0.steps]; rw [hlen]; exact p14), hsl, B6⟩, exFrame (by kernel_rfl)⟩⟩)
  rintro a' W9 ⟨⟨x, Ax, cx, HX, r0, r9, hrx, B9⟩, u, rfl⟩
  clear q0 q9 B_V2 HS hv v
  have q0 := r0
  have q9 := r9
  clear r0 r9
  have hnx := HX.out.1.n
  have a0 : W9.cell? ⟨w.heap.size, 0, none⟩ = some (.slice Ar w0.rng.length cr) := q0.cell 0
  have a1 : W9.cell? ⟨w.heap.size, 1, none⟩ = some (.int .i64 w0.room) := q0.cell 1
  have a2 : W9.cell? ⟨w.heap.size, 2, none⟩ = some (.int .i64 w0.steps) := q0.cell 2
  have l0 := q0.lt
  have b0 : W9.cell? ⟨p9, 0, none⟩ = some (.slice Ax x.rng.length cx) := q9.cell 0
  have b1 : W9.cell? ⟨p9, 1, none⟩ = some (.int .i64 x.room) := q9.cell 1
  have b2 : W9.cell? ⟨p9, 2, none⟩ = some (.int .i64 x.steps) := q9.cell 2
  have l9 := q9.lt
  go_wp2_with fail
  refine (Works_law w0 Ar cr W9 ((hr.below B9).up B9.size) (by omega)).mono ?_
  rintro e X1 ⟨⟨A1, c1, rfl, s1⟩, hX1⟩
  replace q0 := q0.below hX1 q0.lt
  replace q9 := q9.below hX1 q9.lt
  replace hrx := (hrx.below hX1).up hX1.size
  have B_X1 := ex_trans B9 hX1
  clear a0 a1 a2 l0 b0 b1 b2 l9
  have a0 : X1.cell? ⟨w.heap.size, 0, none⟩ = some (.slice Ar w0.rng.length cr) := q0.cell 0
  have a1 : X1.cell? ⟨w.heap.size, 1, none⟩ = some (.int .i64 w0.room) := q0.cell 1
  have a2 : X1.cell? ⟨w.heap.size, 2, none⟩ = some (.int .i64 w0.steps) := q0.cell 2
  have l0 := q0.lt
  have b0 : X1.cell? ⟨p9, 0, none⟩ = some (.slice Ax x.rng.length cx) := q9.cell 0
  have b1 : X1.cell? ⟨p9, 1, none⟩ = some (.int .i64 x.room) := q9.cell 1
  have b2 : X1.cell? ⟨p9, 2, none⟩ = some (.int .i64 x.steps) := q9.cell 2
  have l9 := q9.lt
  go_wp2_with fail
  refine (Plan_any w0 A1 c1 X1 s1 (by omega)).mono ?_
  rintro e X2 ⟨⟨Aq, r, cq, rAq, rcq, ev, rfl, HPV, hr6, hpr⟩, hX2⟩
  replace q0 := q0.below hX2 q0.lt
  replace q9 := q9.below hX2 q9.lt
  replace hrx := (hrx.below hX2).up hX2.size
  replace s1 := (s1.below hX2).up hX2.size
  have B_X2 := ex_trans B_X1 hX2
  clear a0 a1 a2 l0 b0 b1 b2 l9
  have a0 : X2.cell? ⟨w.heap.size, 0, none⟩ = some (.slice Ar w0.rng.length cr) := q0.cell 0
  have a1 : X2.cell? ⟨w.heap.size, 1, none⟩ = some (.int .i64 w0.room) := q0.cell 1
  have a2 : X2.cell? ⟨w.heap.size, 2, none⟩ = some (.int .i64 w0.steps) := q0.cell 2
  have l0 := q0.lt
  have b0 : X2.cell? ⟨p9, 0, none⟩ = some (.slice Ax x.rng.length cx) := q9.cell 0
  have b1 : X2.cell? ⟨p9, 1, none⟩ = some (.int .i64 x.room) := q9.cell 1
  have b2 : X2.cell? ⟨p9, 2, none⟩ = some (.int .i64 x.steps) := q9.cell 2
  have l9 := q9.lt
  clear s1
  go_wp2_with fail
  refine (Works_law x Ax cx X2 hrx (by omega)).mono ?_
  rintro e X3 ⟨⟨A2, c2, rfl, s2⟩, hX3⟩
  replace q0 := q0.below hX3 q0.lt
  replace q9 := q9.below hX3 q9.lt
  replace hrx := (hrx.below hX3).up hX3.size
  replace hpr := hpr.below hX3
  have B_X3 := ex_trans B_X2 hX3
  clear a0 a1 a2 l0 b0 b1 b2 l9
  have a0 : X3.cell? ⟨w.heap.size, 0, none⟩ = some (.slice Ar w0.rng.length cr) := q0.cell 0
  have a1 : X3.cell? ⟨w.heap.size, 1, none⟩ = some (.int .i64 w0.room) := q0.cell 1
  have a2 : X3.cell? ⟨w.heap.size, 2, none⟩ = some (.int .i64 w0.steps) := q0.cell 2
  have l0 := q0.lt
  have b0 : X3.cell? ⟨p9, 0, none⟩ = some (.slice Ax x.rng.length cx) := q9.cell 0
  have b1 : X3.cell? ⟨p9, 1, none⟩ = some (.int .i64 x.room) := q9.cell 1
  have b2 : X3.cell? ⟨p9, 2, none⟩ = some (.int .i64 x.steps) := q9.cell 2
  have l9 := q9.lt
  go_wp2_with fail
  refine (Plan_any x A2 c2 X3 s2 (by omega)).mono ?_
  rintro e X4 ⟨⟨Aq2, r2, cq2, rAq2, rcq2, ev2, rfl, HPV2, hr62, hpr2⟩, hX4⟩
  replace q0 := q0.below hX4 q0.lt
  replace q9 := q9.below hX4 q9.lt
  replace hrx := (hrx.below hX4).up hX4.size
  replace hpr := hpr.below hX4
  replace s2 := (s2.below hX4).up hX4.size
  have B_X4 := ex_trans B_X3 hX4
  clear a0 a1 a2 l0 b0 b1 b2 l9
  have a0 : X4.cell? ⟨w.heap.size, 0, none⟩ = some (.slice Ar w0.rng.length cr) := q0.cell 0
  have a1 : X4.cell? ⟨w.heap.size, 1, none⟩ = some (.int .i64 w0.room) := q0.cell 1
  have a2 : X4.cell? ⟨w.heap.size, 2, none⟩ = some (.int .i64 w0.steps) := q0.cell 2
  have l0 := q0.lt
  have b0 : X4.cell? ⟨p9, 0, none⟩ = some (.slice Ax x.rng.length cx) := q9.cell 0
  have b1 : X4.cell? ⟨p9, 1, none⟩ = some (.int .i64 x.room) := q9.cell 1
  have b2 : X4.cell? ⟨p9, 2, none⟩ = some (.int .i64 x.steps) := q9.cell 2
  have l9 := q9.lt
  clear s2 hpr2
  go_wp2_with fail
  refine (Works_law w0 Ar cr X4 ((hr.below B_X4).up B_X4.size) (by omega)).mono ?_
  rintro e X5 ⟨⟨A3, c3, rfl, s3⟩, hX5⟩
  replace q0 := q0.below hX5 q0.lt
  replace q9 := q9.below hX5 q9.lt
  replace hrx := (hrx.below hX5).up hX5.size
  replace hpr := hpr.below hX5
  have B_X5 := ex_trans B_X4 hX5
  clear a0 a1 a2 l0 b0 b1 b2 l9
  have a0 : X5.cell? ⟨w.heap.size, 0, none⟩ = some (.slice Ar w0.rng.length cr) := q0.cell 0
  have a1 : X5.cell? ⟨w.heap.size, 1, none⟩ = some (.int .i64 w0.room) := q0.cell 1
  have a2 : X5.cell? ⟨w.heap.size, 2, none⟩ = some (.int .i64 w0.steps) := q0.cell 2
  have l0 := q0.lt
  have b0 : X5.cell? ⟨p9, 0, none⟩ = some (.slice Ax x.rng.length cx) := q9.cell 0
  have b1 : X5.cell? ⟨p9, 1, none⟩ = some (.int .i64 x.room) := q9.cell 1
  have b2 : X5.cell? ⟨p9, 2, none⟩ = some (.int .i64 x.steps) := q9.cell 2
  have l9 := q9.lt
  go_wp2_with fail
  refine (planTo_law p Ap cp rA rc X5 (hp.below B_X5) HSM.out (by omega)).mono ?_
  rintro e X6 ⟨⟨Ap2, cp2, rA2, rc2, rfl, hp2⟩, hX6⟩
  replace q0 := q0.below hX6 q0.lt
  replace q9 := q9.below hX6 q9.lt
  replace hrx := (hrx.below hX6).up hX6.size
  replace hpr := hpr.below hX6
  replace s3 := (s3.below hX6).up hX6.size
  have B_X6 := ex_trans B_X5 hX6
  clear a0 a1 a2 l0 b0 b1 b2 l9
  have a0 : X6.cell? ⟨w.heap.size, 0, none⟩ = some (.slice Ar w0.rng.length cr) := q0.cell 0
  have a1 : X6.cell? ⟨w.heap.size, 1, none⟩ = some (.int .i64 w0.room) := q0.cell 1
  have a2 : X6.cell? ⟨w.heap.size, 2, none⟩ = some (.int .i64 w0.steps) := q0.cell 2
  have l0 := q0.lt
  have b0 : X6.cell? ⟨p9, 0, none⟩ = some (.slice Ax x.rng.length cx) := q9.cell 0
  have b1 : X6.cell? ⟨p9, 1, none⟩ = some (.int .i64 x.room) := q9.cell 1
  have b2 : X6.cell? ⟨p9, 2, none⟩ = some (.int .i64 x.steps) := q9.cell 2
  have l9 := q9.lt
  go_wp2_with fail
  refine (provePlan_any w0 A3 c3 p Ap2 cp2 rA2 rc2 X6 s3 (by omega) hp2 HSM.out 99).mono ?_
  rintro e X7 ⟨isb, rfl, HIS, hX7⟩
  clear s3 hp2
  replace q0 := q0.below hX7 q0.lt
  replace q9 := q9.below hX7 q9.lt
  replace hrx := (hrx.below hX7).up hX7.size
  replace hpr := hpr.below hX7
  have B_X7 := ex_trans B_X6 hX7
  clear a0 a1 a2 l0 b0 b1 b2 l9
  have a0 : X7.cell? ⟨w.heap.size, 0, none⟩ = some (.slice Ar w0.rng.length cr) := q0.cell 0
  have a1 : X7.cell? ⟨w.heap.size, 1, none⟩ = some (.int .i64 w0.room) := q0.cell 1
  have a2 : X7.cell? ⟨w.heap.size, 2, none⟩ = some (.int .i64 w0.steps) := q0.cell 2
  have l0 := q0.lt
  have b0 : X7.cell? ⟨p9, 0, none⟩ = some (.slice Ax x.rng.length cx) := q9.cell 0
  have b1 : X7.cell? ⟨p9, 1, none⟩ = some (.int .i64 x.room) := q9.cell 1
  have b2 : X7.cell? ⟨p9, 2, none⟩ = some (.int .i64 x.steps) := q9.cell 2
  have l9 := q9.lt
  obtain ⟨hp1, hp2⟩ : Hid (ev = 0 ∧ MinPl w0 r ∨ ev = 9 ∧ isb = false) ∧ Hid (ev = 0 → ev2 = 0 ∧ r2.length ≤ r.length) := few_parts HOK.out HX.out HPV.out HPV2.out HIS.out
  have HE2 := few_err HX.out.1 HPV2.out
  clear HPV2
  rcases hp1.out with ⟨rfl, hmin⟩ | ⟨rfl, rfl⟩
  rotate_left
  · clear hp1 hp2 HPV HIS
    rcases HE2.out with rfl | rfl
    · go_wp2_with fail
      refine (wakes_any _).mono ?_
      rintro e Wz ⟨rfl, hz⟩
      go_wp2
      go_ret
      exact ⟨rfl, ex_trans B_X7 hz⟩
    · go_wp2_with fail
      refine (wakes_any _).mono ?_
      rintro e Wz ⟨rfl, hz⟩
      go_wp2
      go_ret
      exact ⟨rfl, ex_trans B_X7 hz⟩
  have HMIN := Lib.hid hmin
  obtain ⟨rfl, hle2⟩ := hp2.out rfl
  have HIS2 : Hid (isb = true → (r.length : Int) ≤ (p.length : Int)) := Lib.hid (few_is hmin HIS.out)
  clear hp1 hp2 HPV HIS HE2 hmin
  have hsr : SmPl r := HMIN.out.small HOK.out hr6
  have HSR := Lib.hid hsr
  clear hsr
  have HPB : Hid (planB w0 r = true) := Lib.hid (planB_iff.2 HMIN.out.right.dips)
  have kr : IntKind.i64.wrap ((r.length : Int) - 1) = (r.length : Int) - 1 := IntWalk.i64_in _ (by omega)
  have hle3 : (r2.length : Int) ≤ (r.length : Int) := by omega
  clear hle2
  cases isb
  · clear HIS2
    go_wp2_with fail
    refine wp_region_ext_mix 47 [(false, 0), (false, 1), (true, 2), (true, 3), (false, 4), (false, 5), (false, 7), (false, 8), (false, 9), (true, 6), (true, 10), (false, 11), (false, 12), (false, 13), (false, 15), (false, 16), (false, 17), (false, 18), (true, 14), (true, 19), (false, 20), (false, 21), (false, 22), (false, 23), (false, 24), (false, 25), (false, 26), (false, 27), (false, 28), (false, 29), (false, 30), (false, 31), (false, 32), (false, 33), (false, 34), (false, 35), (false, 36), (false, 37), (false, 38), (false, 39), (false, 40), (false, 41), (false, 42), (false, 43), (false, 44), (true, 45), (false, 46)] (by kernel_rfl) (by kernel_rfl) (by intro d _ _ _ _ h; cases d <;> exact h) ?_
    have X_D := (Below.refl X7.heap.size X7).drew
    have qd := q0.below X_D q0.lt
    have hpd := hpr.below X_D
    have BD := ex_trans B_X7 X_D
    clear b0 b1 b2 l9
    repeat (refine mix_quiet rfl ?_; go_big_quiet_step (fail); refine wpQuiet_nil ?_)
    refine mix_loud rfl ?_
    go_wp2_with fail
    refine (planBack_law r Aq cq rAq rcq X7.drew hpd HSR.out (by omega)).mono ?_
    rintro e Z1 ⟨⟨Ab, cb, rAb, rcb, rfl, hpb⟩, hZ1⟩
    replace qd := qd.below hZ1 qd.lt
    replace hpd := hpd.below hZ1
    have X_Z1 := ex_trans X_D hZ1
    have B_Z1 := ex_trans B_X7 X_Z1
    go_wp2_with fail
    refine ⟨inEx X_Z1, ?_⟩
    repeat (refine mix_quiet rfl ?_; go_big_quiet_step (fail); refine wpQuiet_nil ?_)
    refine mix_loud rfl ?_
    go_wp2_with fail
    refine (isPlan_any w0 Ar cr r Ab cb rAb rcb Z1 ((hr.below B_Z1).up B_Z1.size) (by omega) hpb HSR.out).mono ?_
    rintro e Z2 ⟨rfl, hZ2⟩
    replace qd := qd.below hZ2 qd.lt
    replace hpd := hpd.below hZ2
    replace hpb := hpb.below hZ2
    have X_Z2 := ex_trans X_Z1 hZ2
    have B_Z2 := ex_trans B_X7 X_Z2
    rw [HPB.out]
    go_wp2_with fail
    refine ⟨inEx X_Z2, ?_⟩
    repeat (refine mix_quiet rfl ?_; go_big_quiet_step (fail); refine wpQuiet_nil ?_)
    refine mix_loud rfl ?_
    go_wp2_with fail
    refine (Works_law w0 Ar cr Z2 ((hr.below B_Z2).up B_Z2.size) (by omega)).mono ?_
    rintro e Z3 ⟨⟨A4, c4, rfl, s4⟩, hZ3⟩
    replace qd := qd.below hZ3 qd.lt
    replace hpd := hpd.below hZ3
    replace hpb := hpb.below hZ3
    have X_Z3 := ex_trans X_Z2 hZ3
    have B_Z3 := ex_trans B_X7 X_Z3
    go_wp2_with fail
    refine ⟨inEx X_Z3, ?_⟩
    repeat (refine mix_quiet rfl ?_; go_big_quiet_step (fail); refine wpQuiet_nil ?_)
    refine mix_loud rfl ?_
    go_wp2_with fail
    refine (provePlan_any w0 A4 c4 r Aq cq rAq rcq Z3 s4 (by omega) hpd HSR.out (r.length : Int)).mono ?_
    rintro e Z4 ⟨t4, rfl, ht, hZ4⟩
    obtain rfl : t4 = true := prove_len HOK.out HMIN.out ht.out
    clear ht
    replace qd := qd.below hZ4 qd.lt
    replace hpd := hpd.below hZ4
    replace hpb := hpb.below hZ4
    replace s4 := (s4.below hZ4).up hZ4.size
    have X_Z4 := ex_trans X_Z3 hZ4
    have B_Z4 := ex_trans B_X7 X_Z4
    go_wp2_with fail
    refine ⟨inEx X_Z4, ?_⟩
    repeat (refine mix_quiet rfl ?_; go_big_quiet_step (fail); refine wpQuiet_nil ?_)
    refine mix_loud rfl ?_
    go_wp2_with fail
    refine (Works_law w0 Ar cr Z4 ((hr.below B_Z4).up B_Z4.size) (by omega)).mono ?_
    rintro e Z5 ⟨⟨A5, c5, rfl, s5⟩, hZ5⟩
    replace qd := qd.below hZ5 qd.lt
    replace hpd := hpd.below hZ5
    replace hpb := hpb.below hZ5
    replace s4 := (s4.below hZ5).up hZ5.size
    have X_Z5 := ex_trans X_Z4 hZ5
    have B_Z5 := ex_trans B_X7 X_Z5
    go_wp2_with fail
    refine ⟨inEx X_Z5, ?_⟩
    repeat (refine mix_quiet rfl ?_; go_big_quiet_step (fail); refine wpQuiet_nil ?_)
    refine mix_loud rfl ?_
    go_wp2_with fail
    refine (provePlan_any w0 A5 c5 r Aq cq rAq rcq Z5 s5 (by omega) hpd HSR.out ((r.length : Int) - 1)).mono ?_
    rintro e Z6 ⟨t6, rfl, ht, hZ6⟩
    obtain rfl : t6 = false := prove_less ht.out
    clear ht
    replace qd := qd.below hZ6 qd.lt
    replace hpd := hpd.below hZ6
    replace hpb := hpb.below hZ6
    replace s4 := (s4.below hZ6).up hZ6.size
    replace s5 := (s5.below hZ6).up hZ6.size
    have X_Z6 := ex_trans X_Z5 hZ6
    have B_Z6 := ex_trans B_X7 X_Z6
    go_wp2_with fail
    refine ⟨inEx X_Z6, ?_⟩
    repeat (refine mix_quiet rfl ?_; go_big_quiet_step (fail); refine wpQuiet_nil ?_)
    refine mix_loud rfl ?_
    go_wp2_with fail
    refine (wakes_any _).mono ?_
    rintro e Z7 ⟨rfl, hZ7⟩
    replace qd := qd.below hZ7 qd.lt
    replace hpd := hpd.below hZ7
    replace hpb := hpb.below hZ7
    replace s4 := (s4.below hZ7).up hZ7.size
    replace s5 := (s5.below hZ7).up hZ7.size
    have X_Z7 := ex_trans X_Z6 hZ7
    have B_Z7 := ex_trans B_X7 X_Z7
    go_wp2_with fail
    refine ⟨inEx X_Z7, ?_⟩
    repeat (refine mix_quiet rfl ?_; go_big_quiet_step (fail); refine wpQuiet_nil ?_)
    refine mix_nil rfl ?_
    go_wp2
    go_ret
    exact ⟨rfl, B_Z7⟩
  · have hge := HIS2.out rfl
    clear HIS2
    go_wp2_with fail
    refine wp_region_ext_mix 47 [(false, 0), (false, 1), (true, 2), (true, 3), (false, 4), (false, 5), (false, 7), (false, 8), (false, 9), (true, 6), (true, 10), (false, 11), (false, 12), (false, 13), (false, 15), (false, 16), (false, 17), (false, 18), (true, 14), (true, 19), (false, 20), (false, 21), (false, 22), (false, 23), (false, 24), (false, 25), (false, 26), (false, 27), (false, 28), (false, 29), (false, 30), (false, 31), (false, 32), (false, 33), (false, 34), (false, 35), (false, 36), (false, 37), (false, 38), (false, 39), (false, 40), (false, 41), (false, 42), (false, 43), (false, 44), (true, 45), (false, 46)] (by kernel_rfl) (by kernel_rfl) (by intro d _ _ _ _ h; cases d <;> exact h) ?_
    have X_D := (Below.refl X7.heap.size X7).drew
    have qd := q0.below X_D q0.lt
    have hpd := hpr.below X_D
    have BD := ex_trans B_X7 X_D
    clear b0 b1 b2 l9
    repeat (refine mix_quiet rfl ?_; go_big_quiet_step (fail); refine wpQuiet_nil ?_)
    refine mix_loud rfl ?_
    go_wp2_with fail
    refine (planBack_law r Aq cq rAq rcq X7.drew hpd HSR.out (by omega)).mono ?_
    rintro e Z1 ⟨⟨Ab, cb, rAb, rcb, rfl, hpb⟩, hZ1⟩
    replace qd := qd.below hZ1 qd.lt
    replace hpd := hpd.below hZ1
    have X_Z1 := ex_trans X_D hZ1
    have B_Z1 := ex_trans B_X7 X_Z1
    go_wp2_with fail
    refine ⟨inEx X_Z1, ?_⟩
    repeat (refine mix_quiet rfl ?_; go_big_quiet_step (fail); refine wpQuiet_nil ?_)
    refine mix_loud rfl ?_
    go_wp2_with fail
    refine (isPlan_any w0 Ar cr r Ab cb rAb rcb Z1 ((hr.below B_Z1).up B_Z1.size) (by omega) hpb HSR.out).mono ?_
    rintro e Z2 ⟨rfl, hZ2⟩
    replace qd := qd.below hZ2 qd.lt
    replace hpd := hpd.below hZ2
    replace hpb := hpb.below hZ2
    have X_Z2 := ex_trans X_Z1 hZ2
    have B_Z2 := ex_trans B_X7 X_Z2
    rw [HPB.out]
    go_wp2_with fail
    refine ⟨inEx X_Z2, ?_⟩
    repeat (refine mix_quiet rfl ?_; go_big_quiet_step (fail); refine wpQuiet_nil ?_)
    refine mix_loud rfl ?_
    go_wp2_with fail
    refine (Works_law w0 Ar cr Z2 ((hr.below B_Z2).up B_Z2.size) (by omega)).mono ?_
    rintro e Z3 ⟨⟨A4, c4, rfl, s4⟩, hZ3⟩
    replace qd := qd.below hZ3 qd.lt
    replace hpd := hpd.below hZ3
    replace hpb := hpb.below hZ3
    have X_Z3 := ex_trans X_Z2 hZ3
    have B_Z3 := ex_trans B_X7 X_Z3
    go_wp2_with fail
    refine ⟨inEx X_Z3, ?_⟩
    repeat (refine mix_quiet rfl ?_; go_big_quiet_step (fail); refine wpQuiet_nil ?_)
    refine mix_loud rfl ?_
    go_wp2_with fail
    refine (provePlan_any w0 A4 c4 r Aq cq rAq rcq Z3 s4 (by omega) hpd HSR.out (r.length : Int)).mono ?_
    rintro e Z4 ⟨t4, rfl, ht, hZ4⟩
    obtain rfl : t4 = true := prove_len HOK.out HMIN.out ht.out
    clear ht
    replace qd := qd.below hZ4 qd.lt
    replace hpd := hpd.below hZ4
    replace hpb := hpb.below hZ4
    replace s4 := (s4.below hZ4).up hZ4.size
    have X_Z4 := ex_trans X_Z3 hZ4
    have B_Z4 := ex_trans B_X7 X_Z4
    go_wp2_with fail
    refine ⟨inEx X_Z4, ?_⟩
    repeat (refine mix_quiet rfl ?_; go_big_quiet_step (fail); refine wpQuiet_nil ?_)
    refine mix_loud rfl ?_
    go_wp2_with fail
    refine (Works_law w0 Ar cr Z4 ((hr.below B_Z4).up B_Z4.size) (by omega)).mono ?_
    rintro e Z5 ⟨⟨A5, c5, rfl, s5⟩, hZ5⟩
    replace qd := qd.below hZ5 qd.lt
    replace hpd := hpd.below hZ5
    replace hpb := hpb.below hZ5
    replace s4 := (s4.below hZ5).up hZ5.size
    have X_Z5 := ex_trans X_Z4 hZ5
    have B_Z5 := ex_trans B_X7 X_Z5
    go_wp2_with fail
    refine ⟨inEx X_Z5, ?_⟩
    repeat (refine mix_quiet rfl ?_; go_big_quiet_step (fail); refine wpQuiet_nil ?_)
    refine mix_loud rfl ?_
    go_wp2_with fail
    refine (provePlan_any w0 A5 c5 r Aq cq rAq rcq Z5 s5 (by omega) hpd HSR.out ((r.length : Int) - 1)).mono ?_
    rintro e Z6 ⟨t6, rfl, ht, hZ6⟩
    obtain rfl : t6 = false := prove_less ht.out
    clear ht
    replace qd := qd.below hZ6 qd.lt
    replace hpd := hpd.below hZ6
    replace hpb := hpb.below hZ6
    replace s4 := (s4.below hZ6).up hZ6.size
    replace s5 := (s5.below hZ6).up hZ6.size
    have X_Z6 := ex_trans X_Z5 hZ6
    have B_Z6 := ex_trans B_X7 X_Z6
    go_wp2_with fail
    refine ⟨inEx X_Z6, ?_⟩
    repeat (refine mix_quiet rfl ?_; go_big_quiet_step (fail); refine wpQuiet_nil ?_)
    refine mix_loud rfl ?_
    go_wp2_with fail
    refine (wakes_any _).mono ?_
    rintro e Z7 ⟨rfl, hZ7⟩
    replace qd := qd.below hZ7 qd.lt
    replace hpd := hpd.below hZ7
    replace hpb := hpb.below hZ7
    replace s4 := (s4.below hZ7).up hZ7.size
    replace s5 := (s5.below hZ7).up hZ7.size
    have X_Z7 := ex_trans X_Z6 hZ7
    have B_Z7 := ex_trans B_X7 X_Z7
    go_wp2_with fail
    refine ⟨inEx X_Z7, ?_⟩
    repeat (refine mix_quiet rfl ?_; go_big_quiet_step (fail); refine wpQuiet_nil ?_)
    refine mix_nil rfl ?_
    go_wp2
    go_ret
    exact ⟨rfl, B_Z7⟩
end Go.Proofs.Ytnplefhigbkbbaa
end
