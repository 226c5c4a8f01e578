/- Bath's laws: BathAround (walk). -/
import Derived.Test.YtnplefhigbkbbaaM16
set_option linter.unusedVariables false
set_option linter.unusedSimpArgs false
set_option linter.unusedSectionVars false
section
namespace Go.Proofs.Ytnplefhigbkbbaa
open Go.RowKit
attribute [local go_sem] Ex.cell? Ex.frozen?

theorem diff_bd {x : Se} (hok : SeOk x) {i j : Nat} (hi : i < x.offs.length) (hj : j < x.offs.length) {lo hh : Int} (h : EndsOf (DiffZ x i j) lo hh) : -200 ≤ lo ∧ lo ≤ 200 ∧ -200 ≤ hh ∧ hh ≤ 200 := by
  obtain ⟨⟨o1, h1, t1, e1⟩, ⟨o2, h2, t2, e2⟩, _⟩ := h
  have a1 := t1.offs i hi
  have a2 := t1.offs j hj
  have a3 := t2.offs i hi
  have a4 := t2.offs j hj
  have b1 := hok.offs i hi
  have b2 := hok.offs j hj
  omega
theorem diff_neg {x : Se} {i j : Nat} {lo hh : Int} (h : EndsOf (DiffZ x i j) lo hh) : EndsOf (DiffZ x j i) (-hh) (-lo) := by
  obtain ⟨⟨o1, h1, t1, e1⟩, ⟨o2, h2, t2, e2⟩, h3⟩ := h
  refine ⟨⟨o2, h2, t2, by omega⟩, ⟨o1, h1, t1, by omega⟩, ?_⟩
  rintro z ⟨o, h, t, e⟩
  have := h3 _ ⟨o, h, t, rfl⟩
  omega
theorem diff_self {x : Se} (hc : Can x) {i : Nat} : EndsOf (DiffZ x i i) 0 0 := by
  obtain ⟨o, h, t⟩ := hc
  refine ⟨⟨o, h, t, by omega⟩, ⟨o, h, t, by omega⟩, ?_⟩
  rintro z ⟨o', h', t', e⟩
  omega
theorem diff_around {x : Se} {i j k : Nat} {la ha lb hb lc hc : Int} (h1 : EndsOf (DiffZ x i j) la ha) (h2 : EndsOf (DiffZ x j k) lb hb) (h3 : EndsOf (DiffZ x i k) lc hc) : la + lb ≤ lc ∧ hc ≤ ha + hb := by
  obtain ⟨⟨o1, k1, t1, e1⟩, ⟨o2, k2, t2, e2⟩, _⟩ := h3
  have a1 := h1.2.2 _ ⟨o1, k1, t1, rfl⟩
  have a2 := h2.2.2 _ ⟨o1, k1, t1, rfl⟩
  have a3 := h1.2.2 _ ⟨o2, k2, t2, rfl⟩
  have a4 := h2.2.2 _ ⟨o2, k2, t2, rfl⟩
  omega

set_option maxRecDepth 100000 in
set_option maxHeartbeats 25600000 in
theorem AroundLaw_any (s : Se) (Ao Ab : Option Addr) (co cb : Nat) (rA : Nat → Option Addr) (rc : Nat → Nat) (w : World) (hs : SeIn w w.heap.size s Ao Ab rA rc) (hol : s.offs.length ≤ maxLen) (hbl : s.baths.length ≤ maxLen) (Aw : Option Addr) (cw : Nat) (ws : List Int) (hws : SlAt w w.heap.size 1 Aw ws.length (fU ws)) (hwl : ws.length ≤ maxLen) (hwv : ∀ k, k < ws.length → 0 ≤ gI ws k ∧ gI ws k ≤ 65535) (f1 f2 f3 : Int) (h8a : 0 ≤ f1 ∧ f1 ≤ 255) (h8b : 0 ≤ f2 ∧ f2 ≤ 255) (h8c : 0 ≤ f3 ∧ f3 ≤ 255) :
    Calls Try.prog 9 #[.agg #[.slice Ao s.offs.length co, .int .i64 s.err, .slice Ab s.baths.length cb], .slice Aw ws.length cw, .int .u8 f1, .int .u8 f2, .int .u8 f3] w fun e w' => e = .returned (.bool true) ∧ Below w.heap.size w w' := by
  have B_V := ex_alloc (Below.refl w.heap.size w) (.cells #[.slice Ao s.offs.length co, .int .i64 s.err, .slice Ab s.baths.length cb] 25)
  have q0 : Blk (w.alloc (.cells #[.slice Ao s.offs.length co, .int .i64 s.err, .slice Ab s.baths.length cb] 25)) w.heap.size 25 #[.slice Ao s.offs.length co, .int .i64 s.err, .slice Ab s.baths.length cb] := Blk.new _ _ _
  have hm : maxLen = 9223372036854775807 := rfl
  go_enter Try.func9, Try.ntmps9
  go_wp2_with fail
  generalize w.alloc (.cells #[.slice Ao s.offs.length co, .int .i64 s.err, .slice Ab s.baths.length cb] 25) = V at *
  have q0_0 : V.cell? ⟨w.heap.size, 0, none⟩ = some (.slice Ao s.offs.length co) := q0.cell 0
  have q0_1 : V.cell? ⟨w.heap.size, 1, none⟩ = some (.int .i64 s.err) := q0.cell 1
  have q0_2 : V.cell? ⟨w.heap.size, 2, none⟩ = some (.slice Ab s.baths.length cb) := q0.cell 2
  have q0_l := q0.lt
  refine (ready_law s Ao Ab co cb rA rc V ((hs.below B_V).up B_V.size) hol hbl).mono ?_
  rintro e W1 ⟨⟨x, rfl, hx⟩, hW1⟩
  replace q0 := q0.below hW1 q0.lt
  have B_W1 := ex_trans B_V hW1
  clear q0_0 q0_1 q0_2 q0_l
  have q0_0 : W1.cell? ⟨w.heap.size, 0, none⟩ = some (.slice Ao s.offs.length co) := q0.cell 0
  have q0_1 : W1.cell? ⟨w.heap.size, 1, none⟩ = some (.int .i64 s.err) := q0.cell 1
  have q0_2 : W1.cell? ⟨w.heap.size, 2, none⟩ = some (.slice Ab s.baths.length cb) := q0.cell 2
  have q0_l := q0.lt
  cases x
  · go_wp2_with fail
    refine (wakes_any _).mono ?_
    rintro e Wz ⟨rfl, hz⟩
    go_wp2
    go_ret
    exact ⟨rfl, ex_trans B_W1 hz⟩
  have HT := Lib.hid (hx.out rfl).1
  have HOK := Lib.hid (hx.out rfl).2
  clear hx
  have hno := HT.out.no
  have hnb := HT.out.nb
  go_wp2_with fail
  refine (Read_v s Ao Ab co cb rA rc W1 ((hs.below B_W1).up B_W1.size) HT.out HOK.out Aw cw ws ((hws.below B_W1).up B_W1.size) hwl hwv).mono ?_
  rintro e W2 ⟨⟨A1, c1, A2, c2, Abx, cbx, rAx, rcx, o, h, x, HRV, rfl, so, sh, hsx⟩, hW2⟩
  replace q0 := q0.below hW2 q0.lt
  have B_W2 := ex_trans B_W1 hW2
  clear q0_0 q0_1 q0_2 q0_l
  have q0_0 : W2.cell? ⟨w.heap.size, 0, none⟩ = some (.slice Ao s.offs.length co) := q0.cell 0
  have q0_1 : W2.cell? ⟨w.heap.size, 1, none⟩ = some (.int .i64 s.err) := q0.cell 1
  have q0_2 : W2.cell? ⟨w.heap.size, 2, none⟩ = some (.slice Ab s.baths.length cb) := q0.cell 2
  have q0_l := q0.lt
  have HTX : Hid (Thn x) := Lib.hid (HRV.out.thn HT.out)
  have HOX : Hid (SeOk x) := Lib.hid HRV.out.ok
  have HCX : Hid (Can x) := Lib.hid HRV.out.can
  have hnox := HTX.out.no
  have hnbx := HTX.out.nb
  go_wp2_with fail
  have HQ0 := q0.lt
  have N_W3 := ex_alloc (Below.refl W2.heap.size W2) (.cells #[.slice Ao x.offs.length co, .int .i64 x.err, .slice Abx x.baths.length cbx] 25)
  have qx : Blk (W2.alloc (.cells #[.slice Ao x.offs.length co, .int .i64 x.err, .slice Abx x.baths.length cbx] 25)) W2.heap.size 25 #[.slice Ao x.offs.length co, .int .i64 x.err, .slice Abx x.baths.length cbx] := Blk.new _ _ _
  replace q0 := q0.below N_W3 q0.lt
  replace so := (so.below N_W3).up N_W3.size
  replace sh := (sh.below N_W3).up N_W3.size
  replace hsx := hsx.go N_W3
  have B_W3 := ex_trans B_W2 N_W3
  clear N_W3
  generalize W2.alloc (.cells #[.slice Ao x.offs.length co, .int .i64 x.err, .slice Abx x.baths.length cbx] 25) = W3 at *
  obtain ⟨px, hpx⟩ : ∃ px, W2.heap.size = px := ⟨_, rfl⟩
  have hpx0 : w.heap.size < px := by have := B_W2.size; omega
  rw [hpx] at qx ⊢
  clear hpx HQ0
  clear q0_0 q0_1 q0_2 q0_l
  have q0_0 : W3.cell? ⟨w.heap.size, 0, none⟩ = some (.slice Ao s.offs.length co) := q0.cell 0
  have q0_1 : W3.cell? ⟨w.heap.size, 1, none⟩ = some (.int .i64 s.err) := q0.cell 1
  have q0_2 : W3.cell? ⟨w.heap.size, 2, none⟩ = some (.slice Ab s.baths.length cb) := q0.cell 2
  have q0_l := q0.lt
  have qx_0 : W3.cell? ⟨px, 0, none⟩ = some (.slice Ao x.offs.length co) := qx.cell 0
  have qx_1 : W3.cell? ⟨px, 1, none⟩ = some (.int .i64 x.err) := qx.cell 1
  have qx_2 : W3.cell? ⟨px, 2, none⟩ = some (.slice Abx x.baths.length cbx) := qx.cell 2
  have qx_l := qx.lt
  have hf1 : 0 ≤ f1 ∧ f1 ≤ 255 := h8a
  have hf2 : 0 ≤ f2 ∧ f2 ≤ 255 := h8b
  have hf3 : 0 ≤ f3 ∧ f3 ≤ 255 := h8c
  have hno1 := HOK.out.no.1
  obtain ⟨i, ei⟩ : ∃ n : Nat, f1.tmod (s.offs.length : Int) = (n : Int) := ⟨(f1.tmod (s.offs.length : Int)).toNat, by rw [Int.toNat_of_nonneg (Int.tmod_nonneg _ (by omega))]⟩
  have li : i < s.offs.length := by have := Int.tmod_lt_of_pos f1 (b := (s.offs.length : Int)) (by omega); omega
  have ti : IntKind.i64.wrap (f1.tmod (s.offs.length : Int)) = (i : Int) := by rw [ei]; exact IntWalk.i64_in _ (by omega)
  obtain ⟨j, ej⟩ : ∃ n : Nat, f2.tmod (s.offs.length : Int) = (n : Int) := ⟨(f2.tmod (s.offs.length : Int)).toNat, by rw [Int.toNat_of_nonneg (Int.tmod_nonneg _ (by omega))]⟩
  have lj : j < s.offs.length := by have := Int.tmod_lt_of_pos f2 (b := (s.offs.length : Int)) (by omega); omega
  have tj : IntKind.i64.wrap (f2.tmod (s.offs.length : Int)) = (j : Int) := by rw [ej]; exact IntWalk.i64_in _ (by omega)
  obtain ⟨m, em⟩ : ∃ n : Nat, f3.tmod (s.offs.length : Int) = (n : Int) := ⟨(f3.tmod (s.offs.length : Int)).toNat, by rw [Int.toNat_of_nonneg (Int.tmod_nonneg _ (by omega))]⟩
  have lm : m < s.offs.length := by have := Int.tmod_lt_of_pos f3 (b := (s.offs.length : Int)) (by omega); omega
  have tm : IntKind.i64.wrap (f3.tmod (s.offs.length : Int)) = (m : Int) := by rw [em]; exact IntWalk.i64_in _ (by omega)
  have nz : ¬ (s.offs.length : Int) = 0 := by omega
  have nz2 : ((s.offs.length : Int) == 0) = false := by rw [beq_eq_false_iff_ne]; exact nz
  have HLX : Hid (∀ n : Nat, n < s.offs.length → n < x.offs.length) := Lib.hid (fun n h => by rw [HRV.out.offs]; exact h)
  have HIX : Hid (∀ n : Nat, n < s.offs.length → 0 ≤ (n : Int) ∧ (n : Int) ≤ (x.offs.length : Int) - 1) := Lib.hid (fun n h => by have := HLX.out n h; omega)
  go_wp2_with fail
  refine wp_region_ext_mix 14 [(false, 0), (false, 1), (false, 2), (false, 3), (false, 4), (false, 5), (false, 6), (false, 7), (false, 8), (false, 9), (false, 10), (false, 11), (false, 12), (false, 13)] (by kernel_rfl) (by kernel_rfl) (by intro d _ _ _ _ h; cases d <;> exact h) ?_
  repeat (refine mix_quiet rfl ?_; go_big_quiet_step (fail); refine wpQuiet_nil ?_)
  refine mix_nil rfl ?_
  go_wp2_with fail
  clear ei ej em ti tj tm nz nz2
  have D3 := (Below.refl W3.heap.size W3).drew
  replace q0 := q0.below D3 q0.lt
  replace so := (so.below D3).up D3.size
  replace sh := (sh.below D3).up D3.size
  replace hsx := hsx.go D3
  replace qx := qx.below D3 qx.lt
  have B_W4 := ex_trans B_W3 D3
  generalize W3.drew = W4 at *
  clear q0_0 q0_1 q0_2 q0_l qx_0 qx_1 qx_2 qx_l
  have q0_0 : W4.cell? ⟨w.heap.size, 0, none⟩ = some (.slice Ao s.offs.length co) := q0.cell 0
  have q0_1 : W4.cell? ⟨w.heap.size, 1, none⟩ = some (.int .i64 s.err) := q0.cell 1
  have q0_2 : W4.cell? ⟨w.heap.size, 2, none⟩ = some (.slice Ab s.baths.length cb) := q0.cell 2
  have q0_l := q0.lt
  have qx_0 : W4.cell? ⟨px, 0, none⟩ = some (.slice Ao x.offs.length co) := qx.cell 0
  have qx_1 : W4.cell? ⟨px, 1, none⟩ = some (.int .i64 x.err) := qx.cell 1
  have qx_2 : W4.cell? ⟨px, 2, none⟩ = some (.slice Abx x.baths.length cbx) := qx.cell 2
  have qx_l := qx.lt
  go_wp2_with fail
  refine (Series_law x Ao Abx co cbx rAx rcx W4 hsx HTX.out).mono ?_
  rintro e U1a ⟨⟨Aoa, Aba, coa, cba, rAa, rca, rfl, hsa⟩, hU1a⟩
  replace q0 := q0.below hU1a q0.lt
  replace so := (so.below hU1a).up hU1a.size
  replace sh := (sh.below hU1a).up hU1a.size
  replace hsx := hsx.go hU1a
  replace qx := qx.below hU1a qx.lt
  have B_U1a := ex_trans B_W4 hU1a
  clear q0_0 q0_1 q0_2 q0_l qx_0 qx_1 qx_2 qx_l
  have q0_0 : U1a.cell? ⟨w.heap.size, 0, none⟩ = some (.slice Ao s.offs.length co) := q0.cell 0
  have q0_1 : U1a.cell? ⟨w.heap.size, 1, none⟩ = some (.int .i64 s.err) := q0.cell 1
  have q0_2 : U1a.cell? ⟨w.heap.size, 2, none⟩ = some (.slice Ab s.baths.length cb) := q0.cell 2
  have q0_l := q0.lt
  have qx_0 : U1a.cell? ⟨px, 0, none⟩ = some (.slice Ao x.offs.length co) := qx.cell 0
  have qx_1 : U1a.cell? ⟨px, 1, none⟩ = some (.int .i64 x.err) := qx.cell 1
  have qx_2 : U1a.cell? ⟨px, 2, none⟩ = some (.slice Abx x.baths.length cbx) := qx.cell 2
  have qx_l := qx.lt
  go_wp2_with fail
  refine (Diff_any x Aoa Aba coa cba rAa rca U1a hsa HTX.out.sm (i : Int) (j : Int)).mono ?_
  rintro e U1b ⟨⟨loa, hia, eva, rfl, hd⟩, hU1b⟩
  replace q0 := q0.below hU1b q0.lt
  replace so := (so.below hU1b).up hU1b.size
  replace sh := (sh.below hU1b).up hU1b.size
  replace hsx := hsx.go hU1b
  replace qx := qx.below hU1b qx.lt
  replace hsa := hsa.go hU1b
  have B_U1b := ex_trans B_U1a hU1b
  clear q0_0 q0_1 q0_2 q0_l qx_0 qx_1 qx_2 qx_l
  have q0_0 : U1b.cell? ⟨w.heap.size, 0, none⟩ = some (.slice Ao s.offs.length co) := q0.cell 0
  have q0_1 : U1b.cell? ⟨w.heap.size, 1, none⟩ = some (.int .i64 s.err) := q0.cell 1
  have q0_2 : U1b.cell? ⟨w.heap.size, 2, none⟩ = some (.slice Ab s.baths.length cb) := q0.cell 2
  have q0_l := q0.lt
  have qx_0 : U1b.cell? ⟨px, 0, none⟩ = some (.slice Ao x.offs.length co) := qx.cell 0
  have qx_1 : U1b.cell? ⟨px, 1, none⟩ = some (.int .i64 x.err) := qx.cell 1
  have qx_2 : U1b.cell? ⟨px, 2, none⟩ = some (.slice Abx x.baths.length cbx) := qx.cell 2
  have qx_l := qx.lt
  clear hsa
  obtain ⟨rfl, he⟩ := diff_ok HOX.out HCX.out hd.out (HIX.out _ li) (HIX.out _ lj)
  simp only [Int.toNat_natCast] at he
  clear hd
  have hbda := diff_bd HOX.out (HLX.out _ li) (HLX.out _ lj) he
  have HEa := Lib.hid he
  clear he
  go_wp2_with fail
  clear q0_0 q0_1 q0_2 q0_l qx_0 qx_1 qx_2 qx_l
  have B0 := B_U1b.size
  have N_U1c := ex_alloc (Below.refl U1b.heap.size U1b) (.cells #[.int .i64 (loa), .int .i64 (hia)] 41)
  have qa : Blk (U1b.alloc (.cells #[.int .i64 (loa), .int .i64 (hia)] 41)) U1b.heap.size 41 #[.int .i64 (loa), .int .i64 (hia)] := Blk.new _ _ _
  replace q0 := q0.below N_U1c q0.lt
  replace so := (so.below N_U1c).up N_U1c.size
  replace sh := (sh.below N_U1c).up N_U1c.size
  replace hsx := hsx.go N_U1c
  replace qx := qx.below N_U1c qx.lt
  have B_U1c := ex_trans B_U1b N_U1c
  clear N_U1c
  generalize U1b.alloc (.cells #[.int .i64 (loa), .int .i64 (hia)] 41) = U1c at *
  obtain ⟨pa, hpa⟩ : ∃ p, U1b.heap.size = p := ⟨_, rfl⟩
  have hpa0 : w.heap.size ≤ pa := by omega
  rw [hpa] at qa ⊢
  clear hpa B0
  have q0_0 : U1c.cell? ⟨w.heap.size, 0, none⟩ = some (.slice Ao s.offs.length co) := q0.cell 0
  have q0_1 : U1c.cell? ⟨w.heap.size, 1, none⟩ = some (.int .i64 s.err) := q0.cell 1
  have q0_2 : U1c.cell? ⟨w.heap.size, 2, none⟩ = some (.slice Ab s.baths.length cb) := q0.cell 2
  have q0_l := q0.lt
  have qx_0 : U1c.cell? ⟨px, 0, none⟩ = some (.slice Ao x.offs.length co) := qx.cell 0
  have qx_1 : U1c.cell? ⟨px, 1, none⟩ = some (.int .i64 x.err) := qx.cell 1
  have qx_2 : U1c.cell? ⟨px, 2, none⟩ = some (.slice Abx x.baths.length cbx) := qx.cell 2
  have qx_l := qx.lt
  have qa_0 : U1c.cell? ⟨pa, 0, none⟩ = some (.int .i64 (loa)) := qa.cell 0
  have qa_1 : U1c.cell? ⟨pa, 1, none⟩ = some (.int .i64 (hia)) := qa.cell 1
  have qa_l := qa.lt
  go_wp2_with fail
  refine (Series_law x Ao Abx co cbx rAx rcx U1c hsx HTX.out).mono ?_
  rintro e U2a ⟨⟨Aob, Abb, cob, cbb, rAb, rcb, rfl, hsb⟩, hU2a⟩
  replace q0 := q0.below hU2a q0.lt
  replace so := (so.below hU2a).up hU2a.size
  replace sh := (sh.below hU2a).up hU2a.size
  replace hsx := hsx.go hU2a
  replace qx := qx.below hU2a qx.lt
  replace qa := qa.below hU2a qa.lt
  have B_U2a := ex_trans B_U1c hU2a
  clear q0_0 q0_1 q0_2 q0_l qx_0 qx_1 qx_2 qx_l qa_0 qa_1 qa_l
  have q0_0 : U2a.cell? ⟨w.heap.size, 0, none⟩ = some (.slice Ao s.offs.length co) := q0.cell 0
  have q0_1 : U2a.cell? ⟨w.heap.size, 1, none⟩ = some (.int .i64 s.err) := q0.cell 1
  have q0_2 : U2a.cell? ⟨w.heap.size, 2, none⟩ = some (.slice Ab s.baths.length cb) := q0.cell 2
  have q0_l := q0.lt
  have qx_0 : U2a.cell? ⟨px, 0, none⟩ = some (.slice Ao x.offs.length co) := qx.cell 0
  have qx_1 : U2a.cell? ⟨px, 1, none⟩ = some (.int .i64 x.err) := qx.cell 1
  have qx_2 : U2a.cell? ⟨px, 2, none⟩ = some (.slice Abx x.baths.length cbx) := qx.cell 2
  have qx_l := qx.lt
  have qa_0 : U2a.cell? ⟨pa, 0, none⟩ = some (.int .i64 (loa)) := qa.cell 0
  have qa_1 : U2a.cell? ⟨pa, 1, none⟩ = some (.int .i64 (hia)) := qa.cell 1
  have qa_l := qa.lt
  go_wp2_with fail
  refine (Diff_any x Aob Abb cob cbb rAb rcb U2a hsb HTX.out.sm (j : Int) (m : Int)).mono ?_
  rintro e U2b ⟨⟨lob, hib, evb, rfl, hd⟩, hU2b⟩
  replace q0 := q0.below hU2b q0.lt
  replace so := (so.below hU2b).up hU2b.size
  replace sh := (sh.below hU2b).up hU2b.size
  replace hsx := hsx.go hU2b
  replace qx := qx.below hU2b qx.lt
  replace qa := qa.below hU2b qa.lt
  replace hsb := hsb.go hU2b
  have B_U2b := ex_trans B_U2a hU2b
  clear q0_0 q0_1 q0_2 q0_l qx_0 qx_1 qx_2 qx_l qa_0 qa_1 qa_l
  have q0_0 : U2b.cell? ⟨w.heap.size, 0, none⟩ = some (.slice Ao s.offs.length co) := q0.cell 0
  have q0_1 : U2b.cell? ⟨w.heap.size, 1, none⟩ = some (.int .i64 s.err) := q0.cell 1
  have q0_2 : U2b.cell? ⟨w.heap.size, 2, none⟩ = some (.slice Ab s.baths.length cb) := q0.cell 2
  have q0_l := q0.lt
  have qx_0 : U2b.cell? ⟨px, 0, none⟩ = some (.slice Ao x.offs.length co) := qx.cell 0
  have qx_1 : U2b.cell? ⟨px, 1, none⟩ = some (.int .i64 x.err) := qx.cell 1
  have qx_2 : U2b.cell? ⟨px, 2, none⟩ = some (.slice Abx x.baths.length cbx) := qx.cell 2
  have qx_l := qx.lt
  have qa_0 : U2b.cell? ⟨pa, 0, none⟩ = some (.int .i64 (loa)) := qa.cell 0
  have qa_1 : U2b.cell? ⟨pa, 1, none⟩ = some (.int .i64 (hia)) := qa.cell 1
  have qa_l := qa.lt
  clear hsb
  obtain ⟨rfl, he⟩ := diff_ok HOX.out HCX.out hd.out (HIX.out _ lj) (HIX.out _ lm)
  simp only [Int.toNat_natCast] at he
  clear hd
  have hbdb := diff_bd HOX.out (HLX.out _ lj) (HLX.out _ lm) he
  have HEb := Lib.hid he
  clear he
  go_wp2_with fail
  clear q0_0 q0_1 q0_2 q0_l qx_0 qx_1 qx_2 qx_l qa_0 qa_1 qa_l
  have B0 := B_U2b.size
  have N_U2c := ex_alloc (Below.refl U2b.heap.size U2b) (.cells #[.int .i64 (lob), .int .i64 (hib)] 41)
  have qb : Blk (U2b.alloc (.cells #[.int .i64 (lob), .int .i64 (hib)] 41)) U2b.heap.size 41 #[.int .i64 (lob), .int .i64 (hib)] := Blk.new _ _ _
  replace q0 := q0.below N_U2c q0.lt
  replace so := (so.below N_U2c).up N_U2c.size
  replace sh := (sh.below N_U2c).up N_U2c.size
  replace hsx := hsx.go N_U2c
  replace qx := qx.below N_U2c qx.lt
  replace qa := qa.below N_U2c qa.lt
  have B_U2c := ex_trans B_U2b N_U2c
  clear N_U2c
  generalize U2b.alloc (.cells #[.int .i64 (lob), .int .i64 (hib)] 41) = U2c at *
  obtain ⟨pb, hpb⟩ : ∃ p, U2b.heap.size = p := ⟨_, rfl⟩
  have hpb0 : w.heap.size ≤ pb := by omega
  rw [hpb] at qb ⊢
  clear hpb B0
  have q0_0 : U2c.cell? ⟨w.heap.size, 0, none⟩ = some (.slice Ao s.offs.length co) := q0.cell 0
  have q0_1 : U2c.cell? ⟨w.heap.size, 1, none⟩ = some (.int .i64 s.err) := q0.cell 1
  have q0_2 : U2c.cell? ⟨w.heap.size, 2, none⟩ = some (.slice Ab s.baths.length cb) := q0.cell 2
  have q0_l := q0.lt
  have qx_0 : U2c.cell? ⟨px, 0, none⟩ = some (.slice Ao x.offs.length co) := qx.cell 0
  have qx_1 : U2c.cell? ⟨px, 1, none⟩ = some (.int .i64 x.err) := qx.cell 1
  have qx_2 : U2c.cell? ⟨px, 2, none⟩ = some (.slice Abx x.baths.length cbx) := qx.cell 2
  have qx_l := qx.lt
  have qa_0 : U2c.cell? ⟨pa, 0, none⟩ = some (.int .i64 (loa)) := qa.cell 0
  have qa_1 : U2c.cell? ⟨pa, 1, none⟩ = some (.int .i64 (hia)) := qa.cell 1
  have qa_l := qa.lt
  have qb_0 : U2c.cell? ⟨pb, 0, none⟩ = some (.int .i64 (lob)) := qb.cell 0
  have qb_1 : U2c.cell? ⟨pb, 1, none⟩ = some (.int .i64 (hib)) := qb.cell 1
  have qb_l := qb.lt
  go_wp2_with fail
  refine (Series_law x Ao Abx co cbx rAx rcx U2c hsx HTX.out).mono ?_
  rintro e U3a ⟨⟨Aoc, Abc, coc, cbc, rAc, rcc, rfl, hsc⟩, hU3a⟩
  replace q0 := q0.below hU3a q0.lt
  replace so := (so.below hU3a).up hU3a.size
  replace sh := (sh.below hU3a).up hU3a.size
  replace hsx := hsx.go hU3a
  replace qx := qx.below hU3a qx.lt
  replace qa := qa.below hU3a qa.lt
  replace qb := qb.below hU3a qb.lt
  have B_U3a := ex_trans B_U2c hU3a
  clear q0_0 q0_1 q0_2 q0_l qx_0 qx_1 qx_2 qx_l qa_0 qa_1 qa_l qb_0 qb_1 qb_l
  have q0_0 : U3a.cell? ⟨w.heap.size, 0, none⟩ = some (.slice Ao s.offs.length co) := q0.cell 0
  have q0_1 : U3a.cell? ⟨w.heap.size, 1, none⟩ = some (.int .i64 s.err) := q0.cell 1
  have q0_2 : U3a.cell? ⟨w.heap.size, 2, none⟩ = some (.slice Ab s.baths.length cb) := q0.cell 2
  have q0_l := q0.lt
  have qx_0 : U3a.cell? ⟨px, 0, none⟩ = some (.slice Ao x.offs.length co) := qx.cell 0
  have qx_1 : U3a.cell? ⟨px, 1, none⟩ = some (.int .i64 x.err) := qx.cell 1
  have qx_2 : U3a.cell? ⟨px, 2, none⟩ = some (.slice Abx x.baths.length cbx) := qx.cell 2
  have qx_l := qx.lt
  have qa_0 : U3a.cell? ⟨pa, 0, none⟩ = some (.int .i64 (loa)) := qa.cell 0
  have qa_1 : U3a.cell? ⟨pa, 1, none⟩ = some (.int .i64 (hia)) := qa.cell 1
  have qa_l := qa.lt
  have qb_0 : U3a.cell? ⟨pb, 0, none⟩ = some (.int .i64 (lob)) := qb.cell 0
  have qb_1 : U3a.cell? ⟨pb, 1, none⟩ = some (.int .i64 (hib)) := qb.cell 1
  have qb_l := qb.lt
  go_wp2_with fail
  refine (Diff_any x Aoc Abc coc cbc rAc rcc U3a hsc HTX.out.sm (i : Int) (m : Int)).mono ?_
  rintro e U3b ⟨⟨loc, hic, evc, rfl, hd⟩, hU3b⟩
  replace q0 := q0.below hU3b q0.lt
  replace so := (so.below hU3b).up hU3b.size
  replace sh := (sh.below hU3b).up hU3b.size
  replace hsx := hsx.go hU3b
  replace qx := qx.below hU3b qx.lt
  replace qa := qa.below hU3b qa.lt
  replace qb := qb.below hU3b qb.lt
  replace hsc := hsc.go hU3b
  have B_U3b := ex_trans B_U3a hU3b
  clear q0_0 q0_1 q0_2 q0_l qx_0 qx_1 qx_2 qx_l qa_0 qa_1 qa_l qb_0 qb_1 qb_l
  have q0_0 : U3b.cell? ⟨w.heap.size, 0, none⟩ = some (.slice Ao s.offs.length co) := q0.cell 0
  have q0_1 : U3b.cell? ⟨w.heap.size, 1, none⟩ = some (.int .i64 s.err) := q0.cell 1
  have q0_2 : U3b.cell? ⟨w.heap.size, 2, none⟩ = some (.slice Ab s.baths.length cb) := q0.cell 2
  have q0_l := q0.lt
  have qx_0 : U3b.cell? ⟨px, 0, none⟩ = some (.slice Ao x.offs.length co) := qx.cell 0
  have qx_1 : U3b.cell? ⟨px, 1, none⟩ = some (.int .i64 x.err) := qx.cell 1
  have qx_2 : U3b.cell? ⟨px, 2, none⟩ = some (.slice Abx x.baths.length cbx) := qx.cell 2
  have qx_l := qx.lt
  have qa_0 : U3b.cell? ⟨pa, 0, none⟩ = some (.int .i64 (loa)) := qa.cell 0
  have qa_1 : U3b.cell? ⟨pa, 1, none⟩ = some (.int .i64 (hia)) := qa.cell 1
  have qa_l := qa.lt
  have qb_0 : U3b.cell? ⟨pb, 0, none⟩ = some (.int .i64 (lob)) := qb.cell 0
  have qb_1 : U3b.cell? ⟨pb, 1, none⟩ = some (.int .i64 (hib)) := qb.cell 1
  have qb_l := qb.lt
  clear hsc
  obtain ⟨rfl, he⟩ := diff_ok HOX.out HCX.out hd.out (HIX.out _ li) (HIX.out _ lm)
  simp only [Int.toNat_natCast] at he
  clear hd
  have hbdc := diff_bd HOX.out (HLX.out _ li) (HLX.out _ lm) he
  have HEc := Lib.hid he
  clear he
  go_wp2_with fail
  clear q0_0 q0_1 q0_2 q0_l qx_0 qx_1 qx_2 qx_l qa_0 qa_1 qa_l qb_0 qb_1 qb_l
  have B0 := B_U3b.size
  have N_U3c := ex_alloc (Below.refl U3b.heap.size U3b) (.cells #[.int .i64 (loc), .int .i64 (hic)] 41)
  have qc : Blk (U3b.alloc (.cells #[.int .i64 (loc), .int .i64 (hic)] 41)) U3b.heap.size 41 #[.int .i64 (loc), .int .i64 (hic)] := Blk.new _ _ _
  replace q0 := q0.below N_U3c q0.lt
  replace so := (so.below N_U3c).up N_U3c.size
  replace sh := (sh.below N_U3c).up N_U3c.size
  replace hsx := hsx.go N_U3c
  replace qx := qx.below N_U3c qx.lt
  replace qa := qa.below N_U3c qa.lt
  replace qb := qb.below N_U3c qb.lt
  have B_U3c := ex_trans B_U3b N_U3c
  clear N_U3c
  generalize U3b.alloc (.cells #[.int .i64 (loc), .int .i64 (hic)] 41) = U3c at *
  obtain ⟨pc, hpc⟩ : ∃ p, U3b.heap.size = p := ⟨_, rfl⟩
  have hpc0 : w.heap.size ≤ pc := by omega
  rw [hpc] at qc ⊢
  clear hpc B0
  have q0_0 : U3c.cell? ⟨w.heap.size, 0, none⟩ = some (.slice Ao s.offs.length co) := q0.cell 0
  have q0_1 : U3c.cell? ⟨w.heap.size, 1, none⟩ = some (.int .i64 s.err) := q0.cell 1
  have q0_2 : U3c.cell? ⟨w.heap.size, 2, none⟩ = some (.slice Ab s.baths.length cb) := q0.cell 2
  have q0_l := q0.lt
  have qx_0 : U3c.cell? ⟨px, 0, none⟩ = some (.slice Ao x.offs.length co) := qx.cell 0
  have qx_1 : U3c.cell? ⟨px, 1, none⟩ = some (.int .i64 x.err) := qx.cell 1
  have qx_2 : U3c.cell? ⟨px, 2, none⟩ = some (.slice Abx x.baths.length cbx) := qx.cell 2
  have qx_l := qx.lt
  have qa_0 : U3c.cell? ⟨pa, 0, none⟩ = some (.int .i64 (loa)) := qa.cell 0
  have qa_1 : U3c.cell? ⟨pa, 1, none⟩ = some (.int .i64 (hia)) := qa.cell 1
  have qa_l := qa.lt
  have qb_0 : U3c.cell? ⟨pb, 0, none⟩ = some (.int .i64 (lob)) := qb.cell 0
  have qb_1 : U3c.cell? ⟨pb, 1, none⟩ = some (.int .i64 (hib)) := qb.cell 1
  have qb_l := qb.lt
  have qc_0 : U3c.cell? ⟨pc, 0, none⟩ = some (.int .i64 (loc)) := qc.cell 0
  have qc_1 : U3c.cell? ⟨pc, 1, none⟩ = some (.int .i64 (hic)) := qc.cell 1
  have qc_l := qc.lt
  go_wp2_with fail
  refine (Series_law x Ao Abx co cbx rAx rcx U3c hsx HTX.out).mono ?_
  rintro e U4a ⟨⟨Aod, Abd, cod, cbd, rAd, rcd, rfl, hsd⟩, hU4a⟩
  replace q0 := q0.below hU4a q0.lt
  replace so := (so.below hU4a).up hU4a.size
  replace sh := (sh.below hU4a).up hU4a.size
  replace hsx := hsx.go hU4a
  replace qx := qx.below hU4a qx.lt
  replace qa := qa.below hU4a qa.lt
  replace qb := qb.below hU4a qb.lt
  replace qc := qc.below hU4a qc.lt
  have B_U4a := ex_trans B_U3c hU4a
  clear q0_0 q0_1 q0_2 q0_l qx_0 qx_1 qx_2 qx_l qa_0 qa_1 qa_l qb_0 qb_1 qb_l qc_0 qc_1 qc_l
  have q0_0 : U4a.cell? ⟨w.heap.size, 0, none⟩ = some (.slice Ao s.offs.length co) := q0.cell 0
  have q0_1 : U4a.cell? ⟨w.heap.size, 1, none⟩ = some (.int .i64 s.err) := q0.cell 1
  have q0_2 : U4a.cell? ⟨w.heap.size, 2, none⟩ = some (.slice Ab s.baths.length cb) := q0.cell 2
  have q0_l := q0.lt
  have qx_0 : U4a.cell? ⟨px, 0, none⟩ = some (.slice Ao x.offs.length co) := qx.cell 0
  have qx_1 : U4a.cell? ⟨px, 1, none⟩ = some (.int .i64 x.err) := qx.cell 1
  have qx_2 : U4a.cell? ⟨px, 2, none⟩ = some (.slice Abx x.baths.length cbx) := qx.cell 2
  have qx_l := qx.lt
  have qa_0 : U4a.cell? ⟨pa, 0, none⟩ = some (.int .i64 (loa)) := qa.cell 0
  have qa_1 : U4a.cell? ⟨pa, 1, none⟩ = some (.int .i64 (hia)) := qa.cell 1
  have qa_l := qa.lt
  have qb_0 : U4a.cell? ⟨pb, 0, none⟩ = some (.int .i64 (lob)) := qb.cell 0
  have qb_1 : U4a.cell? ⟨pb, 1, none⟩ = some (.int .i64 (hib)) := qb.cell 1
  have qb_l := qb.lt
  have qc_0 : U4a.cell? ⟨pc, 0, none⟩ = some (.int .i64 (loc)) := qc.cell 0
  have qc_1 : U4a.cell? ⟨pc, 1, none⟩ = some (.int .i64 (hic)) := qc.cell 1
  have qc_l := qc.lt
  go_wp2_with fail
  refine (Diff_any x Aod Abd cod cbd rAd rcd U4a hsd HTX.out.sm (j : Int) (i : Int)).mono ?_
  rintro e U4b ⟨⟨lod, hid, evd, rfl, hd⟩, hU4b⟩
  replace q0 := q0.below hU4b q0.lt
  replace so := (so.below hU4b).up hU4b.size
  replace sh := (sh.below hU4b).up hU4b.size
  replace hsx := hsx.go hU4b
  replace qx := qx.below hU4b qx.lt
  replace qa := qa.below hU4b qa.lt
  replace qb := qb.below hU4b qb.lt
  replace qc := qc.below hU4b qc.lt
  replace hsd := hsd.go hU4b
  have B_U4b := ex_trans B_U4a hU4b
  clear q0_0 q0_1 q0_2 q0_l qx_0 qx_1 qx_2 qx_l qa_0 qa_1 qa_l qb_0 qb_1 qb_l qc_0 qc_1 qc_l
  have q0_0 : U4b.cell? ⟨w.heap.size, 0, none⟩ = some (.slice Ao s.offs.length co) := q0.cell 0
  have q0_1 : U4b.cell? ⟨w.heap.size, 1, none⟩ = some (.int .i64 s.err) := q0.cell 1
  have q0_2 : U4b.cell? ⟨w.heap.size, 2, none⟩ = some (.slice Ab s.baths.length cb) := q0.cell 2
  have q0_l := q0.lt
  have qx_0 : U4b.cell? ⟨px, 0, none⟩ = some (.slice Ao x.offs.length co) := qx.cell 0
  have qx_1 : U4b.cell? ⟨px, 1, none⟩ = some (.int .i64 x.err) := qx.cell 1
  have qx_2 : U4b.cell? ⟨px, 2, none⟩ = some (.slice Abx x.baths.length cbx) := qx.cell 2
  have qx_l := qx.lt
  have qa_0 : U4b.cell? ⟨pa, 0, none⟩ = some (.int .i64 (loa)) := qa.cell 0
  have qa_1 : U4b.cell? ⟨pa, 1, none⟩ = some (.int .i64 (hia)) := qa.cell 1
  have qa_l := qa.lt
  have qb_0 : U4b.cell? ⟨pb, 0, none⟩ = some (.int .i64 (lob)) := qb.cell 0
  have qb_1 : U4b.cell? ⟨pb, 1, none⟩ = some (.int .i64 (hib)) := qb.cell 1
  have qb_l := qb.lt
  have qc_0 : U4b.cell? ⟨pc, 0, none⟩ = some (.int .i64 (loc)) := qc.cell 0
  have qc_1 : U4b.cell? ⟨pc, 1, none⟩ = some (.int .i64 (hic)) := qc.cell 1
  have qc_l := qc.lt
  clear hsd
  obtain ⟨rfl, he⟩ := diff_ok HOX.out HCX.out hd.out (HIX.out _ lj) (HIX.out _ li)
  simp only [Int.toNat_natCast] at he
  clear hd
  have hbdd := diff_bd HOX.out (HLX.out _ lj) (HLX.out _ li) he
  obtain ⟨rfl, rfl⟩ := he.uniq (diff_neg HEa.out)
  have HEd := Lib.hid he
  clear he
  go_wp2_with fail
  clear q0_0 q0_1 q0_2 q0_l qx_0 qx_1 qx_2 qx_l qa_0 qa_1 qa_l qb_0 qb_1 qb_l qc_0 qc_1 qc_l
  have B0 := B_U4b.size
  have N_U4c := ex_alloc (Below.refl U4b.heap.size U4b) (.cells #[.int .i64 (-hia), .int .i64 (-loa)] 41)
  have qd : Blk (U4b.alloc (.cells #[.int .i64 (-hia), .int .i64 (-loa)] 41)) U4b.heap.size 41 #[.int .i64 (-hia), .int .i64 (-loa)] := Blk.new _ _ _
  replace q0 := q0.below N_U4c q0.lt
  replace so := (so.below N_U4c).up N_U4c.size
  replace sh := (sh.below N_U4c).up N_U4c.size
  replace hsx := hsx.go N_U4c
  replace qx := qx.below N_U4c qx.lt
  replace qa := qa.below N_U4c qa.lt
  replace qb := qb.below N_U4c qb.lt
  replace qc := qc.below N_U4c qc.lt
  have B_U4c := ex_trans B_U4b N_U4c
  clear N_U4c
  generalize U4b.alloc (.cells #[.int .i64 (-hia), .int .i64 (-loa)] 41) = U4c at *
  obtain ⟨pd, hpd⟩ : ∃ p, U4b.heap.size = p := ⟨_, rfl⟩
  have hpd0 : w.heap.size ≤ pd := by omega
  rw [hpd] at qd ⊢
  clear hpd B0
  have q0_0 : U4c.cell? ⟨w.heap.size, 0, none⟩ = some (.slice Ao s.offs.length co) := q0.cell 0
  have q0_1 : U4c.cell? ⟨w.heap.size, 1, none⟩ = some (.int .i64 s.err) := q0.cell 1
  have q0_2 : U4c.cell? ⟨w.heap.size, 2, none⟩ = some (.slice Ab s.baths.length cb) := q0.cell 2
  have q0_l := q0.lt
  have qx_0 : U4c.cell? ⟨px, 0, none⟩ = some (.slice Ao x.offs.length co) := qx.cell 0
  have qx_1 : U4c.cell? ⟨px, 1, none⟩ = some (.int .i64 x.err) := qx.cell 1
  have qx_2 : U4c.cell? ⟨px, 2, none⟩ = some (.slice Abx x.baths.length cbx) := qx.cell 2
  have qx_l := qx.lt
  have qa_0 : U4c.cell? ⟨pa, 0, none⟩ = some (.int .i64 (loa)) := qa.cell 0
  have qa_1 : U4c.cell? ⟨pa, 1, none⟩ = some (.int .i64 (hia)) := qa.cell 1
  have qa_l := qa.lt
  have qb_0 : U4c.cell? ⟨pb, 0, none⟩ = some (.int .i64 (lob)) := qb.cell 0
  have qb_1 : U4c.cell? ⟨pb, 1, none⟩ = some (.int .i64 (hib)) := qb.cell 1
  have qb_l := qb.lt
  have qc_0 : U4c.cell? ⟨pc, 0, none⟩ = some (.int .i64 (loc)) := qc.cell 0
  have qc_1 : U4c.cell? ⟨pc, 1, none⟩ = some (.int .i64 (hic)) := qc.cell 1
  have qc_l := qc.lt
  have qd_0 : U4c.cell? ⟨pd, 0, none⟩ = some (.int .i64 (-hia)) := qd.cell 0
  have qd_1 : U4c.cell? ⟨pd, 1, none⟩ = some (.int .i64 (-loa)) := qd.cell 1
  have qd_l := qd.lt
  go_wp2_with fail
  refine (Series_law x Ao Abx co cbx rAx rcx U4c hsx HTX.out).mono ?_
  rintro e U5a ⟨⟨Aoo, Abo, coo, cbo, rAo, rco, rfl, hso⟩, hU5a⟩
  replace q0 := q0.below hU5a q0.lt
  replace so := (so.below hU5a).up hU5a.size
  replace sh := (sh.below hU5a).up hU5a.size
  replace hsx := hsx.go hU5a
  replace qx := qx.below hU5a qx.lt
  replace qa := qa.below hU5a qa.lt
  replace qb := qb.below hU5a qb.lt
  replace qc := qc.below hU5a qc.lt
  replace qd := qd.below hU5a qd.lt
  have B_U5a := ex_trans B_U4c hU5a
  clear q0_0 q0_1 q0_2 q0_l qx_0 qx_1 qx_2 qx_l qa_0 qa_1 qa_l qb_0 qb_1 qb_l qc_0 qc_1 qc_l qd_0 qd_1 qd_l
  have q0_0 : U5a.cell? ⟨w.heap.size, 0, none⟩ = some (.slice Ao s.offs.length co) := q0.cell 0
  have q0_1 : U5a.cell? ⟨w.heap.size, 1, none⟩ = some (.int .i64 s.err) := q0.cell 1
  have q0_2 : U5a.cell? ⟨w.heap.size, 2, none⟩ = some (.slice Ab s.baths.length cb) := q0.cell 2
  have q0_l := q0.lt
  have qx_0 : U5a.cell? ⟨px, 0, none⟩ = some (.slice Ao x.offs.length co) := qx.cell 0
  have qx_1 : U5a.cell? ⟨px, 1, none⟩ = some (.int .i64 x.err) := qx.cell 1
  have qx_2 : U5a.cell? ⟨px, 2, none⟩ = some (.slice Abx x.baths.length cbx) := qx.cell 2
  have qx_l := qx.lt
  have qa_0 : U5a.cell? ⟨pa, 0, none⟩ = some (.int .i64 (loa)) := qa.cell 0
  have qa_1 : U5a.cell? ⟨pa, 1, none⟩ = some (.int .i64 (hia)) := qa.cell 1
  have qa_l := qa.lt
  have qb_0 : U5a.cell? ⟨pb, 0, none⟩ = some (.int .i64 (lob)) := qb.cell 0
  have qb_1 : U5a.cell? ⟨pb, 1, none⟩ = some (.int .i64 (hib)) := qb.cell 1
  have qb_l := qb.lt
  have qc_0 : U5a.cell? ⟨pc, 0, none⟩ = some (.int .i64 (loc)) := qc.cell 0
  have qc_1 : U5a.cell? ⟨pc, 1, none⟩ = some (.int .i64 (hic)) := qc.cell 1
  have qc_l := qc.lt
  have qd_0 : U5a.cell? ⟨pd, 0, none⟩ = some (.int .i64 (-hia)) := qd.cell 0
  have qd_1 : U5a.cell? ⟨pd, 1, none⟩ = some (.int .i64 (-loa)) := qd.cell 1
  have qd_l := qd.lt
  go_wp2_with fail
  refine (Diff_any x Aoo Abo coo cbo rAo rco U5a hso HTX.out.sm (i : Int) (i : Int)).mono ?_
  rintro e U5b ⟨⟨loo, hio, evo, rfl, hd⟩, hU5b⟩
  replace q0 := q0.below hU5b q0.lt
  replace so := (so.below hU5b).up hU5b.size
  replace sh := (sh.below hU5b).up hU5b.size
  replace hsx := hsx.go hU5b
  replace qx := qx.below hU5b qx.lt
  replace qa := qa.below hU5b qa.lt
  replace qb := qb.below hU5b qb.lt
  replace qc := qc.below hU5b qc.lt
  replace qd := qd.below hU5b qd.lt
  replace hso := hso.go hU5b
  have B_U5b := ex_trans B_U5a hU5b
  clear q0_0 q0_1 q0_2 q0_l qx_0 qx_1 qx_2 qx_l qa_0 qa_1 qa_l qb_0 qb_1 qb_l qc_0 qc_1 qc_l qd_0 qd_1 qd_l
  have q0_0 : U5b.cell? ⟨w.heap.size, 0, none⟩ = some (.slice Ao s.offs.length co) := q0.cell 0
  have q0_1 : U5b.cell? ⟨w.heap.size, 1, none⟩ = some (.int .i64 s.err) := q0.cell 1
  have q0_2 : U5b.cell? ⟨w.heap.size, 2, none⟩ = some (.slice Ab s.baths.length cb) := q0.cell 2
  have q0_l := q0.lt
  have qx_0 : U5b.cell? ⟨px, 0, none⟩ = some (.slice Ao x.offs.length co) := qx.cell 0
  have qx_1 : U5b.cell? ⟨px, 1, none⟩ = some (.int .i64 x.err) := qx.cell 1
  have qx_2 : U5b.cell? ⟨px, 2, none⟩ = some (.slice Abx x.baths.length cbx) := qx.cell 2
  have qx_l := qx.lt
  have qa_0 : U5b.cell? ⟨pa, 0, none⟩ = some (.int .i64 (loa)) := qa.cell 0
  have qa_1 : U5b.cell? ⟨pa, 1, none⟩ = some (.int .i64 (hia)) := qa.cell 1
  have qa_l := qa.lt
  have qb_0 : U5b.cell? ⟨pb, 0, none⟩ = some (.int .i64 (lob)) := qb.cell 0
  have qb_1 : U5b.cell? ⟨pb, 1, none⟩ = some (.int .i64 (hib)) := qb.cell 1
  have qb_l := qb.lt
  have qc_0 : U5b.cell? ⟨pc, 0, none⟩ = some (.int .i64 (loc)) := qc.cell 0
  have qc_1 : U5b.cell? ⟨pc, 1, none⟩ = some (.int .i64 (hic)) := qc.cell 1
  have qc_l := qc.lt
  have qd_0 : U5b.cell? ⟨pd, 0, none⟩ = some (.int .i64 (-hia)) := qd.cell 0
  have qd_1 : U5b.cell? ⟨pd, 1, none⟩ = some (.int .i64 (-loa)) := qd.cell 1
  have qd_l := qd.lt
  clear hso
  obtain ⟨rfl, he⟩ := diff_ok HOX.out HCX.out hd.out (HIX.out _ li) (HIX.out _ li)
  simp only [Int.toNat_natCast] at he
  clear hd
  have hbdo := diff_bd HOX.out (HLX.out _ li) (HLX.out _ li) he
  obtain ⟨rfl, rfl⟩ := he.uniq (diff_self HCX.out)
  have HEo := Lib.hid he
  clear he
  go_wp2_with fail
  clear q0_0 q0_1 q0_2 q0_l qx_0 qx_1 qx_2 qx_l qa_0 qa_1 qa_l qb_0 qb_1 qb_l qc_0 qc_1 qc_l qd_0 qd_1 qd_l
  have B0 := B_U5b.size
  have N_U5c := ex_alloc (Below.refl U5b.heap.size U5b) (.cells #[.int .i64 (0), .int .i64 (0)] 41)
  have qo : Blk (U5b.alloc (.cells #[.int .i64 (0), .int .i64 (0)] 41)) U5b.heap.size 41 #[.int .i64 (0), .int .i64 (0)] := Blk.new _ _ _
  replace q0 := q0.below N_U5c q0.lt
  replace so := (so.below N_U5c).up N_U5c.size
  replace sh := (sh.below N_U5c).up N_U5c.size
  replace hsx := hsx.go N_U5c
  replace qx := qx.below N_U5c qx.lt
  replace qa := qa.below N_U5c qa.lt
  replace qb := qb.below N_U5c qb.lt
  replace qc := qc.below N_U5c qc.lt
  replace qd := qd.below N_U5c qd.lt
  have B_U5c := ex_trans B_U5b N_U5c
  clear N_U5c
  generalize U5b.alloc (.cells #[.int .i64 (0), .int .i64 (0)] 41) = U5c at *
  obtain ⟨po, hpo⟩ : ∃ p, U5b.heap.size = p := ⟨_, rfl⟩
  have hpo0 : w.heap.size ≤ po := by omega
  rw [hpo] at qo ⊢
  clear hpo B0
  have q0_0 : U5c.cell? ⟨w.heap.size, 0, none⟩ = some (.slice Ao s.offs.length co) := q0.cell 0
  have q0_1 : U5c.cell? ⟨w.heap.size, 1, none⟩ = some (.int .i64 s.err) := q0.cell 1
  have q0_2 : U5c.cell? ⟨w.heap.size, 2, none⟩ = some (.slice Ab s.baths.length cb) := q0.cell 2
  have q0_l := q0.lt
  have qx_0 : U5c.cell? ⟨px, 0, none⟩ = some (.slice Ao x.offs.length co) := qx.cell 0
  have qx_1 : U5c.cell? ⟨px, 1, none⟩ = some (.int .i64 x.err) := qx.cell 1
  have qx_2 : U5c.cell? ⟨px, 2, none⟩ = some (.slice Abx x.baths.length cbx) := qx.cell 2
  have qx_l := qx.lt
  have qa_0 : U5c.cell? ⟨pa, 0, none⟩ = some (.int .i64 (loa)) := qa.cell 0
  have qa_1 : U5c.cell? ⟨pa, 1, none⟩ = some (.int .i64 (hia)) := qa.cell 1
  have qa_l := qa.lt
  have qb_0 : U5c.cell? ⟨pb, 0, none⟩ = some (.int .i64 (lob)) := qb.cell 0
  have qb_1 : U5c.cell? ⟨pb, 1, none⟩ = some (.int .i64 (hib)) := qb.cell 1
  have qb_l := qb.lt
  have qc_0 : U5c.cell? ⟨pc, 0, none⟩ = some (.int .i64 (loc)) := qc.cell 0
  have qc_1 : U5c.cell? ⟨pc, 1, none⟩ = some (.int .i64 (hic)) := qc.cell 1
  have qc_l := qc.lt
  have qd_0 : U5c.cell? ⟨pd, 0, none⟩ = some (.int .i64 (-hia)) := qd.cell 0
  have qd_1 : U5c.cell? ⟨pd, 1, none⟩ = some (.int .i64 (-loa)) := qd.cell 1
  have qd_l := qd.lt
  have qo_0 : U5c.cell? ⟨po, 0, none⟩ = some (.int .i64 (0)) := qo.cell 0
  have qo_1 : U5c.cell? ⟨po, 1, none⟩ = some (.int .i64 (0)) := qo.cell 1
  have qo_l := qo.lt
  have hab := diff_around HEa.out HEb.out HEc.out
  have k1 : IntKind.i64.wrap (loa + lob) = loa + lob := IntWalk.i64_in _ (by omega)
  have k2 : IntKind.i64.wrap (hia + hib) = hia + hib := IntWalk.i64_in _ (by omega)
  have k3 : IntKind.i64.wrap (-hia) = -hia := IntWalk.i64_in _ (by omega)
  have k4 : IntKind.i64.wrap (-loa) = -loa := IntWalk.i64_in _ (by omega)
  have d1 : decide (loa + lob ≤ loc) = true := decide_eq_true hab.1
  have d2 : decide (hic ≤ hia + hib) = true := decide_eq_true hab.2
  go_wp2_with fail
  refine wp_region_ext_mix 57 [(false, 0), (false, 1), (false, 2), (false, 3), (false, 4), (false, 5), (false, 6), (false, 7), (false, 8), (false, 9), (false, 10), (false, 11), (false, 12), (false, 13), (false, 14), (false, 15), (false, 16), (false, 17), (false, 18), (false, 19), (false, 20), (false, 21), (false, 22), (false, 23), (false, 24), (false, 25), (false, 26), (false, 27), (false, 28), (false, 29), (false, 30), (false, 31), (false, 32), (false, 33), (false, 34), (false, 35), (false, 36), (false, 37), (false, 38), (false, 39), (false, 40), (false, 41), (false, 42), (false, 43), (false, 44), (false, 45), (true, 46), (false, 47), (false, 48), (false, 49), (false, 50), (true, 51), (false, 52), (false, 53), (false, 54), (true, 55), (false, 56)] (by kernel_rfl) (by kernel_rfl) (by intro d _ _ _ _ h; cases d <;> exact h) ?_
  have D_U5c := (Below.refl U5c.heap.size U5c).drew
  repeat (refine mix_quiet rfl ?_; go_big_quiet_step (fail); refine wpQuiet_nil ?_)
  refine mix_loud rfl ?_
  go_wp2_with fail
  refine (between_law (-hia) (-loa) U5c.drew).mono ?_
  rintro e X1 ⟨rfl, hX1⟩
  have X_X1 := ex_trans D_U5c hX1
  go_wp2_with fail
  refine ⟨inEx X_X1, ?_⟩
  repeat (refine mix_quiet rfl ?_; go_big_quiet_step (fail); refine wpQuiet_nil ?_)
  refine mix_loud rfl ?_
  go_wp2_with fail
  refine (between_law 0 0 X1).mono ?_
  rintro e X2 ⟨rfl, hX2⟩
  have X_X2 := ex_trans X_X1 hX2
  go_wp2_with fail
  refine ⟨inEx X_X2, ?_⟩
  repeat (refine mix_quiet rfl ?_; go_big_quiet_step (fail); refine wpQuiet_nil ?_)
  refine mix_loud rfl ?_
  go_wp2_with fail
  refine (wakes_any X2).mono ?_
  rintro e X3 ⟨rfl, hX3⟩
  have X_X3 := ex_trans X_X2 hX3
  go_wp2_with fail
  refine ⟨inEx X_X3, ?_⟩
  repeat (refine mix_quiet rfl ?_; go_big_quiet_step (fail); refine wpQuiet_nil ?_)
  refine mix_nil rfl ?_
  go_wp2
  go_ret
  exact ⟨rfl, ex_trans B_U5c X_X3⟩
end Go.Proofs.Ytnplefhigbkbbaa
end
