/- Bath's laws: Read in terms of what it tells; BathTogether (walk). · Bath's reference: With, Difference (walks). · Bath's laws: fixed (walk). · Bath's laws: on; a series in which a bath has just one heat (plain and in memory). -/
import Derived.Test.YtnplefhigbkbbaaQ12
import Derived.Test.YtnplefhigbkbbaaQ10
import Derived.Test.YtnplefhigbkbbaaQ9
import Derived.Test.YtnplefhigbkbbaaQ11
set_option linter.unusedVariables false
set_option linter.unusedSimpArgs false
set_option linter.unusedSectionVars false
section
namespace Go.Proofs.Ytnplefhigbkbbaa
open Go.RowKit
attribute [local go_sem] Ex.cell? Ex.frozen? Gx.cell?

theorem Read_v (s : Se) (Ao Ab : Option Addr) (co cb : Nat) (rA : Nat → Option Addr) (rc : Nat → Nat) (w : World) (hs : SeIn w w.heap.size s Ao Ab rA rc) (ht : Thn s) (hok : SeOk s) (Aw : Option Addr) (cw : Nat) (ws : List Int) (hws : SlAt w w.heap.size 1 Aw ws.length (fU ws)) (hwl : ws.length ≤ maxLen) (hwv : ∀ k, k < ws.length → 0 ≤ gI ws k ∧ gI ws k ≤ 65535) :
    Calls Try.prog 49 #[.agg #[.slice Ao s.offs.length co, .int .i64 s.err, .slice Ab s.baths.length cb], .slice Aw ws.length cw] w fun e w' => (∃ A1 c1 A2 c2 Abx cbx rAx rcx, ∃ o h x, Hid (ReadV s o h x) ∧ e = .returned (.tuple #[.slice A1 o.length c1, .slice A2 h.length c2, .agg #[.slice Ao x.offs.length co, .int .i64 x.err, .slice Abx x.baths.length cbx]]) ∧ SlAt w' w'.heap.size 1 A1 o.length (fI o) ∧ SlAt w' w'.heap.size 1 A2 h.length (fI h) ∧ SeIn w' w'.heap.size x Ao Abx rAx rcx) ∧ Below w.heap.size w w' :=
  (Read_law s Ao Ab co cb rA rc w hs ht hok Aw cw ws hws hwl hwv).mono fun _ w' ⟨⟨A1, c1, A2, c2, Ab', cb', rA', rc', o, h, x, HRV, h1, h2, h3, h4⟩, h5⟩ => by
    refine ⟨⟨A1, c1, A2, c2, Ab', cb', rA', rc', o, h, x, HRV, ?_, ?_, ?_, h4⟩, h5⟩
    · rw [HRV.out.lo, HRV.out.lh, HRV.out.offs, HRV.out.err, HRV.out.lb]; exact h1
    · rw [HRV.out.lo]; exact h2
    · rw [HRV.out.lh]; exact h3
theorem diff_ok {x : Se} (hok : SeOk x) (hc : Can x) {a b lo hi ev : Int} (h : DiffV x a b lo hi ev) (ha : 0 ≤ a ∧ a ≤ (x.offs.length : Int) - 1) (hb : 0 ≤ b ∧ b ≤ (x.offs.length : Int) - 1) : ev = 0 ∧ EndsOf (DiffZ x a.toNat b.toNat) lo hi := by
  have h0 := seOk_iff.2 hok
  have e1 : inB a 0 ((x.offs.length : Int) - 1) = true := inB_iff.2 ha
  have e2 : inB b 0 ((x.offs.length : Int) - 1) = true := inB_iff.2 hb
  rcases h with ⟨h1, _⟩ | ⟨_, h1, _⟩ | ⟨_, _, _, h1, _⟩ | ⟨_, _, _, _, h1, h2⟩
  · exact absurd h0 h1
  · rw [e1, e2] at h1; cases h1
  · exact absurd hc h1
  · exact ⟨h1, h2⟩
theorem together {x : Se} {b i j : Nat} (hb : b < x.baths.length) (hi : i < (gBt x.baths b).reads.length) (hj : j < (gBt x.baths b).reads.length) {lo hh : Int} (h : EndsOf (DiffZ x (gRd (gBt x.baths b).reads i).inst.toNat (gRd (gBt x.baths b).reads j).inst.toNat) lo hh) :
    (gRd (gBt x.baths b).reads i).val - (gRd (gBt x.baths b).reads j).val - 2 * x.err ≤ lo ∧ hh ≤ (gRd (gBt x.baths b).reads i).val - (gRd (gBt x.baths b).reads j).val + 2 * x.err := by
  obtain ⟨⟨o1, h1, t1, e1⟩, ⟨o2, h2, t2, e2⟩, _⟩ := h
  have a1 := t1.read (fun _ => rfl) hb hi
  have a2 := t1.read (fun _ => rfl) hb hj
  have a3 := t2.read (fun _ => rfl) hb hi
  have a4 := t2.read (fun _ => rfl) hb hj
  omega

set_option maxRecDepth 100000 in
set_option maxHeartbeats 25600000 in
theorem TogetherLaw_any (s : Se) (Ao Ab : Option Addr) (co cb : Nat) (rA : Nat → Option Addr) (rc : Nat → Nat) (w : World) (hs : SeIn w w.heap.size s Ao Ab rA rc) (hol : s.offs.length ≤ maxLen) (hbl : s.baths.length ≤ maxLen) (Aw : Option Addr) (cw : Nat) (ws : List Int) (hws : SlAt w w.heap.size 1 Aw ws.length (fU ws)) (hwl : ws.length ≤ maxLen) (hwv : ∀ k, k < ws.length → 0 ≤ gI ws k ∧ gI ws k ≤ 65535) :
    Calls Try.prog 10 #[.agg #[.slice Ao s.offs.length co, .int .i64 s.err, .slice Ab s.baths.length cb], .slice Aw ws.length cw] w fun e w' => e = .returned (.bool true) ∧ Below w.heap.size w w' := by
  have B_V := ex_alloc (Below.refl w.heap.size w) (.cells #[.slice Ao s.offs.length co, .int .i64 s.err, .slice Ab s.baths.length cb] 25)
  have q0 : Blk (w.alloc (.cells #[.slice Ao s.offs.length co, .int .i64 s.err, .slice Ab s.baths.length cb] 25)) w.heap.size 25 #[.slice Ao s.offs.length co, .int .i64 s.err, .slice Ab s.baths.length cb] := Blk.new _ _ _
  have hm : maxLen = 9223372036854775807 := rfl
  go_enter Try.func10, Try.ntmps10
  go_wp2_with fail
  generalize w.alloc (.cells #[.slice Ao s.offs.length co, .int .i64 s.err, .slice Ab s.baths.length cb] 25) = V at *
  have q0_0 : V.cell? ⟨w.heap.size, 0, none⟩ = some (.slice Ao s.offs.length co) := q0.cell 0
  have q0_1 : V.cell? ⟨w.heap.size, 1, none⟩ = some (.int .i64 s.err) := q0.cell 1
  have q0_2 : V.cell? ⟨w.heap.size, 2, none⟩ = some (.slice Ab s.baths.length cb) := q0.cell 2
  have q0_l := q0.lt
  refine (ready_law s Ao Ab co cb rA rc V ((hs.below B_V).up B_V.size) hol hbl).mono ?_
  rintro e W1 ⟨⟨x, rfl, hx⟩, hW1⟩
  replace q0 := q0.below hW1 q0.lt
  have B_W1 := ex_trans B_V hW1
  clear q0_0 q0_1 q0_2 q0_l
  have q0_0 : W1.cell? ⟨w.heap.size, 0, none⟩ = some (.slice Ao s.offs.length co) := q0.cell 0
  have q0_1 : W1.cell? ⟨w.heap.size, 1, none⟩ = some (.int .i64 s.err) := q0.cell 1
  have q0_2 : W1.cell? ⟨w.heap.size, 2, none⟩ = some (.slice Ab s.baths.length cb) := q0.cell 2
  have q0_l := q0.lt
  cases x
  · go_wp2_with fail
    refine (wakes_any _).mono ?_
    rintro e Wz ⟨rfl, hz⟩
    go_wp2
    go_ret
    exact ⟨rfl, ex_trans B_W1 hz⟩
  have HT := Lib.hid (hx.out rfl).1
  have HOK := Lib.hid (hx.out rfl).2
  clear hx
  have hno := HT.out.no
  have hnb := HT.out.nb
  go_wp2_with fail
  refine (Read_v s Ao Ab co cb rA rc W1 ((hs.below B_W1).up B_W1.size) HT.out HOK.out Aw cw ws ((hws.below B_W1).up B_W1.size) hwl hwv).mono ?_
  rintro e W2 ⟨⟨A1, c1, A2, c2, Abx, cbx, rAx, rcx, o, h, x, HRV, rfl, so, sh, hsx⟩, hW2⟩
  replace q0 := q0.below hW2 q0.lt
  have B_W2 := ex_trans B_W1 hW2
  clear q0_0 q0_1 q0_2 q0_l
  have q0_0 : W2.cell? ⟨w.heap.size, 0, none⟩ = some (.slice Ao s.offs.length co) := q0.cell 0
  have q0_1 : W2.cell? ⟨w.heap.size, 1, none⟩ = some (.int .i64 s.err) := q0.cell 1
  have q0_2 : W2.cell? ⟨w.heap.size, 2, none⟩ = some (.slice Ab s.baths.length cb) := q0.cell 2
  have q0_l := q0.lt
  have HTX : Hid (Thn x) := Lib.hid (HRV.out.thn HT.out)
  have HOX : Hid (SeOk x) := Lib.hid HRV.out.ok
  have HCX : Hid (Can x) := Lib.hid HRV.out.can
  have hnox := HTX.out.no
  have hnbx := HTX.out.nb
  go_wp2_with fail
  have HQ0 := q0.lt
  have N_W3 := ex_alloc (Below.refl W2.heap.size W2) (.cells #[.slice Ao x.offs.length co, .int .i64 x.err, .slice Abx x.baths.length cbx] 25)
  have qx : Blk (W2.alloc (.cells #[.slice Ao x.offs.length co, .int .i64 x.err, .slice Abx x.baths.length cbx] 25)) W2.heap.size 25 #[.slice Ao x.offs.length co, .int .i64 x.err, .slice Abx x.baths.length cbx] := Blk.new _ _ _
  replace q0 := q0.below N_W3 q0.lt
  replace so := (so.below N_W3).up N_W3.size
  replace sh := (sh.below N_W3).up N_W3.size
  replace hsx := hsx.go N_W3
  have B_W3 := ex_trans B_W2 N_W3
  clear N_W3
  generalize W2.alloc (.cells #[.slice Ao x.offs.length co, .int .i64 x.err, .slice Abx x.baths.length cbx] 25) = W3 at *
  obtain ⟨px, hpx⟩ : ∃ px, W2.heap.size = px := ⟨_, rfl⟩
  have hpx0 : w.heap.size < px := by have := B_W2.size; omega
  rw [hpx] at qx ⊢
  clear hpx HQ0
  clear q0_0 q0_1 q0_2 q0_l
  have q0_0 : W3.cell? ⟨w.heap.size, 0, none⟩ = some (.slice Ao s.offs.length co) := q0.cell 0
  have q0_1 : W3.cell? ⟨w.heap.size, 1, none⟩ = some (.int .i64 s.err) := q0.cell 1
  have q0_2 : W3.cell? ⟨w.heap.size, 2, none⟩ = some (.slice Ab s.baths.length cb) := q0.cell 2
  have q0_l := q0.lt
  have qx_0 : W3.cell? ⟨px, 0, none⟩ = some (.slice Ao x.offs.length co) := qx.cell 0
  have qx_1 : W3.cell? ⟨px, 1, none⟩ = some (.int .i64 x.err) := qx.cell 1
  have qx_2 : W3.cell? ⟨px, 2, none⟩ = some (.slice Abx x.baths.length cbx) := qx.cell 2
  have qx_l := qx.lt
  go_wp2_with fail
  clear q0_0 q0_1 q0_2 q0_l qx_0 qx_1 qx_2 qx_l
  refine wp_loop (fun a W => Rel (fun a W => ∃ k : Nat, k ≤ x.baths.length ∧ Below W3.heap.size W3 W ∧ ∃ u : Nat → Value, a = ⟨List.toArray (u 0 :: .slice Aw ws.length cw :: .pointer (some ⟨w.heap.size, 0, none⟩) :: u 3 :: .bool false :: .slice A1 o.length c1 :: .slice A2 h.length c2 :: .pointer (some ⟨px, 0, none⟩) :: .int .i64 (k : Int) :: u 9 :: u 10 :: u 11 :: u 12 :: u 13 :: u 14 :: u 15 :: u 16 :: u 17 :: u 18 :: u 19 :: u 20 :: u 21 :: u 22 :: u 23 :: u 24 :: u 25 :: u 26 :: u 27 :: u 28 :: u 29 :: u 30 :: u 31 :: u 32 :: u 33 :: u 34 :: u 35 :: u 36 :: u 37 :: u 38 :: u 39 :: u 40 :: u 41 :: u 42 :: u 43 :: u 44 :: u 45 :: u 46 :: u 47 :: u 48 :: u 49 :: u 50 :: u 51 :: u 52 :: u 53 :: u 54 :: u 55 :: u 56 :: u 57 :: u 58 :: u 59 :: u 60 :: u 61 :: u 62 :: u 63 :: u 64 :: u 65 :: u 66 :: u 67 :: u 68 :: u 69 :: u 70 :: u 71 :: u 72 :: u 73 :: u 74 :: u 75 :: u 76 :: u 77 :: u 78 :: u 79 :: u 80 :: u 81 :: u 82 :: u 83 :: u 84 :: u 85 :: u 86 :: u 87 :: u 88 :: u 89 :: u 90 :: u 91 :: u 92 :: u 93 :: u 94 :: u 95 :: []), []⟩) a W)
    (fun a _ => x.baths.length - (intOf (a.tmps.getD 8 undef)).toNat) ⟨⟨0, by omega, Below.refl _ _, exFrame (by kernel_rfl)⟩⟩ ?_
  rintro a W ⟨⟨k, hk, hbw, u, rfl⟩⟩
  have B_W := ex_trans B_W3 hbw
  have p0 := q0.below hbw q0.lt
  have p1 := qx.below hbw qx.lt
  have p0_0 : W.cell? ⟨w.heap.size, 0, none⟩ = some (.slice Ao s.offs.length co) := p0.cell 0
  have p0_1 : W.cell? ⟨w.heap.size, 1, none⟩ = some (.int .i64 s.err) := p0.cell 1
  have p0_2 : W.cell? ⟨w.heap.size, 2, none⟩ = some (.slice Ab s.baths.length cb) := p0.cell 2
  have p0_l := p0.lt
  have p1_0 : W.cell? ⟨px, 0, none⟩ = some (.slice Ao x.offs.length co) := p1.cell 0
  have p1_1 : W.cell? ⟨px, 1, none⟩ = some (.int .i64 x.err) := p1.cell 1
  have p1_2 : W.cell? ⟨px, 2, none⟩ = some (.slice Abx x.baths.length cbx) := p1.cell 2
  have p1_l := p1.lt
  by_cases hlt : k < x.baths.length
  rotate_left
  · obtain rfl : k = x.baths.length := by omega
    go_wp2_with fail
    refine (wakes_any _).mono ?_
    rintro e Wz ⟨rfl, hz⟩
    go_wp2
    go_ret
    exact ⟨rfl, ex_trans B_W hz⟩
  obtain ⟨bb, ob, rfl, hbb, g0, g1, g2⟩ := IsBts.at_ (hsx.baths.below hbw) hlt
  have hrd := hsx.reads k hlt
  have hrl := HTX.out.nr k hlt
  have hin := HOX.out.inst k hlt
  have hvl := HOX.out.val k hlt
  have HTG : Hid (∀ i j, i < (gBt x.baths k).reads.length → j < (gBt x.baths k).reads.length → ∀ lo hh, EndsOf (DiffZ x (gRd (gBt x.baths k).reads i).inst.toNat (gRd (gBt x.baths k).reads j).inst.toNat) lo hh → (gRd (gBt x.baths k).reads i).val - (gRd (gBt x.baths k).reads j).val - 2 * x.err ≤ lo ∧ hh ≤ (gRd (gBt x.baths k).reads i).val - (gRd (gBt x.baths k).reads j).val + 2 * x.err) := Lib.hid (fun i j hi hj lo hh h => together hlt hi hj h)
  generalize (gBt x.baths k).reads = rd at *
  generalize rAx k = Ar at *
  generalize rcx k = cr at *
  have lbb : bb < W.heap.size := by have := hbw.size; omega
  have HIN := Lib.hid hin
  have HVL := Lib.hid hvl
  clear hin hvl g0 g1
  go_wp2_with fail
  clear p0_0 p0_1 p0_2 p0_l p1_0 p1_1 p1_2 p1_l
  clear g2 p0 p1
  refine wp_loop (fun a Y => Rel (fun a Y => ∃ i : Nat, 1 ≤ i ∧ i ≤ 10 ∧ Below W3.heap.size W3 Y ∧ ∃ u : Nat → Value, a = ⟨List.toArray (u 0 :: .slice Aw ws.length cw :: .pointer (some ⟨w.heap.size, 0, none⟩) :: u 3 :: .bool false :: .slice A1 o.length c1 :: .slice A2 h.length c2 :: .pointer (some ⟨px, 0, none⟩) :: .int .i64 (k : Int) :: .slice Ar rd.length cr :: .int .i64 (i : Int) :: u 11 :: u 12 :: u 13 :: u 14 :: u 15 :: u 16 :: u 17 :: u 18 :: u 19 :: u 20 :: u 21 :: u 22 :: u 23 :: u 24 :: u 25 :: u 26 :: u 27 :: u 28 :: u 29 :: u 30 :: u 31 :: u 32 :: u 33 :: u 34 :: u 35 :: u 36 :: u 37 :: u 38 :: u 39 :: u 40 :: u 41 :: u 42 :: u 43 :: u 44 :: u 45 :: u 46 :: u 47 :: u 48 :: u 49 :: u 50 :: u 51 :: u 52 :: u 53 :: u 54 :: u 55 :: u 56 :: u 57 :: u 58 :: u 59 :: u 60 :: u 61 :: u 62 :: u 63 :: u 64 :: u 65 :: u 66 :: u 67 :: u 68 :: u 69 :: u 70 :: u 71 :: u 72 :: u 73 :: u 74 :: u 75 :: u 76 :: u 77 :: u 78 :: u 79 :: u 80 :: u 81 :: u 82 :: u 83 :: u 84 :: u 85 :: u 86 :: u 87 :: u 88 :: u 89 :: u 90 :: u 91 :: u 92 :: u 93 :: u 94 :: u 95 :: []), []⟩) a Y)
    (fun a _ => rd.length - (intOf (a.tmps.getD 10 undef)).toNat) ⟨⟨1, by omega, by omega, hbw, exFrame (by kernel_rfl)⟩⟩ ?_
  clear hbw lbb B_W
  rintro a Y ⟨⟨i, hi1, hi2, hbY, u, rfl⟩⟩
  have B_Y := ex_trans B_W3 hbY
  have p0 := q0.below hbY q0.lt
  have p1 := qx.below hbY qx.lt
  have p0_0 : Y.cell? ⟨w.heap.size, 0, none⟩ = some (.slice Ao s.offs.length co) := p0.cell 0
  have p0_1 : Y.cell? ⟨w.heap.size, 1, none⟩ = some (.int .i64 s.err) := p0.cell 1
  have p0_2 : Y.cell? ⟨w.heap.size, 2, none⟩ = some (.slice Ab s.baths.length cb) := p0.cell 2
  have p0_l := p0.lt
  have p1_0 : Y.cell? ⟨px, 0, none⟩ = some (.slice Ao x.offs.length co) := p1.cell 0
  have p1_1 : Y.cell? ⟨px, 1, none⟩ = some (.int .i64 x.err) := p1.cell 1
  have p1_2 : Y.cell? ⟨px, 2, none⟩ = some (.slice (some ⟨bb, ob, none⟩) x.baths.length cbx) := p1.cell 2
  have p1_l := p1.lt
  by_cases hli : i < rd.length
  rotate_left
  · go_wp2_with fail
    refine ⟨⟨k + 1, by omega, hbY, exFrame (by kernel_rfl)⟩, ?_⟩
    show x.baths.length - (intOf (.int .i64 ((k : Int) + 1))).toNat < x.baths.length - (intOf (.int .i64 (k : Int))).toNat
    simp [intOf]
    omega
  obtain ⟨j, hij⟩ : ∃ j, i = j + 1 := ⟨i - 1, by omega⟩
  have hjl : j < rd.length := by omega
  have kj : IntKind.i64.wrap ((i : Int) - 1) = (j : Int) := by rw [hij]; exact (congrArg IntKind.i64.wrap (by omega)).trans (IntWalk.i64_in _ (by omega))
  have kj0 : (i : Int) - 1 = (j : Int) := by omega
  have HIJ := Lib.hid hij
  clear hij
  obtain ⟨br, orr, rfl, hbr, r0, r1⟩ := IsRds.at_ (hrd.below hbY) hli
  obtain ⟨br', orr', e9, _, s0, s1⟩ := IsRds.at_ (hrd.below hbY) hjl
  injection e9 with e9
  injection e9 with e90 e91 e92
  subst e90 e91
  clear e92
  have lbr : br < Y.heap.size := by have := hbY.size; omega
  have hI := HIN.out i hli
  have hJ := HIN.out j hjl
  have vI := HVL.out i hli
  have vJ := HVL.out j hjl
  have HT2 := Lib.hid (HTG.out i j hli hjl)
  obtain ⟨a1, ha0⟩ : ∃ n, (gRd rd i).inst = n := ⟨_, rfl⟩
  have HA1 := Lib.hid ha0
  rw [ha0] at r0 hI HT2
  clear ha0
  obtain ⟨v1, ha1⟩ : ∃ n, (gRd rd i).val = n := ⟨_, rfl⟩
  have HV1 := Lib.hid ha1
  rw [ha1] at r1 vI HT2
  clear ha1
  obtain ⟨a2, ha2⟩ : ∃ n, (gRd rd j).inst = n := ⟨_, rfl⟩
  have HA2 := Lib.hid ha2
  rw [ha2] at s0 hJ HT2
  clear ha2
  obtain ⟨v2, ha3⟩ : ∃ n, (gRd rd j).val = n := ⟨_, rfl⟩
  have HV2 := Lib.hid ha3
  rw [ha3] at s1 vJ HT2
  clear ha3
  have her := HOK.out.err
  have hxe : Hid (x.err = s.err) := Lib.hid HRV.out.err
  have k1 : IntKind.i64.wrap (v1 - v2) = v1 - v2 := IntWalk.i64_in _ (by omega)
  have k2 : IntKind.i64.wrap (2 * s.err) = 2 * s.err := IntWalk.i64_in _ (by omega)
  have k3 : IntKind.i64.wrap (v1 - v2 - 2 * s.err) = v1 - v2 - 2 * s.err := IntWalk.i64_in _ (by omega)
  have k4 : IntKind.i64.wrap (v1 - v2 + 2 * s.err) = v1 - v2 + 2 * s.err := IntWalk.i64_in _ (by omega)
  go_wp2_with fail
  refine wp_region_ext_tq 19 (.quiet 0 (.quiet 2 (.quiet 3 (.quiet 4 (.quiet 5 (.quiet 6 (.quiet 7 (.quiet 8 (.quiet 9 (.quiet 10 (.quiet 11 (.quiet 12 (.fork 1 (.fork 13 (.quiet 14 (.quiet 15 (.quiet 16 (.loud 17 (.loud 18 .done))))) 17 (.loud 13 (.quiet 14 (.quiet 15 (.quiet 16 (.loud 18 .done)))))) 17 (.loud 1 (.loud 13 (.quiet 14 (.quiet 15 (.quiet 16 (.loud 18 .done))))))))))))))))))) (by kernel_rfl) (by kernel_rfl) (by intro d _ _ _ _ h; cases d <;> exact h) ?_
  have X_D := (Below.refl Y.heap.size Y).drew
  repeat (refine tq_quiet rfl ?_; go_big_quiet_step (fail); refine wpQuiet_nil ?_)
  generalize Y.drew = D at *
  refine tq_fork rfl rfl ?_ ?_
  · go_wp2_with fail
    refine (Series_law x Ao (some ⟨bb, ob, none⟩) co cbx rAx rcx D (hsx.go (ex_trans hbY X_D)) HTX.out).mono ?_
    rintro e Z1 ⟨⟨Ao1, Ab1, co1, cb1, rA1, rc1, rfl, hs1⟩, hZ1⟩
    have X_Z1 := ex_trans X_D hZ1
    go_wp2_with fail
    refine ⟨inEx X_Z1, ?_⟩
    repeat (refine tq_quiet rfl ?_; go_big_quiet_step (fail); refine wpQuiet_nil ?_)
    refine tq_fork rfl rfl ?_ ?_
    · go_wp2_with fail
      refine (Diff_any x Ao1 Ab1 co1 cb1 rA1 rc1 Z1 hs1 HTX.out.sm a1 a2).mono ?_
      rintro e Z2 ⟨⟨lo, hh, ev, rfl, hd⟩, hZ2⟩
      have X_Z2 := ex_trans X_Z1 hZ2
      obtain ⟨rfl, he⟩ := diff_ok HOX.out HCX.out hd.out hI hJ
      have HE := Lib.hid (HT2.out _ _ he)
      clear hd he hs1
      go_wp2_with fail
      refine ⟨inEx X_Z2, ?_⟩
      repeat (refine tq_quiet rfl ?_; go_big_quiet_step (fail); refine wpQuiet_nil ?_)
      refine tq_loud rfl ?_
      go_wp2_with fail
      have hZ3 := ex_alloc (Below.refl Z2.heap.size Z2) (.cells #[.int .i64 0, .int .i64 0] 41)
      have qd : Blk (Z2.alloc (.cells #[.int .i64 0, .int .i64 0] 41)) Z2.heap.size 41 #[.int .i64 0, .int .i64 0] := Blk.new _ _ _
      have hpd0 : Y.heap.size ≤ Z2.heap.size := X_Z2.size
      obtain ⟨pd, hpd⟩ : ∃ pd, Z2.heap.size = pd := ⟨_, rfl⟩
      have X_Z3 := ex_trans X_Z2 hZ3
      refine ⟨inEx X_Z3, ?_⟩
      generalize Z2.alloc (.cells #[.int .i64 0, .int .i64 0] 41) = Z3 at *
      rw [hpd] at qd hpd0 ⊢
      clear hpd
      repeat (refine tq_quiet rfl ?_; go_big_quiet_step (fail); refine wpQuiet_nil ?_)
      refine tq_loud rfl ?_
      have z0 : Z3.cell? ⟨pd, 0, none⟩ = some (.int .i64 0) := qd.cell 0
      have z1 : Z3.cell? ⟨pd, 1, none⟩ = some (.int .i64 0) := qd.cell 1
      have zl := qd.lt
      have zf := qd.frozen0
      go_wp2_with fail
      have X_Z4 := ex_set (ex_set X_Z3 (p := ⟨pd, 0, none⟩) hpd0 (.int .i64 lo)) (p := ⟨pd, 1, none⟩) hpd0 (.int .i64 hh)
      replace qd := (qd.set_ 0 (.int .i64 lo)).set_ 1 (.int .i64 hh)
      simp only [List.setIfInBounds_toArray, List.set_cons_zero, List.set_cons_succ] at qd
      clear z0 z1 zl zf
      refine ⟨inEx X_Z4, ?_⟩
      generalize (Z3.setCell ⟨pd, 0, none⟩ (.int .i64 lo)).setCell ⟨pd, 1, none⟩ (.int .i64 hh) = Z4 at *
      repeat (refine tq_quiet rfl ?_; go_big_quiet_step (fail); refine wpQuiet_nil ?_)
      refine tq_done (r := [_]) rfl ?_
      clear p0_0 p0_1 p0_2 p0_l p1_0 p1_1 p1_2 p1_l
      clear r0 r1 s0 s1
      have BV_Z4 := ex_trans hbY X_Z4
      have B_Z4 := ex_trans B_Y X_Z4
      have m0 := p0.below X_Z4 p0.lt
      have m1 := p1.below X_Z4 p1.lt
      obtain ⟨br9, orr9, e9, _, r0, r1⟩ := IsRds.at_ (hrd.below BV_Z4) hli
      injection e9 with e9
      injection e9 with e90 e91 e92
      subst e90 e91
      clear e92
      obtain ⟨br9, orr9, e9, _, s0, s1⟩ := IsRds.at_ (hrd.below BV_Z4) hjl
      injection e9 with e9
      injection e9 with e90 e91 e92
      subst e90 e91
      clear e92
      rw [HA1.out] at r0
      rw [HV1.out] at r1
      rw [HA2.out] at s0
      rw [HV2.out] at s1
      have lbr9 : br < Z4.heap.size := by have := X_Z4.size; omega
      clear p0 p1
      have m0_0 : Z4.cell? ⟨w.heap.size, 0, none⟩ = some (.slice Ao s.offs.length co) := m0.cell 0
      have m0_1 : Z4.cell? ⟨w.heap.size, 1, none⟩ = some (.int .i64 s.err) := m0.cell 1
      have m0_2 : Z4.cell? ⟨w.heap.size, 2, none⟩ = some (.slice Ab s.baths.length cb) := m0.cell 2
      have m0_l := m0.lt
      have z0 : Z4.cell? ⟨pd, 0, none⟩ = some (.int .i64 lo) := qd.cell 0
      have z1 : Z4.cell? ⟨pd, 1, none⟩ = some (.int .i64 hh) := qd.cell 1
      have zl := qd.lt
      obtain ⟨e1, e2⟩ := HE.out
      rw [hxe.out] at e1 e2
      have d1 : decide (lo < v1 - v2 - 2 * s.err) = false := decide_eq_false (by omega)
      have d2 : decide (v1 - v2 + 2 * s.err < hh) = false := decide_eq_false (by omega)
      clear e1 e2
      go_wp2_with fail
      refine wp_region_ext_mix 12 [(false, 0), (false, 1), (false, 2), (false, 3), (false, 4), (false, 5), (false, 6), (false, 7), (false, 8), (false, 9), (false, 10), (false, 11)] (by kernel_rfl) (by kernel_rfl) (by intro d _ _ _ _ h; cases d <;> exact h) ?_
      repeat (refine mix_quiet rfl ?_; go_big_quiet_step (fail); refine wpQuiet_nil ?_)
      refine mix_nil rfl ?_
      go_wp2_with fail
      refine ⟨⟨i + 1, by omega, by omega, BV_Z4.drew, exFrame (by kernel_rfl)⟩, ?_⟩
      show rd.length - (intOf (.int .i64 ((i : Int) + 1))).toNat < rd.length - (intOf (.int .i64 (i : Int))).toNat
      simp [intOf]
      omega
    · go_wp2_with fail
      have hZ5 := ex_alloc (Below.refl Z1.heap.size Z1) (.cells #[.int .i64 0, .int .i64 0] 41)
      have qd : Blk (Z1.alloc (.cells #[.int .i64 0, .int .i64 0] 41)) Z1.heap.size 41 #[.int .i64 0, .int .i64 0] := Blk.new _ _ _
      replace hs1 := hs1.go hZ5
      have hpd0 : Y.heap.size ≤ Z1.heap.size := X_Z1.size
      obtain ⟨pd, hpd⟩ : ∃ pd, Z1.heap.size = pd := ⟨_, rfl⟩
      have X_Z5 := ex_trans X_Z1 hZ5
      refine ⟨inEx X_Z5, ?_⟩
      generalize Z1.alloc (.cells #[.int .i64 0, .int .i64 0] 41) = Z5 at *
      rw [hpd] at qd hpd0 ⊢
      clear hpd
      repeat (refine tq_quiet rfl ?_; go_big_quiet_step (fail); refine wpQuiet_nil ?_)
      refine tq_loud rfl ?_
      go_wp2_with fail
      refine (Diff_any x Ao1 Ab1 co1 cb1 rA1 rc1 Z5 hs1 HTX.out.sm a1 a2).mono ?_
      rintro e Z6 ⟨⟨lo, hh, ev, rfl, hd⟩, hZ6⟩
      replace qd := qd.below hZ6 qd.lt
      have X_Z6 := ex_trans X_Z5 hZ6
      obtain ⟨rfl, he⟩ := diff_ok HOX.out HCX.out hd.out hI hJ
      have HE := Lib.hid (HT2.out _ _ he)
      clear hd he hs1
      go_wp2_with fail
      refine ⟨inEx X_Z6, ?_⟩
      repeat (refine tq_quiet rfl ?_; go_big_quiet_step (fail); refine wpQuiet_nil ?_)
      refine tq_loud rfl ?_
      have z0 : Z6.cell? ⟨pd, 0, none⟩ = some (.int .i64 0) := qd.cell 0
      have z1 : Z6.cell? ⟨pd, 1, none⟩ = some (.int .i64 0) := qd.cell 1
      have zl := qd.lt
      have zf := qd.frozen0
      go_wp2_with fail
      have X_Z7 := ex_set (ex_set X_Z6 (p := ⟨pd, 0, none⟩) hpd0 (.int .i64 lo)) (p := ⟨pd, 1, none⟩) hpd0 (.int .i64 hh)
      replace qd := (qd.set_ 0 (.int .i64 lo)).set_ 1 (.int .i64 hh)
      simp only [List.setIfInBounds_toArray, List.set_cons_zero, List.set_cons_succ] at qd
      clear z0 z1 zl zf
      refine ⟨inEx X_Z7, ?_⟩
      generalize (Z6.setCell ⟨pd, 0, none⟩ (.int .i64 lo)).setCell ⟨pd, 1, none⟩ (.int .i64 hh) = Z7 at *
      repeat (refine tq_quiet rfl ?_; go_big_quiet_step (fail); refine wpQuiet_nil ?_)
      refine tq_done (r := [_]) rfl ?_
      clear p0_0 p0_1 p0_2 p0_l p1_0 p1_1 p1_2 p1_l
      clear r0 r1 s0 s1
      have BV_Z7 := ex_trans hbY X_Z7
      have B_Z7 := ex_trans B_Y X_Z7
      have m0 := p0.below X_Z7 p0.lt
      have m1 := p1.below X_Z7 p1.lt
      obtain ⟨br9, orr9, e9, _, r0, r1⟩ := IsRds.at_ (hrd.below BV_Z7) hli
      injection e9 with e9
      injection e9 with e90 e91 e92
      subst e90 e91
      clear e92
      obtain ⟨br9, orr9, e9, _, s0, s1⟩ := IsRds.at_ (hrd.below BV_Z7) hjl
      injection e9 with e9
      injection e9 with e90 e91 e92
      subst e90 e91
      clear e92
      rw [HA1.out] at r0
      rw [HV1.out] at r1
      rw [HA2.out] at s0
      rw [HV2.out] at s1
      have lbr9 : br < Z7.heap.size := by have := X_Z7.size; omega
      clear p0 p1
      have m0_0 : Z7.cell? ⟨w.heap.size, 0, none⟩ = some (.slice Ao s.offs.length co) := m0.cell 0
      have m0_1 : Z7.cell? ⟨w.heap.size, 1, none⟩ = some (.int .i64 s.err) := m0.cell 1
      have m0_2 : Z7.cell? ⟨w.heap.size, 2, none⟩ = some (.slice Ab s.baths.length cb) := m0.cell 2
      have m0_l := m0.lt
      have z0 : Z7.cell? ⟨pd, 0, none⟩ = some (.int .i64 lo) := qd.cell 0
      have z1 : Z7.cell? ⟨pd, 1, none⟩ = some (.int .i64 hh) := qd.cell 1
      have zl := qd.lt
      obtain ⟨e1, e2⟩ := HE.out
      rw [hxe.out] at e1 e2
      have d1 : decide (lo < v1 - v2 - 2 * s.err) = false := decide_eq_false (by omega)
      have d2 : decide (v1 - v2 + 2 * s.err < hh) = false := decide_eq_false (by omega)
      clear e1 e2
      go_wp2_with fail
      refine wp_region_ext_mix 12 [(false, 0), (false, 1), (false, 2), (false, 3), (false, 4), (false, 5), (false, 6), (false, 7), (false, 8), (false, 9), (false, 10), (false, 11)] (by kernel_rfl) (by kernel_rfl) (by intro d _ _ _ _ h; cases d <;> exact h) ?_
      repeat (refine mix_quiet rfl ?_; go_big_quiet_step (fail); refine wpQuiet_nil ?_)
      refine mix_nil rfl ?_
      go_wp2_with fail
      refine ⟨⟨i + 1, by omega, by omega, BV_Z7.drew, exFrame (by kernel_rfl)⟩, ?_⟩
      show rd.length - (intOf (.int .i64 ((i : Int) + 1))).toNat < rd.length - (intOf (.int .i64 (i : Int))).toNat
      simp [intOf]
      omega
  · go_wp2_with fail
    have hZ8 := ex_alloc (Below.refl D.heap.size D) (.cells #[.int .i64 0, .int .i64 0] 41)
    have qd : Blk (D.alloc (.cells #[.int .i64 0, .int .i64 0] 41)) D.heap.size 41 #[.int .i64 0, .int .i64 0] := Blk.new _ _ _
    have hpd0 : Y.heap.size ≤ D.heap.size := X_D.size
    obtain ⟨pd, hpd⟩ : ∃ pd, D.heap.size = pd := ⟨_, rfl⟩
    have X_Z8 := ex_trans X_D hZ8
    refine ⟨inEx X_Z8, ?_⟩
    generalize D.alloc (.cells #[.int .i64 0, .int .i64 0] 41) = Z8 at *
    rw [hpd] at qd hpd0 ⊢
    clear hpd
    repeat (refine tq_quiet rfl ?_; go_big_quiet_step (fail); refine wpQuiet_nil ?_)
    refine tq_loud rfl ?_
    go_wp2_with fail
    refine (Series_law x Ao (some ⟨bb, ob, none⟩) co cbx rAx rcx Z8 (hsx.go (ex_trans hbY X_Z8)) HTX.out).mono ?_
    rintro e Z9 ⟨⟨Ao1, Ab1, co1, cb1, rA1, rc1, rfl, hs1⟩, hZ9⟩
    replace qd := qd.below hZ9 qd.lt
    have X_Z9 := ex_trans X_Z8 hZ9
    go_wp2_with fail
    refine ⟨inEx X_Z9, ?_⟩
    repeat (refine tq_quiet rfl ?_; go_big_quiet_step (fail); refine wpQuiet_nil ?_)
    refine tq_loud rfl ?_
    go_wp2_with fail
    refine (Diff_any x Ao1 Ab1 co1 cb1 rA1 rc1 Z9 hs1 HTX.out.sm a1 a2).mono ?_
    rintro e Z10 ⟨⟨lo, hh, ev, rfl, hd⟩, hZ10⟩
    replace qd := qd.below hZ10 qd.lt
    have X_Z10 := ex_trans X_Z9 hZ10
    obtain ⟨rfl, he⟩ := diff_ok HOX.out HCX.out hd.out hI hJ
    have HE := Lib.hid (HT2.out _ _ he)
    clear hd he hs1
    go_wp2_with fail
    refine ⟨inEx X_Z10, ?_⟩
    repeat (refine tq_quiet rfl ?_; go_big_quiet_step (fail); refine wpQuiet_nil ?_)
    refine tq_loud rfl ?_
    have z0 : Z10.cell? ⟨pd, 0, none⟩ = some (.int .i64 0) := qd.cell 0
    have z1 : Z10.cell? ⟨pd, 1, none⟩ = some (.int .i64 0) := qd.cell 1
    have zl := qd.lt
    have zf := qd.frozen0
    go_wp2_with fail
    have X_Z11 := ex_set (ex_set X_Z10 (p := ⟨pd, 0, none⟩) hpd0 (.int .i64 lo)) (p := ⟨pd, 1, none⟩) hpd0 (.int .i64 hh)
    replace qd := (qd.set_ 0 (.int .i64 lo)).set_ 1 (.int .i64 hh)
    simp only [List.setIfInBounds_toArray, List.set_cons_zero, List.set_cons_succ] at qd
    clear z0 z1 zl zf
    refine ⟨inEx X_Z11, ?_⟩
    generalize (Z10.setCell ⟨pd, 0, none⟩ (.int .i64 lo)).setCell ⟨pd, 1, none⟩ (.int .i64 hh) = Z11 at *
    repeat (refine tq_quiet rfl ?_; go_big_quiet_step (fail); refine wpQuiet_nil ?_)
    refine tq_done (r := [_]) rfl ?_
    clear p0_0 p0_1 p0_2 p0_l p1_0 p1_1 p1_2 p1_l
    clear r0 r1 s0 s1
    have BV_Z11 := ex_trans hbY X_Z11
    have B_Z11 := ex_trans B_Y X_Z11
    have m0 := p0.below X_Z11 p0.lt
    have m1 := p1.below X_Z11 p1.lt
    obtain ⟨br9, orr9, e9, _, r0, r1⟩ := IsRds.at_ (hrd.below BV_Z11) hli
    injection e9 with e9
    injection e9 with e90 e91 e92
    subst e90 e91
    clear e92
    obtain ⟨br9, orr9, e9, _, s0, s1⟩ := IsRds.at_ (hrd.below BV_Z11) hjl
    injection e9 with e9
    injection e9 with e90 e91 e92
    subst e90 e91
    clear e92
    rw [HA1.out] at r0
    rw [HV1.out] at r1
    rw [HA2.out] at s0
    rw [HV2.out] at s1
    have lbr9 : br < Z11.heap.size := by have := X_Z11.size; omega
    clear p0 p1
    have m0_0 : Z11.cell? ⟨w.heap.size, 0, none⟩ = some (.slice Ao s.offs.length co) := m0.cell 0
    have m0_1 : Z11.cell? ⟨w.heap.size, 1, none⟩ = some (.int .i64 s.err) := m0.cell 1
    have m0_2 : Z11.cell? ⟨w.heap.size, 2, none⟩ = some (.slice Ab s.baths.length cb) := m0.cell 2
    have m0_l := m0.lt
    have z0 : Z11.cell? ⟨pd, 0, none⟩ = some (.int .i64 lo) := qd.cell 0
    have z1 : Z11.cell? ⟨pd, 1, none⟩ = some (.int .i64 hh) := qd.cell 1
    have zl := qd.lt
    obtain ⟨e1, e2⟩ := HE.out
    rw [hxe.out] at e1 e2
    have d1 : decide (lo < v1 - v2 - 2 * s.err) = false := decide_eq_false (by omega)
    have d2 : decide (v1 - v2 + 2 * s.err < hh) = false := decide_eq_false (by omega)
    clear e1 e2
    go_wp2_with fail
    refine wp_region_ext_mix 12 [(false, 0), (false, 1), (false, 2), (false, 3), (false, 4), (false, 5), (false, 6), (false, 7), (false, 8), (false, 9), (false, 10), (false, 11)] (by kernel_rfl) (by kernel_rfl) (by intro d _ _ _ _ h; cases d <;> exact h) ?_
    repeat (refine mix_quiet rfl ?_; go_big_quiet_step (fail); refine wpQuiet_nil ?_)
    refine mix_nil rfl ?_
    go_wp2_with fail
    refine ⟨⟨i + 1, by omega, by omega, BV_Z11.drew, exFrame (by kernel_rfl)⟩, ?_⟩
    show rd.length - (intOf (.int .i64 ((i : Int) + 1))).toNat < rd.length - (intOf (.int .i64 (i : Int))).toNat
    simp [intOf]
    omega
end Go.Proofs.Ytnplefhigbkbbaa
end

section
namespace Go.Proofs.Ytnplefhigbkbbaa
open Go.RowKit
attribute [local go_sem] Ex.cell? Ex.frozen? Gx.cell?

/-- a series in which an instrument has just one offset. -/
def withS (s : Se) (i : Nat) (n : Int) : Se := ⟨s.offs.set i ⟨n, n⟩, s.err, s.baths⟩
section
variable {s : Se} {i : Nat} {n : Int}
theorem withS_place : placeL (withS s i n) = placeL s := by
  have h : ∀ k, placeB (withS s i n) k = placeB s k := fun k => by
    induction k with
    | zero => rfl
    | succ k ih => rw [placeB, placeB, ih]; rfl
  exact h _
theorem withS_tru {o h : Nat → Int} (hi : i < s.offs.length) (hn : (gR s.offs i).lo ≤ n ∧ n ≤ (gR s.offs i).hi) : Tru (withS s i n) (fun _ => false) o h ↔ Tru s (fun _ => false) o h ∧ o i = n := by
  have hp : ∀ k, pAt (withS s i n) k = pAt s k := fun k => by unfold pAt; rw [withS_place]
  constructor
  · intro ht
    have h0 := ht.offs i (by show i < (s.offs.set i ⟨n, n⟩).length; rw [List.length_set]; exact hi)
    have h1 : (gR (withS s i n).offs i) = ⟨n, n⟩ := by
      show gR (s.offs.set i ⟨n, n⟩) i = _
      rw [gR_set hi, if_pos rfl]
    rw [h1] at h0
    have hin : o i = n := by have h2 := h0.1; have h3 := h0.2; simp only at h2 h3; omega
    refine ⟨⟨fun m hm => ?_, ht.heats, fun k hk hf => ?_⟩, hin⟩
    · by_cases e : m = i
      · subst e; omega
      · have := ht.offs m (by show m < (s.offs.set i ⟨n, n⟩).length; rw [List.length_set]; exact hm)
        have h2 : gR (withS s i n).offs m = gR s.offs m := by
          show gR (s.offs.set i ⟨n, n⟩) m = _
          rw [gR_set hi, if_neg e]
        rwa [h2] at this
    · have := ht.reads k (by rw [withS_place]; exact hk) hf
      rw [hp] at this
      exact this
  · rintro ⟨ht, hin⟩
    refine ⟨fun m hm => ?_, ht.heats, fun k hk hf => ?_⟩
    · have hm : m < s.offs.length := by
        have : m < (s.offs.set i ⟨n, n⟩).length := hm
        rwa [List.length_set] at this
      show (gR (s.offs.set i ⟨n, n⟩) m).lo ≤ o m ∧ o m ≤ (gR (s.offs.set i ⟨n, n⟩) m).hi
      rw [gR_set hi]
      by_cases e : m = i
      · subst e; rw [if_pos rfl]; show n ≤ o m ∧ o m ≤ n; omega
      · rw [if_neg e]; exact ht.offs m hm
    · rw [hp]
      exact ht.reads k (by rw [withS_place] at hk; exact hk) hf
theorem withS_ok (hok : SeOk s) (hi : i < s.offs.length) (hn : (gR s.offs i).lo ≤ n ∧ n ≤ (gR s.offs i).hi) : SeOk (withS s i n) := by
  have hl : (withS s i n).offs.length = s.offs.length := List.length_set
  have hb := hok.offs i hi
  refine ⟨by rw [hl]; exact hok.no, hok.nb, hok.err, fun k hk => ?_, hok.heats, ?_, hok.once, hok.val⟩
  · rw [hl] at hk
    show -100 ≤ (gR (s.offs.set i ⟨n, n⟩) k).lo ∧ (gR (s.offs.set i ⟨n, n⟩) k).lo ≤ (gR (s.offs.set i ⟨n, n⟩) k).hi ∧ (gR (s.offs.set i ⟨n, n⟩) k).hi ≤ 100
    rw [gR_set hi]
    split
    · show -100 ≤ n ∧ n ≤ n ∧ n ≤ 100; omega
    · exact hok.offs k hk
  · rw [hl]; exact hok.inst
end

theorem cell_far {w : World} {p : Addr} {v : Value} {b o : Nat} (h : b ≠ p.block) : (w.setCell p v).cell? ⟨b, o, none⟩ = w.cell? ⟨b, o, none⟩ := by simp [World.cell?, Below.heap_setCell w p v b h]
set_option maxRecDepth 100000 in
set_option maxHeartbeats 6400000 in
theorem with_ref (s : Se) (Ao Ab : Option Addr) (co cb : Nat) (rA : Nat → Option Addr) (rc : Nat → Nat) (w : World) (hs : SeIn w w.heap.size s Ao Ab rA rc) (i : Nat) (n : Int) (hi : i < s.offs.length) (hsm : s.offs.length ≤ 1000) :
    Calls Try.prog 75 #[.agg #[.slice Ao s.offs.length co, .int .i64 s.err, .slice Ab s.baths.length cb], .int .i64 (i : Int), .int .i64 n] w fun e w' => (∃ A c, e = .returned (.agg #[.slice A s.offs.length c, .int .i64 s.err, .slice Ab s.baths.length cb]) ∧ SeIn w' w'.heap.size (withS s i n) A Ab rA rc) ∧ Below w.heap.size w w' := by
  obtain ⟨i0, hi0, hz0, hz1, hz2⟩ := info_parts rrange_info
  have HI := Lib.hid hi0
  clear hi0
  have hb1 := ex_alloc (ex_alloc (ex_alloc (Below.refl w.heap.size w) (.cells #[.slice Ao s.offs.length co, .int .i64 s.err, .slice Ab s.baths.length cb] 25)) (.cells #[.slice none 0 0, .int .i64 0, .slice none 0 0] 25)) (.cells #[] 46)
  have q0 : Blk (((w.alloc (.cells #[.slice Ao s.offs.length co, .int .i64 s.err, .slice Ab s.baths.length cb] 25)).alloc (.cells #[.slice none 0 0, .int .i64 0, .slice none 0 0] 25)).alloc (.cells #[] 46)) w.heap.size 25 #[.slice Ao s.offs.length co, .int .i64 s.err, .slice Ab s.baths.length cb] := ((Blk.new _ _ _).alloc _).alloc _
  have q1 : Blk (((w.alloc (.cells #[.slice Ao s.offs.length co, .int .i64 s.err, .slice Ab s.baths.length cb] 25)).alloc (.cells #[.slice none 0 0, .int .i64 0, .slice none 0 0] 25)).alloc (.cells #[] 46)) (w.heap.size + 1) 25 #[.slice none 0 0, .int .i64 0, .slice none 0 0] := (Blk.new' _ _ _ (by simp)).alloc _
  have qe : Blk (((w.alloc (.cells #[.slice Ao s.offs.length co, .int .i64 s.err, .slice Ab s.baths.length cb] 25)).alloc (.cells #[.slice none 0 0, .int .i64 0, .slice none 0 0] 25)).alloc (.cells #[] 46)) (w.heap.size + 1 + 1) 46 #[] := Blk.new' _ _ _ (by simp)
  have hA2 := (hs.offs.below hb1).up hb1.size
  go_enter Try.func75, Try.ntmps75
  go_wp2_with (refine pause_at 10 rfl ?_)
  refine Paused.mk ?_
  refine wpList_append_list (α := Rg) (f := cR) (F := fR) (sz := 2) (fun _ => rfl) cR_at cR_one rfl _ _ _ rfl (w.heap.size + 1 + 1) 46 i0 _ 16 Try.underlying22 HI.out hz0 hz1 hz2 rfl (by omega) (some ⟨w.heap.size + 1 + 1, 0, none⟩) 0 [] rfl (own_empty qe (Nat.le_refl _)) Ao co s.offs rfl hA2 (by simp; unfold maxLen; omega) (by simp; omega) (by simp) (w.heap.size + 1 + 1 + 1) (by simp) ?_
  intro L B k1 v1 HL o1 gr1 n1
  have hL : L = s.offs := HL.out
  clear HL
  subst hL
  have hqb : ∀ j, (Value.slice (some ⟨w.heap.size + 1 + 1, 0, none⟩) 0 0).ownBlock = some j → w.heap.size + 1 + 1 = j := fun j hj => by simpa [Value.ownBlock] using hj
  have B1 : Below w.heap.size w v1 := hb1.grown gr1 hb1.size (fun j hj => by have := hqb j hj; omega)
  have p0 := q0.grown gr1 (fun e => by have := hqb _ e.symm; omega)
  have p1 := q1.grown gr1 (fun e => by have := hqb _ e.symm; omega)
  obtain ⟨g, c, hv, hg, hgl, c0, c1, hf⟩ := rgs_cell o1 (k := i) hi
  injection hv with hv1 _ hv2
  subst hv1 hv2
  have a0 : v1.cell? ⟨w.heap.size, 0, none⟩ = some (.slice Ao s.offs.length co) := p0.cell 0
  have a1 : v1.cell? ⟨w.heap.size, 1, none⟩ = some (.int .i64 s.err) := p0.cell 1
  have a2 : v1.cell? ⟨w.heap.size, 2, none⟩ = some (.slice Ab s.baths.length cb) := p0.cell 2
  have f0 := p0.frozen0
  have f1 := p1.frozen0
  have l0 := p0.lt
  have l1 := p1.lt
  have hgn : g ≠ w.heap.size ∧ g ≠ w.heap.size + 1 ∧ w.heap.size ≤ g := by omega
  have hg1 : w.heap.size ≠ g := by omega
  have hg2 : w.heap.size + 1 ≠ g := by omega
  have hg3 : g ≠ w.heap.size := by omega
  have hg4 : g ≠ w.heap.size + 1 := by omega
  -- the worlds to come
  have o2 := own_far o1 (p := ⟨w.heap.size, 0, none⟩) (by show w.heap.size < w.heap.size + 1 + 1; omega) (.slice (some ⟨g, 0, none⟩) s.offs.length k1)
  have p02 := p0.set_ 0 (.slice (some ⟨g, 0, none⟩) s.offs.length k1)
  have p12 := p1.far (p := ⟨w.heap.size, 0, none⟩) (by show w.heap.size + 1 ≠ w.heap.size; omega) (.slice (some ⟨g, 0, none⟩) s.offs.length k1)
  have B2 := ex_set B1 (p := ⟨w.heap.size, 0, none⟩) (Nat.le_refl _) (.slice (some ⟨g, 0, none⟩) s.offs.length k1)
  simp only [List.setIfInBounds_toArray, List.set_cons_zero] at p02
  go_wp2_with (refine pause_at 12 rfl ?_)
  refine Paused.mk ?_
  have hs2 : (v1.setCell ⟨w.heap.size, 0, none⟩ (.slice (some ⟨g, 0, none⟩) s.offs.length k1)).heap.size = v1.heap.size := by simp
  have d0 := (cell_far (w := v1) (p := ⟨w.heap.size, 0, none⟩) (v := .slice (some ⟨g, 0, none⟩) s.offs.length k1) (b := g) (o := i * 2) hg3).trans c0
  have d1 := (cell_far (w := v1) (p := ⟨w.heap.size, 0, none⟩) (v := .slice (some ⟨g, 0, none⟩) s.offs.length k1) (b := g) (o := i * 2 + 1) hg3).trans c1
  have df : ∀ j, (v1.setCell ⟨w.heap.size, 0, none⟩ (.slice (some ⟨g, 0, none⟩) s.offs.length k1)).frozen? ⟨g, j, none⟩ = false := fun j => by
    obtain ⟨_, _, e1, _, _, _, _, hf⟩ := rgs_cell (k := i) (l := s.offs) o2 hi
    injection e1 with e1
    injection e1 with e1
    injection e1 with e1
    subst e1
    exact hf j
  generalize v1.setCell ⟨w.heap.size, 0, none⟩ (.slice (some ⟨g, 0, none⟩) s.offs.length k1) = V2 at *
  rw [← hs2] at hgl l0 l1
  have o2' : V2.ownsRow (w.heap.size + 1 + 1) 46 2 (.slice (some ⟨g, 0, none⟩) s.offs.length k1) s.offs.length (s.offs.flatMap cR) := o2
  have o3 := rgs_set o2' (show (Value.slice (some ⟨g, 0, none⟩) s.offs.length k1).ownBlock = some g from rfl) (k := i) hi ⟨n, n⟩
  have p03 := (p02.far (p := ⟨g, i * 2, none⟩) hg1 (.int .i64 n)).far (p := ⟨g, i * 2 + 1, none⟩) hg1 (.int .i64 n)
  have p13 := (p12.far (p := ⟨g, i * 2, none⟩) hg2 (.int .i64 n)).far (p := ⟨g, i * 2 + 1, none⟩) hg2 (.int .i64 n)
  have B3 := ex_set (ex_set B2 (p := ⟨g, i * 2, none⟩) hgn.2.2 (.int .i64 n)) (p := ⟨g, i * 2 + 1, none⟩) hgn.2.2 (.int .i64 n)
  have b0 : V2.cell? ⟨w.heap.size, 0, none⟩ = some (.slice (some ⟨g, 0, none⟩) s.offs.length k1) := p02.cell 0
  have b1 : V2.cell? ⟨w.heap.size, 1, none⟩ = some (.int .i64 s.err) := p02.cell 1
  have b2 : V2.cell? ⟨w.heap.size, 2, none⟩ = some (.slice Ab s.baths.length cb) := p02.cell 2
  have e0 : V2.cell? ⟨w.heap.size + 1, 0, none⟩ = some (.slice none 0 0) := p12.cell 0
  have e1 : V2.cell? ⟨w.heap.size + 1, 1, none⟩ = some (.int .i64 0) := p12.cell 1
  have e2 : V2.cell? ⟨w.heap.size + 1, 2, none⟩ = some (.slice none 0 0) := p12.cell 2
  have ef := p12.frozen0
  have hw1 : w.heap.size ≤ w.heap.size + 1 := by omega
  have hlw : w.heap.size + 1 < w.heap.size + 1 + 1 := by omega
  have p14 := ((p13.set_ 0 (.slice (some ⟨g, 0, none⟩) s.offs.length k1)).set_ 1 (.int .i64 s.err)).set_ 2 (.slice Ab s.baths.length cb)
  have B4 := ex_set (ex_set (ex_set B3 (p := ⟨w.heap.size + 1, 0, none⟩) hw1 (.slice (some ⟨g, 0, none⟩) s.offs.length k1)) (p := ⟨w.heap.size + 1, 1, none⟩) hw1 (.int .i64 s.err)) (p := ⟨w.heap.size + 1, 2, none⟩) hw1 (.slice Ab s.baths.length cb)
  have o4 := own_far (own_far (own_far o3 (p := ⟨w.heap.size + 1, 0, none⟩) hlw (.slice (some ⟨g, 0, none⟩) s.offs.length k1)) (p := ⟨w.heap.size + 1, 1, none⟩) hlw (.int .i64 s.err)) (p := ⟨w.heap.size + 1, 2, none⟩) hlw (.slice Ab s.baths.length cb)
  simp only [List.setIfInBounds_toArray, List.set_cons_zero, List.set_cons_succ] at p14
  obtain ⟨A9, c9, hv9, _, _, hsl⟩ := own_R o4
  rw [List.length_set] at hv9
  injection hv9 with hv91 _ hv92
  subst hv91 hv92
  have hbt := (hs.baths.below B4).up B4.size
  have hrd := fun b hb => ((hs.reads b hb).below B4).up B4.size
  have HSL : Hid (SlAt _ _ 2 (some ⟨g, 0, none⟩) (s.offs.set i ⟨n, n⟩).length (fR (s.offs.set i ⟨n, n⟩))) := Lib.hid hsl
  clear hsl o1 o2 o2' o3 o4 p02 p12 p03 p13 p0 p1 q0 q1 qe gr1 n1 a0 a1 a2 c0 c1 hs2
  go_wp2
  refine bodyPost_ret (results_cell_row rfl _ _ (w.heap.size + 1) 25 #[.slice (some ⟨g, 0, none⟩) s.offs.length k1, .int .i64 s.err, .slice Ab s.baths.length cb] (0, 0) _ rfl p14 rfl rfl rfl) rfl ?_
  have hsl := HSL.out
  exact ⟨⟨_, ⟨_, rfl⟩, ⟨hsl, hbt, hrd⟩⟩, B4⟩
end Go.Proofs.Ytnplefhigbkbbaa
end

section
namespace Go.Proofs.Ytnplefhigbkbbaa
open Go.RowKit
attribute [local go_sem] Ex.cell? Ex.frozen?

/-- a truth in which the instrument has just that offset. -/
def OffHit (s : Se) (n : Nat) (v : Int) : Prop := ∃ o h, Tru s (fun _ => false) o h ∧ o n = v
/-- a truth in which the bath has just that heat. -/
def HeatHit (s : Se) (b : Nat) (v : Int) : Prop := ∃ o h, Tru s (fun _ => false) o h ∧ h b = v
theorem off_in {s : Se} {n : Nat} {v : Int} (hn : n < s.offs.length) (h : OffHit s n v) : (gR s.offs n).lo ≤ v ∧ v ≤ (gR s.offs n).hi := by
  obtain ⟨o, h, t, e⟩ := h
  have := t.offs n hn
  omega
theorem with_can {s : Se} {n : Nat} {v : Int} (hi : n < s.offs.length) (hn : (gR s.offs n).lo ≤ v ∧ v ≤ (gR s.offs n).hi) : Can (withS s n v) ↔ OffHit s n v :=
  ⟨fun ⟨o, h, t⟩ => ⟨o, h, ((withS_tru hi hn).1 t).1, ((withS_tru hi hn).1 t).2⟩, fun ⟨o, h, t, e⟩ => ⟨o, h, (withS_tru hi hn).2 ⟨t, e⟩⟩⟩

set_option maxRecDepth 100000 in
set_option maxHeartbeats 6400000 in
theorem fixed_law (s : Se) (Ao Ab : Option Addr) (co cb : Nat) (rA : Nat → Option Addr) (rc : Nat → Nat) (w : World) (hs : SeIn w w.heap.size s Ao Ab rA rc) (ht : Thn s) (hok : SeOk s) (n : Nat) (hn : n < s.offs.length) (v : Int) (hv : -100000 ≤ v ∧ v ≤ 100000) :
    Calls Try.prog 50 #[.agg #[.slice Ao s.offs.length co, .int .i64 s.err, .slice Ab s.baths.length cb], .int .i64 (n : Int), .int .i64 v] w fun e w' => e = .returned (.tuple #[.bool (truB (OffHit s n v)), .bool true]) ∧ Below w.heap.size w w' := by
  have HT := Lib.hid ht
  have HOK := Lib.hid hok
  have hno := ht.no
  have hnb := ht.nb
  clear ht hok
  have hb1 := ex_alloc (Below.refl w.heap.size w) (.cells #[.slice Ao s.offs.length co, .int .i64 s.err, .slice Ab s.baths.length cb] 25)
  have q1 : Blk (w.alloc (.cells #[.slice Ao s.offs.length co, .int .i64 s.err, .slice Ab s.baths.length cb] 25)) w.heap.size 25 #[.slice Ao s.offs.length co, .int .i64 s.err, .slice Ab s.baths.length cb] := Blk.new _ _ _
  obtain ⟨V, hV⟩ : ∃ V, w.alloc (.cells #[.slice Ao s.offs.length co, .int .i64 s.err, .slice Ab s.baths.length cb] 25) = V := ⟨_, rfl⟩
  rw [hV] at hb1 q1
  obtain ⟨br, orr, rfl, hbr, r0, r1⟩ := IsRgs.at_ (hs.offs.below hb1) hn
  have lbr : br < V.heap.size := by have := hb1.size; omega
  have l1 := q1.lt
  have a0 : V.cell? ⟨w.heap.size, 0, none⟩ = some (.slice (some ⟨br, orr, none⟩) s.offs.length co) := q1.cell 0
  have a1 : V.cell? ⟨w.heap.size, 1, none⟩ = some (.int .i64 s.err) := q1.cell 1
  have a2 : V.cell? ⟨w.heap.size, 2, none⟩ = some (.slice Ab s.baths.length cb) := q1.cell 2
  obtain ⟨lo, hlo⟩ : ∃ lo, (gR s.offs n).lo = lo := ⟨_, rfl⟩
  obtain ⟨hi, hhi⟩ : ∃ hi, (gR s.offs n).hi = hi := ⟨_, rfl⟩
  have HLO := Lib.hid hlo
  have HHI := Lib.hid hhi
  rw [hlo] at r0
  rw [hhi] at r1
  clear hlo hhi
  have HV := Lib.hid hV
  clear hV
  by_cases h1 : v < lo
  · have HF : Hid (truB (OffHit s n v) = false) := Lib.hid (truB_false (fun h => by have := (off_in hn h).1; rw [HLO.out] at this; omega))
    have d1 : decide (v < lo) = true := decide_eq_true h1
    rw [← HV.out] at a0 a1 a2 r0 r1 lbr l1 hb1
    clear HV q1
    go_enter Try.func50, Try.ntmps50
    go_wp2
    go_ret2
    exact ⟨by rw [HF.out]; rfl, hb1⟩
  have d1 : decide (v < lo) = false := decide_eq_false h1
  by_cases h2 : hi < v
  · have HF : Hid (truB (OffHit s n v) = false) := Lib.hid (truB_false (fun h => by have := (off_in hn h).2; rw [HHI.out] at this; omega))
    have d2 : decide (hi < v) = true := decide_eq_true h2
    rw [← HV.out] at a0 a1 a2 r0 r1 lbr l1 hb1
    clear HV q1
    go_enter Try.func50, Try.ntmps50
    go_wp2
    go_ret2
    exact ⟨by rw [HF.out]; rfl, hb1⟩
  have d2 : decide (hi < v) = false := decide_eq_false h2
  have HIN : Hid ((gR s.offs n).lo ≤ v ∧ v ≤ (gR s.offs n).hi) := Lib.hid (by rw [HLO.out, HHI.out]; omega)
  have HC := Lib.hid (with_can hn HIN.out)
  have HOW := Lib.hid (withS_ok HOK.out hn HIN.out)
  have HTW : Hid (Thn (withS s n v)) := Lib.hid ⟨by show (s.offs.set n ⟨v, v⟩).length ≤ 9; rw [List.length_set]; exact HT.out.no, HT.out.nb, HT.out.nr⟩
  rw [← HV.out] at a0 a1 a2 r0 r1 lbr l1 hb1 q1
  go_enter Try.func50, Try.ntmps50
  go_wp2_with fail
  rw [HV.out] at a0 a1 a2 r0 r1 lbr l1 hb1 q1 ⊢
  clear HV
  refine (with_ref s (some ⟨br, orr, none⟩) Ab co cb rA rc V (hs.go hb1) n v hn (by omega)).mono ?_
  rintro e V1 ⟨⟨A, c, rfl, hsw⟩, hV1⟩
  have B1 := ex_trans hb1 hV1
  go_wp2_with fail
  have hcx := Series_law (withS s n v) A Ab c cb rA rc V1 hsw HTW.out
  rw [show (withS s n v).offs.length = s.offs.length from List.length_set, show (withS s n v).baths.length = s.baths.length from rfl, show (withS s n v).err = s.err from rfl] at hcx
  refine hcx.mono ?_
  clear hcx
  rintro e V2 ⟨⟨Ao1, Ab1, co1, cb1, rA1, rc1, rfl, hs1⟩, hV2⟩
  have B2 := ex_trans B1 hV2
  go_wp2_with fail
  have hcx := Offsets_any (withS s n v) Ao1 Ab1 co1 cb1 rA1 rc1 V2 hs1 HTW.out.sm
  rw [show (withS s n v).offs.length = s.offs.length from List.length_set, show (withS s n v).baths.length = s.baths.length from rfl, show (withS s n v).err = s.err from rfl] at hcx
  refine hcx.mono ?_
  clear hcx
  rintro e V3 ⟨⟨Ax, cx, l, ev, rfl, hr, _⟩, hV3⟩
  have B3 := ex_trans B2 hV3
  rcases rng_ok hr.out HOW.out with ⟨hc, rfl, _⟩ | ⟨hc, rfl, _⟩
  · have HF : Hid (truB (OffHit s n v) = false) := Lib.hid (truB_false (fun h => hc (HC.out.2 h)))
    clear hr hc
    go_wp2
    go_ret2
    exact ⟨by rw [HF.out]; rfl, B3⟩
  · have HF : Hid (truB (OffHit s n v) = true) := Lib.hid (truB_iff.2 (HC.out.1 hc))
    clear hr hc
    go_wp2
    go_ret2
    exact ⟨by rw [HF.out]; rfl, B3⟩
end Go.Proofs.Ytnplefhigbkbbaa
end

section
namespace Go.Proofs.Ytnplefhigbkbbaa
open Go.RowKit
attribute [local go_sem] Ex.cell? Ex.frozen?

/-- the ends, and what lies just beyond them. -/
def endV (lo hi : Int) : Nat → Int
  | 0 => lo
  | 1 => hi
  | 2 => lo - 1
  | _ => hi + 1
theorem ends_hit {Z : Int → Prop} {lo hi : Int} (h : EndsOf Z lo hi) {i : Nat} (hi4 : i < 4) : Z (endV lo hi i) ↔ i < 2 := by
  obtain ⟨h1, h2, h3⟩ := h
  match i, hi4 with
  | 0, _ => exact ⟨fun _ => by omega, fun _ => h1⟩
  | 1, _ => exact ⟨fun _ => by omega, fun _ => h2⟩
  | 2, _ => exact ⟨fun h => by have h4 : lo ≤ lo - 1 ∧ lo - 1 ≤ hi := h3 _ h; omega, fun h => by omega⟩
  | 3, _ => exact ⟨fun h => by have h4 : lo ≤ hi + 1 ∧ hi + 1 ≤ hi := h3 _ h; omega, fun h => by omega⟩
theorem truB_dec {p : Prop} {i : Nat} (h : p ↔ i < 2) : truB p = decide (i < 2) := by
  by_cases hi : i < 2
  · rw [truB_iff.2 (h.2 hi), decide_eq_true hi]
  · rw [truB_false (fun k => hi (h.1 k)), decide_eq_false hi]
theorem rng_can {s : Se} {n : Nat} {Z : Nat → Int → Prop} {l : List Rg} {ev : Int} (h : RngV s n Z l ev) (hok : SeOk s) (hc : Can s) : ev = 0 ∧ l.length = n ∧ ∀ k, k < n → EndsOf (Z k) (gR l k).lo (gR l k).hi := by
  rcases rng_ok h hok with ⟨h1, _⟩ | ⟨_, h1, h2, h3⟩
  · exact absurd hc h1
  · exact ⟨h1, h2, h3⟩
def onB (n lo hi : Int) : Bool := decide (lo ≤ n ∧ n ≤ hi)

set_option maxRecDepth 100000 in
theorem on_law (n lo hi : Int) (w : World) :
    Calls Try.prog 51 #[.int .i64 n, .agg #[.int .i64 lo, .int .i64 hi]] w fun e w' => e = .returned (.bool (onB n lo hi)) ∧ Below w.heap.size w w' := by
  have hb := ex_alloc (Below.refl w.heap.size w) (.cells #[.int .i64 lo, .int .i64 hi] 41)
  go_enter Try.func51, Try.ntmps51
  by_cases h1 : lo ≤ n
  · by_cases h2 : n ≤ hi
    · have e : onB n lo hi = true := decide_eq_true ⟨h1, h2⟩
      go_wp2
      go_ret
      first | exact ⟨ret_bool e.symm, hb⟩ | exact ⟨rfl, hb⟩
    · have e : onB n lo hi = false := decide_eq_false (fun h => h2 h.2)
      go_wp2
      go_ret
      first | exact ⟨ret_bool e.symm, hb⟩ | exact ⟨rfl, hb⟩
  · have e : onB n lo hi = false := decide_eq_false (fun h => h1 h.1)
    go_wp2
    go_ret
    first | exact ⟨ret_bool e.symm, hb⟩ | exact ⟨rfl, hb⟩

/-- a series in which a bath has just one heat. -/
def heatS (s : Se) (b : Nat) (n : Int) : Se := ⟨s.offs, s.err, s.baths.set b ⟨⟨n, n⟩, (gBt s.baths b).reads⟩⟩
section
variable {s : Se} {b : Nat} {n : Int}
theorem heatS_len : (heatS s b n).baths.length = s.baths.length := List.length_set
theorem heatS_at (hb : b < s.baths.length) {k : Nat} : gBt (heatS s b n).baths k = if k = b then ⟨⟨n, n⟩, (gBt s.baths b).reads⟩ else gBt s.baths k := by
  show gBt (s.baths.set b ⟨⟨n, n⟩, (gBt s.baths b).reads⟩) k = _
  unfold gBt
  by_cases e : k = b
  · subst e; simp [hb]
  · have e' : ¬ b = k := fun h => e h.symm
    simp [List.getElem?_set, e, e']
theorem heatS_reads (hb : b < s.baths.length) {k : Nat} : (gBt (heatS s b n).baths k).reads = (gBt s.baths k).reads := by
  rw [heatS_at hb]
  split
  · next e => rw [e]
  · rfl
theorem heatS_tru {o h : Nat → Int} (hb : b < s.baths.length) (hn : (gBt s.baths b).heat.lo ≤ n ∧ n ≤ (gBt s.baths b).heat.hi) : Tru (heatS s b n) (fun _ => false) o h ↔ Tru s (fun _ => false) o h ∧ h b = n := by
  constructor
  · intro t
    have h0 := t.heats b (by rw [heatS_len]; exact hb)
    rw [heatS_at hb, if_pos rfl] at h0
    have hbn : h b = n := by have h2 := h0.1; have h3 := h0.2; simp only at h2 h3; omega
    refine ⟨Tru.of_reads t.offs (fun k hk => ?_) (fun k hk i hi => ?_), hbn⟩
    · have := t.heats k (by rw [heatS_len]; exact hk)
      rw [heatS_at hb] at this
      by_cases e : k = b
      · subst e; omega
      · rwa [if_neg e] at this
    · have := t.read (fun _ => rfl) (b := k) (i := i) (by rw [heatS_len]; exact hk) (by rw [heatS_reads hb]; exact hi)
      rw [heatS_reads hb] at this
      exact this
  · rintro ⟨t, hbn⟩
    refine Tru.of_reads t.offs (fun k hk => ?_) (fun k hk i hi => ?_)
    · rw [heatS_len] at hk
      rw [heatS_at hb]
      by_cases e : k = b
      · subst e; rw [if_pos rfl]; show n ≤ h k ∧ h k ≤ n; omega
      · rw [if_neg e]; exact t.heats k hk
    · rw [heatS_len] at hk
      rw [heatS_reads hb] at hi ⊢
      exact t.read (fun _ => rfl) hk hi
theorem heatS_ok (hok : SeOk s) (hb : b < s.baths.length) (hn : (gBt s.baths b).heat.lo ≤ n ∧ n ≤ (gBt s.baths b).heat.hi) : SeOk (heatS s b n) := by
  have h0 := hok.heats b hb
  refine ⟨hok.no, by rw [heatS_len]; exact hok.nb, hok.err, hok.offs, fun k hk => ?_, ?_, ?_, ?_⟩
  · rw [heatS_len] at hk
    rw [heatS_at hb]
    split
    · show 0 ≤ n ∧ n ≤ n ∧ n ≤ 1000; omega
    · exact hok.heats k hk
  · intro k hk
    rw [heatS_len] at hk
    rw [heatS_reads hb]; exact hok.inst k hk
  · intro k hk
    rw [heatS_len] at hk
    rw [heatS_reads hb]; exact hok.once k hk
  · intro k hk
    rw [heatS_len] at hk
    rw [heatS_reads hb]; exact hok.val k hk
theorem heatS_thn (ht : Thn s) (hb : b < s.baths.length) : Thn (heatS s b n) := ⟨ht.no, by rw [heatS_len]; exact ht.nb, fun k hk => by
  rw [heatS_len] at hk
  rw [heatS_reads hb]; exact ht.nr k hk⟩
theorem heatS_can (hb : b < s.baths.length) (hn : (gBt s.baths b).heat.lo ≤ n ∧ n ≤ (gBt s.baths b).heat.hi) : Can (heatS s b n) ↔ HeatHit s b n :=
  ⟨fun ⟨o, h, t⟩ => ⟨o, h, ((heatS_tru hb hn).1 t).1, ((heatS_tru hb hn).1 t).2⟩, fun ⟨o, h, t, e⟩ => ⟨o, h, (heatS_tru hb hn).2 ⟨t, e⟩⟩⟩
theorem heat_in (hb : b < s.baths.length) (h : HeatHit s b n) : (gBt s.baths b).heat.lo ≤ n ∧ n ≤ (gBt s.baths b).heat.hi := by
  obtain ⟨o, h, t, e⟩ := h
  have := t.heats b hb
  omega
end
/-- the baths with their slices. -/
def xbL (s : Se) (rA : Nat → Option Addr) (rc : Nat → Nat) : List Xb := (List.range s.baths.length).map (fun b => (gBt s.baths b, rA b, rc b))
theorem xbL_len {s : Se} {rA : Nat → Option Addr} {rc : Nat → Nat} : (xbL s rA rc).length = s.baths.length := by unfold xbL; simp
theorem xbL_at {s : Se} {rA : Nat → Option Addr} {rc : Nat → Nat} {k : Nat} (hk : k < s.baths.length) : gXb (xbL s rA rc) k = (gBt s.baths k, rA k, rc k) := by unfold gXb xbL; simp [hk]
theorem xbL_sl {w : World} {B : Nat} {A : Option Addr} {s : Se} {rA : Nat → Option Addr} {rc : Nat → Nat} (h : SlAt w B 3 A s.baths.length (fBt s.baths rA rc)) : SlAt w B 3 A (xbL s rA rc).length (fB (xbL s rA rc)) := by
  rw [xbL_len]
  intro hn
  obtain ⟨b, off, e, hb, hc⟩ := h hn
  refine ⟨b, off, e, hb, fun k j hk hj => (hc k j hk hj).trans (congrArg some ?_)⟩
  unfold fBt fB
  rw [xbL_at hk]
  match j, hj with
  | 0, _ => rfl
  | 1, _ => rfl
  | 2, _ => rfl
theorem bts_cell {w : World} {base : Nat} {e : TypeId} {v : Value} {l : List Xb} (h : w.ownsRow base e 3 v l.length (l.flatMap cB)) {k : Nat} (hk : k < l.length) :
    ∃ g cap, v = .slice (some ⟨g, 0, none⟩) l.length cap ∧ base ≤ g ∧ g < w.heap.size ∧ w.cell? ⟨g, k * 3, none⟩ = some (.int .i64 (gXb l k).1.heat.lo) ∧ w.cell? ⟨g, k * 3 + 1, none⟩ = some (.int .i64 (gXb l k).1.heat.hi) ∧ ∀ i, w.frozen? ⟨g, i, none⟩ = false := by
  obtain ⟨g, cap, rfl, hb, hl, _, _, hc, hf⟩ := own_cell h (by omega)
  have hfl := rgflat_len (f := cB) (sz := 3) (fun _ => rfl) (l := l)
  refine ⟨g, cap, rfl, hb, hl, ?_, ?_, hf⟩
  · rw [hc _ (by rw [hfl]; omega)]
    have := flat_get (f := cB) (sz := 3) (fun _ => rfl) hk (j := 0) (by omega)
    rw [Nat.add_zero] at this
    rw [this]
    exact cB_at l k hk 0 (by omega)
  · rw [hc _ (by rw [hfl]; omega)]
    exact (flat_get (f := cB) (sz := 3) (fun _ => rfl) hk (j := 1) (by omega)).trans (cB_at l k hk 1 (by omega))
theorem bts_set {w : World} {base : Nat} {e : TypeId} {v : Value} {l : List Xb} (h : w.ownsRow base e 3 v l.length (l.flatMap cB)) {g : Nat} (hg : v.ownBlock = some g) {k : Nat} (hk : k < l.length) (n : Int) :
    ((w.setCell ⟨g, k * 3, none⟩ (.int .i64 n)).setCell ⟨g, k * 3 + 1, none⟩ (.int .i64 n)).ownsRow base e 3 v (l.set k (⟨⟨n, n⟩, (gXb l k).1.reads⟩, (gXb l k).2)).length ((l.set k (⟨⟨n, n⟩, (gXb l k).1.reads⟩, (gXb l k).2)).flatMap cB) := by
  have hfl := rgflat_len (f := cB) (sz := 3) (fun _ => rfl) (l := l)
  have hx : gXb l k = l[k] := by unfold gXb; simp [hk]
  have h1 := own_set h hg (j := k * 3) (by rw [hfl]; omega) (.int .i64 n)
  have h2 := own_set h1 hg (j := k * 3 + 1) (by rw [List.length_set, hfl]; omega) (.int .i64 n)
  have e1 := flat_set (f := cB) (sz := 3) (fun _ => rfl) (l := l) hk (j := 0) (by omega) (u := .int .i64 n) (a := (⟨⟨n, (l[k]).1.heat.hi⟩, (l[k]).1.reads⟩, (l[k]).2)) rfl
  rw [Nat.add_zero] at e1
  have e2 := flat_set (f := cB) (sz := 3) (fun _ => rfl) (l := l.set k (⟨⟨n, (l[k]).1.heat.hi⟩, (l[k]).1.reads⟩, (l[k]).2)) (k := k) (by rw [List.length_set]; exact hk) (j := 1) (by omega) (u := .int .i64 n) (a := (⟨⟨n, n⟩, (l[k]).1.reads⟩, (l[k]).2)) (by rw [List.getElem_set_self]; rfl)
  rw [e1, e2, List.set_set] at h2
  rw [List.length_set, hx]
  exact h2
theorem heatS_in {W : World} {B : Nat} {e : TypeId} {v : Value} {s : Se} {Ao : Option Addr} {rA : Nat → Option Addr} {rc : Nat → Nat} {b : Nat} {n : Int} (hb : b < s.baths.length)
    (h : W.ownsRow B e 3 v ((xbL s rA rc).set b (⟨⟨n, n⟩, (gXb (xbL s rA rc) b).1.reads⟩, (gXb (xbL s rA rc) b).2)).length (((xbL s rA rc).set b (⟨⟨n, n⟩, (gXb (xbL s rA rc) b).1.reads⟩, (gXb (xbL s rA rc) b).2)).flatMap cB))
    (ho : SlAt W W.heap.size 2 Ao s.offs.length (fR s.offs)) (hr : ∀ k, k < s.baths.length → SlAt W W.heap.size 2 (rA k) (gBt s.baths k).reads.length (fRd (gBt s.baths k).reads)) :
    ∃ A c, v = .slice A s.baths.length c ∧ SeIn W W.heap.size (heatS s b n) Ao A rA rc := by
  obtain ⟨A, c, e, _, _, hrow⟩ := own_row (c := cB) (sz := 3) (fun _ => rfl) (cB_at _) h
  have hl : ((xbL s rA rc).set b (⟨⟨n, n⟩, (gXb (xbL s rA rc) b).1.reads⟩, (gXb (xbL s rA rc) b).2)).length = s.baths.length := by rw [List.length_set, xbL_len]
  rw [hl] at e hrow
  refine ⟨A, c, e, ho, ?_, fun k hk => ?_⟩
  · rw [heatS_len]
    refine (hrow.ext (fun k j hk hj => ?_)).sl
    unfold fB fBt
    have hx : gXb ((xbL s rA rc).set b (⟨⟨n, n⟩, (gXb (xbL s rA rc) b).1.reads⟩, (gXb (xbL s rA rc) b).2)) k = (gBt (heatS s b n).baths k, rA k, rc k) := by
      rw [heatS_at hb]
      by_cases e : k = b
      · subst e
        rw [if_pos rfl, ← show ((gXb (xbL s rA rc) k).1.reads) = (gBt s.baths k).reads from by rw [xbL_at hk], ← show (gXb (xbL s rA rc) k).2 = (rA k, rc k) from by rw [xbL_at hk]]
        have : k < (xbL s rA rc).length := by rw [xbL_len]; exact hk
        simp [gXb, this]
      · rw [if_neg e, ← xbL_at (rA := rA) (rc := rc) hk]
        have e' : ¬ b = k := fun h => e h.symm
        unfold gXb
        simp [List.getElem?_set, e']
    rw [hx]
    match j, hj with
    | 0, _ => rfl
    | 1, _ => rfl
    | 2, _ => rfl
  · rw [heatS_len] at hk
    rw [heatS_reads hb]; exact hr k hk
end Go.Proofs.Ytnplefhigbkbbaa
end
