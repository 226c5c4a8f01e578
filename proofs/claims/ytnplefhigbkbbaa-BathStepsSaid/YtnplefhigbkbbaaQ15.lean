/- Bath's laws: a series out of a plan (plain). · Bath's laws: BathSteps (walk). -/
import Derived.Lib.MinMax
import Derived.Deep.CutBlock
import Derived.Test.YtnplefhigbkbbaaQ13
import Derived.Test.YtnplefhigbkbbaaQ8
import Derived.Test.YtnplefhigbkbbaaQ2
set_option linter.unusedVariables false
set_option linter.unusedSimpArgs false
set_option linter.unusedSectionVars false
section
namespace Go.Proofs.Ytnplefhigbkbbaa
open Go.RowKit
attribute [local go_sem] Ex.cell? Ex.frozen?

/-- the bath of a dip. -/
def stepB (r : List Dp) (k : Nat) : Bt := ⟨⟨max 0 ((gDp r k).heat - 5), min 1000 ((gDp r k).heat + 5)⟩, (gDp r k).ins.map (fun n => ⟨n, 0⟩)⟩
/-- the series whose baths are the dips of a plan. -/
def stS (ol : List Rg) (e : Int) (r : List Dp) : Se := ⟨ol, e, (List.range r.length).map (stepB r)⟩
section
variable {ol : List Rg} {e : Int} {r : List Dp}
theorem stS_bt {k : Nat} (hk : k < r.length) : gBt (stS ol e r).baths k = stepB r k := by
  unfold gBt stS
  simp [hk]
theorem stS_lb : (stS ol e r).baths.length = r.length := by unfold stS; simp
theorem stS_lr {k : Nat} (hk : k < r.length) : (gBt (stS ol e r).baths k).reads.length = (gDp r k).ins.length := by
  rw [stS_bt hk]
  unfold stepB
  simp
theorem stS_inst {k i : Nat} (hk : k < r.length) (hi : i < (gDp r k).ins.length) : (gRd (gBt (stS ol e r).baths k).reads i).inst = gI (gDp r k).ins i := by
  rw [stS_bt hk]
  unfold stepB gRd gI
  simp [hi]
theorem step_snoc {ins : List Int} {i : Nat} {L : List Rd} {v : Int} (hi : i < ins.length) (h : L = (ins.take i).map (fun n => (⟨n, 0⟩ : Rd))) (hv : gI ins i = v) : L ++ [⟨v, 0⟩] = (ins.take (i + 1)).map (fun n => (⟨n, 0⟩ : Rd)) := by
  have e : ins[i] = v := by rw [← hv]; simp [gI, hi]
  rw [h, List.take_succ_eq_append_getElem hi, List.map_append, e]
  rfl
theorem sl_take {w : World} {B : Nat} {A : Option Addr} {l : List Rg} {n : Nat} (h : SlAt w B 2 A l.length (fR l)) (hn : n ≤ l.length) : SlAt w B 2 A (l.take n).length (fR (l.take n)) := fun h0 => by
  have hl : (l.take n).length = n := by rw [List.length_take]; omega
  rw [hl] at h0 ⊢
  obtain ⟨b, off, e, hb, hc⟩ := h (by omega)
  refine ⟨b, off, e, hb, fun k j hk hj => ?_⟩
  have hg : gR (l.take n) k = gR l k := by unfold gR; simp [hk, List.getElem?_take]
  have := hc k j (by omega) hj
  rw [this]
  unfold fR
  rw [hg]
/-- two truths are not farther apart at an instrument than by four times the Error for each step. -/
theorem step_apart {o h : List Int} {x : Se} (hv : ReadV (stS ol e r) o h x) {m v : Nat} (hd : Dst r m v) {o1 h1 o2 h2 : Nat → Int} (t1 : Tru x (fun _ => false) o1 h1) (t2 : Tru x (fun _ => false) o2 h2) : (o1 m - o1 0) - (o2 m - o2 0) ≤ 4 * x.err * (v : Int) := by
  induction hd with
  | std => simp
  | @step m v k i j _ hk hi hj hm ih =>
    have hb : k < x.baths.length := by rw [hv.lb, stS_lb]; exact hk
    have hlr : (gBt x.baths k).reads.length = (gDp r k).ins.length := by rw [hv.lr k (by rw [stS_lb]; exact hk), stS_lr hk]
    have hin : ∀ a, a < (gDp r k).ins.length → (gRd (gBt x.baths k).reads a).inst = gI (gDp r k).ins a := fun a ha => by
      rw [hv.inst k (by rw [stS_lb]; exact hk) a (by rw [stS_lr hk]; exact ha), stS_inst hk ha]
    have a1 := t1.read (fun _ => rfl) hb (by rw [hlr]; exact hi)
    have a2 := t1.read (fun _ => rfl) hb (by rw [hlr]; exact hj)
    have a3 := t2.read (fun _ => rfl) hb (by rw [hlr]; exact hi)
    have a4 := t2.read (fun _ => rfl) hb (by rw [hlr]; exact hj)
    rw [hin i hi, hm] at a1 a3
    rw [hin j hj] at a2 a4
    have e1 : 4 * x.err * ((v + 1 : Nat) : Int) = 4 * x.err * (v : Int) + 4 * x.err := by
      rw [Int.natCast_add, Int.mul_add]; simp
    rw [e1]
    omega
theorem step_wide {o h : List Int} {x : Se} (hv : ReadV (stS ol e r) o h x) {m v : Nat} (hd : Dst r m v) {lo hi l0 h0 : Int} (hm : EndsOf (OffZ x m) lo hi) (hz : EndsOf (OffZ x 0) l0 h0) : hi - lo ≤ h0 - l0 + 4 * x.err * (v : Int) := by
  obtain ⟨⟨o2, h2, t2, rfl⟩, ⟨o1, h1, t1, rfl⟩, _⟩ := hm
  have h3 := step_apart hv hd t1 t2
  have h4 := hz.2.2 _ ⟨o1, h1, t1, rfl⟩
  have h5 := hz.2.2 _ ⟨o2, h2, t2, rfl⟩
  omega
/-- what a plan that is right tells of each instrument. -/
theorem steps_in {w : Wo} {kl : List Int} {ev : Int} (hw : WoOk w) (hr : RightP w r) (h : KnownV w r kl ev) : ev = 0 ∧ kl.length = w.rng.length ∧ ∀ i, i < w.rng.length → (0 ≤ gI kl i ∧ gI kl i ≤ w.steps) ∧ Dst r i (gI kl i).toNat := by
  have hn := hw.n.2
  rcases h with ⟨h, _⟩ | ⟨_, h, _⟩ | ⟨_, _, rfl, K, hK, rfl⟩
  · exact absurd (woOk_iff.2 hw) h
  · rw [planB_iff.2 hr.dips] at h; cases h
  · obtain ⟨K2, hK2, hs⟩ := hr.known
    obtain rfl := hK2.uniq hK
    refine ⟨rfl, by simp [l6]; omega, fun i hi => ?_⟩
    have hg : gI ((l6 K2).take w.rng.length) i = K2.get i := by
      rw [← l6_get (s := K2) (i := i) (by omega)]
      unfold gI
      simp [hi, List.getElem?_take]
    rw [hg]
    refine ⟨hs i hi, ?_⟩
    have h1 := hs i hi
    rcases hK i (by omega) with ⟨h2, _⟩ | ⟨_, h2, _⟩
    · omega
    · exact h2
theorem steps_end {w : Wo} {o h : List Int} {x : Se} {la : List Rg} {kl : List Int} {ea ek : Int} (hw : WoOk w) (hr : RightP w r) (hol : ol.length = w.rng.length) (hv : ReadV (stS ol e r) o h x) (ha : RngV x x.offs.length (OffZ x) la ea) (hk : KnownV w r kl ek) :
    ea = 0 ∧ ek = 0 ∧ la.length = w.rng.length ∧ kl.length = w.rng.length ∧ Hid (∀ i, i < w.rng.length → (0 ≤ gI kl i ∧ gI kl i ≤ w.steps) ∧ ((gR la i).hi - (gR la i).lo ≤ (gR la 0).hi - (gR la 0).lo + 4 * e * gI kl i) ∧ (-100 ≤ (gR la i).lo ∧ (gR la i).lo ≤ 100) ∧ (-100 ≤ (gR la i).hi ∧ (gR la i).hi ≤ 100) ∧ (0 ≤ 4 * e ∧ 4 * e ≤ 80) ∧ 0 ≤ 4 * e * gI kl i ∧ 4 * e * gI kl i ≤ 320) := by
  have hox : SeOk x := hv.ok
  have hcx : Can x := ⟨_, _, hv.tru⟩
  obtain ⟨rfl, hla, hae⟩ := rng_can ha hox hcx
  obtain ⟨rfl, hkl, hke⟩ := steps_in hw hr hk
  have hxo : x.offs.length = w.rng.length := by rw [hv.offs]; exact hol
  have hxe : x.err = e := hv.err
  rw [hxo] at hla hae
  refine ⟨rfl, rfl, hla, hkl, Lib.hid (fun i hi => ?_)⟩
  obtain ⟨h1, h2⟩ := hke i hi
  have h3 := step_wide hv h2 (hae i hi) (hae 0 (by omega))
  rw [Int.toNat_of_nonneg h1.1, hxe] at h3
  obtain ⟨⟨o1, g1, t1, e1⟩, ⟨o2, g2, t2, e2⟩, _⟩ := hae i hi
  have h4 := t1.offs i (by omega)
  have h5 := t2.offs i (by omega)
  have h6 := hox.offs i (by omega)
  have h7 := hox.err
  rw [hxe] at h7
  have h8 := hw.steps
  have h9 : 0 ≤ 4 * e * gI kl i := Int.mul_nonneg (by omega) h1.1
  have h10 : 4 * e * gI kl i ≤ 80 * gI kl i := Int.mul_le_mul_of_nonneg_right (by omega) h1.1
  exact ⟨h1, h3, by omega, by omega, by omega, h9, by omega⟩
theorem right_small {w : Wo} (hw : WoOk w) (hr : RightP w r) (h6 : r.length ≤ 6) : SmPl r := ⟨by omega, fun k hk => by
  have h1 := (hr.dips k hk).len.2
  have h2 := hw.room
  omega⟩
theorem stS_thn {w : Wo} (hw : WoOk w) (hr : RightP w r) (h6 : r.length ≤ 6) (hol : ol.length ≤ 6) : Thn (stS ol e r) := ⟨by show ol.length ≤ 9; omega, by rw [stS_lb]; omega, fun k hk => by
  rw [stS_lb] at hk
  rw [stS_lr hk]
  have h1 := (hr.dips k hk).len.2
  have h2 := hw.room
  omega⟩
end
end Go.Proofs.Ytnplefhigbkbbaa
end

section
namespace Go.Proofs.Ytnplefhigbkbbaa
open Go.RowKit
attribute [local go_sem] Ex.cell? Ex.frozen? Gx.cell?

open Go.ChangeShapes Go.WideShapes in
set_option maxRecDepth 100000 in
theorem open_rgs5c {H : Type} {enc : TypeId × Value → H} {w : World} {base : Nat} {spare : Nat → Bool} {held : Bool} {r : Reach} {b0 : Nat} {v : Value} {d : DataW H} {p : List MemPlace} (hv : Value.okWide Try.prog w r b0 22 v) (h : DataW.Trod enc Try.prog w base spare held 22 v d p) :
    ∃ A l cp, v = .slice A (l : List Rg).length cp ∧ (l.length ≤ cp ∧ cp ≤ maxLen) ∧ SlAt w w.heap.size 2 A l.length (fR l) := by
  obtain ⟨a, len, cap, rfl⟩ := okWide_slice Try.underlying22 hv
  obtain ⟨fuel, hf⟩ := h
  obtain ⟨A, l, cp, h1, h2, h3, h4⟩ := tr_rgs5 hf
  exact ⟨A, l, cp, by injection h1, ⟨h2, h3⟩, h4⟩
theorem steps_two {w : Wo} {r : List Dp} {ev : Int} (hw : WoOk w) (h : PlanV w r ev) : Hid (ev = 9 ∨ ev = 0 ∧ RightP w r) := by
  rcases h with ⟨h, _⟩ | ⟨_, _, e, _⟩ | ⟨_, hm, e⟩
  · exact absurd (woOk_iff.2 hw) h
  · exact Lib.hid (.inl e)
  · exact Lib.hid (.inr ⟨e, hm.right⟩)
set_option maxRecDepth 100000 in
set_option maxHeartbeats 51200000 in
theorem StepsLaw_any (w0 : Wo) (Ar : Option Addr) (cr : Nat) (A1 : Option Addr) (l1 : List Rg) (c1 : Nat) (m2 : Int) (hm2 : 0 ≤ m2 ∧ m2 ≤ 255) (Aw : Option Addr) (cw : Nat) (ws : List Int) (w : World) (hr : SlAt w w.heap.size 2 Ar w0.rng.length (fR w0.rng)) (hrl : w0.rng.length ≤ maxLen) (hL : SlAt w w.heap.size 2 A1 l1.length (fR l1)) (hc1 : l1.length ≤ c1 ∧ c1 ≤ maxLen) (hws : SlAt w w.heap.size 1 Aw ws.length (fU ws)) (hwl : ws.length ≤ maxLen) (hwv : ∀ k, k < ws.length → 0 ≤ gI ws k ∧ gI ws k ≤ 65535) :
    Calls Try.prog 15 #[.agg #[.slice Ar w0.rng.length cr, .int .i64 w0.room, .int .i64 w0.steps], .slice A1 l1.length c1, .int .u8 m2, .slice Aw ws.length cw] w fun e w' => e = .returned (.bool true) ∧ Below w.heap.size w w' := by
  have B_V := ex_alloc (Below.refl w.heap.size w) (.cells #[.slice Ar w0.rng.length cr, .int .i64 w0.room, .int .i64 w0.steps] 60)
  have q0 : Blk (w.alloc (.cells #[.slice Ar w0.rng.length cr, .int .i64 w0.room, .int .i64 w0.steps] 60)) w.heap.size 60 #[.slice Ar w0.rng.length cr, .int .i64 w0.room, .int .i64 w0.steps] := Blk.new _ _ _
  have hm : maxLen = 9223372036854775807 := rfl
  go_enter Try.func15, Try.ntmps15
  by_cases g1 : l1.length ≤ 9
  rotate_left
  · have d1 : decide ((9 : Int) < (l1.length : Int)) = true := decide_eq_true (by omega)
    have d2 : decide (9 < l1.length) = true := decide_eq_true (by omega)
    go_wp2_with fail
    generalize w.alloc (.cells #[.slice Ar w0.rng.length cr, .int .i64 w0.room, .int .i64 w0.steps] 60) = V at *
    refine (wakes_any _).mono ?_
    rintro e Wz ⟨rfl, hz⟩
    go_wp2
    go_ret
    exact ⟨rfl, ex_trans B_V hz⟩
  have d1a : decide ((9 : Int) < (l1.length : Int)) = false := decide_eq_false (by omega)
  have d1b : decide (9 < l1.length) = false := decide_eq_false (by omega)
  have a0 : (w.alloc (.cells #[.slice Ar w0.rng.length cr, .int .i64 w0.room, .int .i64 w0.steps] 60)).cell? ⟨w.heap.size, 0, none⟩ = some (.slice Ar w0.rng.length cr) := q0.cell 0
  by_cases g2 : w0.rng.length ≤ 9
  rotate_left
  · have d1 : decide ((9 : Int) < (w0.rng.length : Int)) = true := decide_eq_true (by omega)
    have d2 : decide (9 < w0.rng.length) = true := decide_eq_true (by omega)
    go_wp2_with fail
    clear a0
    generalize w.alloc (.cells #[.slice Ar w0.rng.length cr, .int .i64 w0.room, .int .i64 w0.steps] 60) = V at *
    refine (wakes_any _).mono ?_
    rintro e Wz ⟨rfl, hz⟩
    go_wp2
    go_ret
    exact ⟨rfl, ex_trans B_V hz⟩
  have d2a : decide ((9 : Int) < (w0.rng.length : Int)) = false := decide_eq_false (by omega)
  have d2b : decide (9 < w0.rng.length) = false := decide_eq_false (by omega)
  go_wp2_with fail
  clear a0
  generalize w.alloc (.cells #[.slice Ar w0.rng.length cr, .int .i64 w0.room, .int .i64 w0.steps] 60) = V at *
  have a0 : V.cell? ⟨w.heap.size, 0, none⟩ = some (.slice Ar w0.rng.length cr) := q0.cell 0
  have a1 : V.cell? ⟨w.heap.size, 1, none⟩ = some (.int .i64 w0.room) := q0.cell 1
  have a2 : V.cell? ⟨w.heap.size, 2, none⟩ = some (.int .i64 w0.steps) := q0.cell 2
  have l0 := q0.lt
  refine (worksFault_any w0 Ar cr V ((hr.below B_V).up B_V.size) (by omega)).mono ?_
  rintro e W1 ⟨rfl, hW1⟩
  replace q0 := q0.below hW1 q0.lt
  have B_W1 := ex_trans B_V hW1
  clear a0 a1 a2 l0
  have a0 : W1.cell? ⟨w.heap.size, 0, none⟩ = some (.slice Ar w0.rng.length cr) := q0.cell 0
  have a1 : W1.cell? ⟨w.heap.size, 1, none⟩ = some (.int .i64 w0.room) := q0.cell 1
  have a2 : W1.cell? ⟨w.heap.size, 2, none⟩ = some (.int .i64 w0.steps) := q0.cell 2
  have l0 := q0.lt
  by_cases h0 : ckWo w0 = 0
  rotate_left
  · generalize ckWo w0 = ck at *
    have e2 : (ck != 0) = true := by simp [h0]
    clear h0
    go_wp2_with fail
    refine (wakes_any _).mono ?_
    rintro e Wz ⟨rfl, hz⟩
    go_wp2
    go_ret
    exact ⟨rfl, ex_trans B_W1 hz⟩
  rw [h0]
  have HOK : Hid (WoOk w0) := Lib.hid (woOk_iff.1 h0)
  clear h0
  have hn := HOK.out.n
  by_cases g3 : w0.rng.length ≤ l1.length
  rotate_left
  · have d1 : decide ((l1.length : Int) < (w0.rng.length : Int)) = true := decide_eq_true (by omega)
    have d2 : decide (l1.length < w0.rng.length) = true := decide_eq_true (by omega)
    go_wp2_with fail
    refine (wakes_any _).mono ?_
    rintro e Wz ⟨rfl, hz⟩
    go_wp2
    go_ret
    exact ⟨rfl, ex_trans B_W1 hz⟩
  have d3a : decide ((l1.length : Int) < (w0.rng.length : Int)) = false := decide_eq_false (by omega)
  have d3b : decide (l1.length < w0.rng.length) = false := decide_eq_false (by omega)
  go_wp2_with fail
  refine (Works_law w0 Ar cr W1 ((hr.below B_W1).up B_W1.size) (by omega)).mono ?_
  rintro e W2 ⟨⟨A7, c7, rfl, s7⟩, hW2⟩
  replace q0 := q0.below hW2 q0.lt
  have B_W2 := ex_trans B_W1 hW2
  clear a0 a1 a2 l0
  have a0 : W2.cell? ⟨w.heap.size, 0, none⟩ = some (.slice Ar w0.rng.length cr) := q0.cell 0
  have a1 : W2.cell? ⟨w.heap.size, 1, none⟩ = some (.int .i64 w0.room) := q0.cell 1
  have a2 : W2.cell? ⟨w.heap.size, 2, none⟩ = some (.int .i64 w0.steps) := q0.cell 2
  have l0 := q0.lt
  go_wp2_with fail
  refine (Plan_any w0 A7 c7 W2 s7 (by omega)).mono ?_
  rintro e W3 ⟨⟨Aq, r, cq, rAq, rcq, ev, rfl, HPV, hr6, hpr⟩, hW3⟩
  replace q0 := q0.below hW3 q0.lt
  replace s7 := (s7.below hW3).up hW3.size
  have B_W3 := ex_trans B_W2 hW3
  clear a0 a1 a2 l0
  have a0 : W3.cell? ⟨w.heap.size, 0, none⟩ = some (.slice Ar w0.rng.length cr) := q0.cell 0
  have a1 : W3.cell? ⟨w.heap.size, 1, none⟩ = some (.int .i64 w0.room) := q0.cell 1
  have a2 : W3.cell? ⟨w.heap.size, 2, none⟩ = some (.int .i64 w0.steps) := q0.cell 2
  have l0 := q0.lt
  clear s7
  rcases (steps_two HOK.out HPV.out).out with rfl | ⟨rfl, hrt⟩
  all_goals clear HPV d1a d1b d2a d2b d3a d3b
  · go_wp2_with fail
    refine (wakes_any _).mono ?_
    rintro e Wz ⟨rfl, hz⟩
    go_wp2
    go_ret
    exact ⟨rfl, ex_trans B_W3 hz⟩
  have HRT := Lib.hid hrt
  clear hrt
  have HSR : Hid (SmPl r) := Lib.hid (right_small HOK.out HRT.out hr6)
  have HPB : Hid (planB w0 r = true) := Lib.hid (planB_iff.2 HRT.out.dips)
  go_wp2_with fail
  refine (planBack_law r Aq cq rAq rcq W3 hpr HSR.out (by omega)).mono ?_
  rintro e W4 ⟨⟨Ab, cb, rAb, rcb, rfl, hpb⟩, hW4⟩
  replace q0 := q0.below hW4 q0.lt
  replace hpr := hpr.below hW4
  have B_W4 := ex_trans B_W3 hW4
  clear a0 a1 a2 l0
  have a0 : W4.cell? ⟨w.heap.size, 0, none⟩ = some (.slice Ar w0.rng.length cr) := q0.cell 0
  have a1 : W4.cell? ⟨w.heap.size, 1, none⟩ = some (.int .i64 w0.room) := q0.cell 1
  have a2 : W4.cell? ⟨w.heap.size, 2, none⟩ = some (.int .i64 w0.steps) := q0.cell 2
  have l0 := q0.lt
  go_wp2_with fail
  refine (isPlan_any w0 Ar cr r Ab cb rAb rcb W4 ((hr.below B_W4).up B_W4.size) (by omega) hpb HSR.out).mono ?_
  rintro e W5 ⟨rfl, hW5⟩
  replace q0 := q0.below hW5 q0.lt
  replace hpr := hpr.below hW5
  replace hpb := hpb.below hW5
  have B_W5 := ex_trans B_W4 hW5
  clear a0 a1 a2 l0
  have a0 : W5.cell? ⟨w.heap.size, 0, none⟩ = some (.slice Ar w0.rng.length cr) := q0.cell 0
  have a1 : W5.cell? ⟨w.heap.size, 1, none⟩ = some (.int .i64 w0.room) := q0.cell 1
  have a2 : W5.cell? ⟨w.heap.size, 2, none⟩ = some (.int .i64 w0.steps) := q0.cell 2
  have l0 := q0.lt
  rw [HPB.out]
  have d4a : decide ((6 : Int) < (r.length : Int)) = false := decide_eq_false (by omega)
  have d4b : decide (6 < r.length) = false := decide_eq_false (by omega)
  obtain ⟨ba, oa, rfl, hba, _, _⟩ := IsRgs.at_ hL (show 0 < l1.length by omega)
  have lba : ba < W5.heap.size := by have := B_W5.size; omega
  obtain ⟨er, her⟩ : ∃ er, m2.tmod 21 = er := ⟨_, rfl⟩
  have her0 : 0 ≤ er ∧ er ≤ 20 := by rw [← her]; have h1 := Int.tmod_nonneg (a := m2) 21 hm2.1; have h2 := Int.tmod_lt_of_pos m2 (b := 21) (by omega); omega
  have herw : IntKind.i64.wrap (m2.tmod 21) = er := by rw [her]; exact IntWalk.i64_in _ (by omega)
  have k2 : IntKind.i64.wrap m2 = m2 := IntWalk.i64_in _ (by omega)
  go_wp2_with fail
  have N6 := ex_alloc (Below.refl W5.heap.size W5) (.cells #[(.slice (some ⟨ba, oa, none⟩) w0.rng.length c1), .int .i64 er, .slice none 0 0] 25)
  have q12 : Blk (W5.alloc (.cells #[(.slice (some ⟨ba, oa, none⟩) w0.rng.length c1), .int .i64 er, .slice none 0 0] 25)) W5.heap.size 25 #[(.slice (some ⟨ba, oa, none⟩) w0.rng.length c1), .int .i64 er, .slice none 0 0] := Blk.new _ _ _
  have hV6s : W5.heap.size + 1 ≤ (W5.alloc (.cells #[(.slice (some ⟨ba, oa, none⟩) w0.rng.length c1), .int .i64 er, .slice none 0 0] 25)).heap.size := by simp
  obtain ⟨p12, hp12⟩ : ∃ p, W5.heap.size = p := ⟨_, rfl⟩
  have HP12 := Lib.hid hp12
  have hp120 : w.heap.size < p12 := by have := q0.lt; omega
  rw [hp12] at q12 hV6s ⊢
  clear hp12 a0 a1 a2 l0 her herw k2 d4a d4b
  generalize W5.alloc (.cells #[(.slice (some ⟨ba, oa, none⟩) w0.rng.length c1), .int .i64 er, .slice none 0 0] 25) = V6 at *
  obtain ⟨i1, hi1, hy0, hy1, hy2⟩ := info_parts rrd_info
  have HJ := Lib.hid hi1
  obtain ⟨i2, hi2, hu0, hu1, hu2⟩ := info_parts rbath_info
  have HK := Lib.hid hi2
  clear hi1 hi2
  have HDP := Lib.hid HRT.out.dips
  have HRO := Lib.hid HOK.out.room
  refine wp_loop (fun a W => Rel (fun a W => ∃ k : Nat, k ≤ r.length ∧ Below W5.heap.size W5 W ∧ p12 + 1 ≤ W.heap.size ∧ ∃ v, ∃ X : List Xb, Hid (X.map (·.1) = (List.range k).map (stepB r)) ∧ Blk W p12 25 #[(.slice (some ⟨ba, oa, none⟩) w0.rng.length c1), .int .i64 er, v] ∧ ROwn W (p12 + 1) v X ∧ ∃ u : Nat → Value, a = ⟨List.toArray (u 0 :: u 1 :: u 2 :: .slice Aw ws.length cw :: .pointer (some ⟨w.heap.size, 0, none⟩) :: u 5 :: u 6 :: u 7 :: .bool false :: .slice Aq r.length cq :: u 10 :: .slice Ab r.length cb :: .pointer (some ⟨p12, 0, none⟩) :: .int .i64 (k : Int) :: u 14 :: u 15 :: u 16 :: u 17 :: u 18 :: u 19 :: u 20 :: u 21 :: u 22 :: u 23 :: u 24 :: u 25 :: u 26 :: u 27 :: u 28 :: u 29 :: u 30 :: u 31 :: u 32 :: u 33 :: u 34 :: u 35 :: u 36 :: u 37 :: u 38 :: u 39 :: u 40 :: u 41 :: u 42 :: u 43 :: u 44 :: u 45 :: u 46 :: u 47 :: u 48 :: u 49 :: u 50 :: u 51 :: u 52 :: u 53 :: u 54 :: u 55 :: u 56 :: u 57 :: u 58 :: u 59 :: u 60 :: u 61 :: u 62 :: u 63 :: u 64 :: u 65 :: u 66 :: u 67 :: u 68 :: u 69 :: u 70 :: u 71 :: u 72 :: u 73 :: u 74 :: u 75 :: u 76 :: u 77 :: u 78 :: u 79 :: u 80 :: u 81 :: u 82 :: u 83 :: u 84 :: u 85 :: u 86 :: u 87 :: u 88 :: u 89 :: u 90 :: u 91 :: u 92 :: u 93 :: u 94 :: u 95 :: u 96 :: u 97 :: u 98 :: u 99 :: u 100 :: u 101 :: u 102 :: u 103 :: u 104 :: u 105 :: u 106 :: u 107 :: u 108 :: u 109 :: u 110 :: u 111 :: u 112 :: u 113 :: u 114 :: u 115 :: u 116 :: u 117 :: u 118 :: u 119 :: u 120 :: u 121 :: u 122 :: u 123 :: u 124 :: u 125 :: u 126 :: u 127 :: u 128 :: u 129 :: u 130 :: u 131 :: u 132 :: u 133 :: u 134 :: u 135 :: u 136 :: u 137 :: u 138 :: u 139 :: u 140 :: u 141 :: u 142 :: u 143 :: u 144 :: u 145 :: u 146 :: u 147 :: u 148 :: u 149 :: u 150 :: u 151 :: u 152 :: u 153 :: u 154 :: u 155 :: u 156 :: u 157 :: u 158 :: u 159 :: u 160 :: u 161 :: u 162 :: u 163 :: u 164 :: u 165 :: u 166 :: u 167 :: u 168 :: u 169 :: u 170 :: u 171 :: u 172 :: u 173 :: u 174 :: u 175 :: u 176 :: u 177 :: u 178 :: u 179 :: u 180 :: u 181 :: u 182 :: u 183 :: u 184 :: u 185 :: u 186 :: u 187 :: u 188 :: u 189 :: u 190 :: u 191 :: u 192 :: u 193 :: u 194 :: u 195 :: u 196 :: u 197 :: u 198 :: u 199 :: u 200 :: u 201 :: u 202 :: u 203 :: u 204 :: u 205 :: u 206 :: u 207 :: u 208 :: u 209 :: u 210 :: u 211 :: u 212 :: u 213 :: u 214 :: u 215 :: u 216 :: u 217 :: u 218 :: u 219 :: u 220 :: u 221 :: u 222 :: u 223 :: u 224 :: u 225 :: u 226 :: u 227 :: u 228 :: u 229 :: []), []⟩) a W)
    (fun a _ => r.length - (intOf (a.tmps.getD 13 undef)).toNat) ⟨⟨0, by omega, N6, hV6s, .slice none 0 0, [], Lib.hid rfl, q12, NOwn.nil, exFrame (by kernel_rfl)⟩⟩ ?_
  clear N6 q12 hV6s V6
  rintro a W ⟨⟨k, hk, hbl, hsz, v, X, HL, q12, hN, u, rfl⟩⟩
  have BW := ex_trans B_W5 hbl
  by_cases hlt : k < r.length
  rotate_left
  · obtain rfl : k = r.length := by omega
    replace q0 := q0.below hbl q0.lt
    replace hpr := hpr.below hbl
    clear hpb
    have holl : (l1.take w0.rng.length).length = w0.rng.length := by rw [List.length_take]; omega
    have hXB : X.map (·.1) = (stS (l1.take w0.rng.length) er r).baths := HL.out
    obtain ⟨Ab', cb', rA, rc, rfl, hse⟩ := nown_se (s := stS (l1.take w0.rng.length) er r) hN hXB (((sl_take hL g3).below BW).up BW.size)
    have HTS : Hid (Thn (stS (l1.take w0.rng.length) er r)) := Lib.hid (stS_thn HOK.out HRT.out hr6 (by omega))
    have HOE : Hid (∀ {o h : List Int} {x : Se} {la : List Rg} {kl : List Int} {ea ek : Int}, ReadV (stS (l1.take w0.rng.length) er r) o h x → RngV x x.offs.length (OffZ x) la ea → KnownV w0 r kl ek → _) := Lib.hid (fun hv ha hk => steps_end HOK.out HRT.out holl hv ha hk)
    replace q12 : Blk W p12 25 #[.slice (some ⟨ba, oa, none⟩) (stS (l1.take w0.rng.length) er r).offs.length c1, .int .i64 er, .slice Ab' (stS (l1.take w0.rng.length) er r).baths.length cb'] := by rw [show (stS (l1.take w0.rng.length) er r).offs.length = w0.rng.length from holl]; exact q12
    have HER : Hid ((stS (l1.take w0.rng.length) er r).err = er) := Lib.hid rfl
    have HSO : Hid ((stS (l1.take w0.rng.length) er r).offs.length = w0.rng.length) := Lib.hid holl
    clear hXB holl hN HL HJ HK HDP HRO hy0 hy1 hy2 hu0 hu1 hu2 hsz
    generalize stS (l1.take w0.rng.length) er r = S at *
    have a0 : W.cell? ⟨w.heap.size, 0, none⟩ = some (.slice Ar w0.rng.length cr) := q0.cell 0
    have a1 : W.cell? ⟨w.heap.size, 1, none⟩ = some (.int .i64 w0.room) := q0.cell 1
    have a2 : W.cell? ⟨w.heap.size, 2, none⟩ = some (.int .i64 w0.steps) := q0.cell 2
    have l0 := q0.lt
    have b0 : W.cell? ⟨p12, 0, none⟩ = some (.slice (some ⟨ba, oa, none⟩) S.offs.length c1) := q12.cell 0
    have b1 : W.cell? ⟨p12, 1, none⟩ = some (.int .i64 er) := q12.cell 1
    have b2 : W.cell? ⟨p12, 2, none⟩ = some (.slice Ab' S.baths.length cb') := q12.cell 2
    have l12 := q12.lt
    rw [← HER.out] at b1
    go_wp2_with fail
    refine (fault_law S (some ⟨ba, oa, none⟩) Ab' c1 cb' rA rc W hse HTS.out.sm).mono ?_
    rintro e Y1 ⟨rfl, hY1⟩
    replace q0 := q0.below hY1 q0.lt
    replace q12 := q12.below hY1 q12.lt
    replace hpr := hpr.below hY1
    replace hse := hse.go hY1
    have B_Y1 := ex_trans BW hY1
    clear a0 a1 a2 l0 b0 b1 b2 l12
    have a0 : Y1.cell? ⟨w.heap.size, 0, none⟩ = some (.slice Ar w0.rng.length cr) := q0.cell 0
    have a1 : Y1.cell? ⟨w.heap.size, 1, none⟩ = some (.int .i64 w0.room) := q0.cell 1
    have a2 : Y1.cell? ⟨w.heap.size, 2, none⟩ = some (.int .i64 w0.steps) := q0.cell 2
    have l0 := q0.lt
    have b0 : Y1.cell? ⟨p12, 0, none⟩ = some (.slice (some ⟨ba, oa, none⟩) S.offs.length c1) := q12.cell 0
    have b1 : Y1.cell? ⟨p12, 1, none⟩ = some (.int .i64 er) := q12.cell 1
    have b2 : Y1.cell? ⟨p12, 2, none⟩ = some (.slice Ab' S.baths.length cb') := q12.cell 2
    have l12 := q12.lt
    rw [← HER.out] at b1
    by_cases e0 : ckSe S = 0
    rotate_left
    · generalize ckSe S = ck at *
      have e2 : (ck != 0) = true := by simp [e0]
      clear e0
      go_wp2_with fail
      refine (wakes_any _).mono ?_
      rintro e Wz ⟨rfl, hz⟩
      go_wp2
      go_ret
      exact ⟨rfl, ex_trans B_Y1 hz⟩
    rw [e0]
    have HOS := Lib.hid (seOk_iff.1 e0)
    clear e0
    go_wp2_with fail
    refine (Read_v S (some ⟨ba, oa, none⟩) Ab' c1 cb' rA rc Y1 hse HTS.out HOS.out Aw cw ws ((hws.below B_Y1).up B_Y1.size) hwl hwv).mono ?_
    rintro e Y2 ⟨⟨A9, c9, A10, c10, Abx, cbx, rAx, rcx, o, h, x, HRV, rfl, so, sh, hsx⟩, hY2⟩
    replace q0 := q0.below hY2 q0.lt
    replace q12 := q12.below hY2 q12.lt
    replace hpr := hpr.below hY2
    replace hse := hse.go hY2
    have B_Y2 := ex_trans B_Y1 hY2
    clear a0 a1 a2 l0 b0 b1 b2 l12
    have a0 : Y2.cell? ⟨w.heap.size, 0, none⟩ = some (.slice Ar w0.rng.length cr) := q0.cell 0
    have a1 : Y2.cell? ⟨w.heap.size, 1, none⟩ = some (.int .i64 w0.room) := q0.cell 1
    have a2 : Y2.cell? ⟨w.heap.size, 2, none⟩ = some (.int .i64 w0.steps) := q0.cell 2
    have l0 := q0.lt
    have b0 : Y2.cell? ⟨p12, 0, none⟩ = some (.slice (some ⟨ba, oa, none⟩) S.offs.length c1) := q12.cell 0
    have b1 : Y2.cell? ⟨p12, 1, none⟩ = some (.int .i64 er) := q12.cell 1
    have b2 : Y2.cell? ⟨p12, 2, none⟩ = some (.slice Ab' S.baths.length cb') := q12.cell 2
    have l12 := q12.lt
    rw [← HER.out] at b1
    clear so sh hse
    have HTX : Hid (Thn x) := Lib.hid (HRV.out.thn HTS.out)
    go_wp2_with fail
    have N_Y3 := ex_alloc (Below.refl Y2.heap.size Y2) (.cells #[.slice (some ⟨ba, oa, none⟩) x.offs.length c1, .int .i64 x.err, .slice Abx x.baths.length cbx] 25)
    have qx : Blk (Y2.alloc (.cells #[.slice (some ⟨ba, oa, none⟩) x.offs.length c1, .int .i64 x.err, .slice Abx x.baths.length cbx] 25)) Y2.heap.size 25 #[.slice (some ⟨ba, oa, none⟩) x.offs.length c1, .int .i64 x.err, .slice Abx x.baths.length cbx] := Blk.new _ _ _
    replace q0 := q0.below N_Y3 q0.lt
    replace q12 := q12.below N_Y3 q12.lt
    replace hpr := hpr.below N_Y3
    replace hsx := hsx.go N_Y3
    have B_Y3 := ex_trans B_Y2 N_Y3
    clear N_Y3
    generalize Y2.alloc (.cells #[.slice (some ⟨ba, oa, none⟩) x.offs.length c1, .int .i64 x.err, .slice Abx x.baths.length cbx] 25) = Y3 at *
    obtain ⟨px, hpx⟩ : ∃ px, Y2.heap.size = px := ⟨_, rfl⟩
    rw [hpx] at qx ⊢
    clear hpx
    clear a0 a1 a2 l0 b0 b1 b2 l12
    have a0 : Y3.cell? ⟨w.heap.size, 0, none⟩ = some (.slice Ar w0.rng.length cr) := q0.cell 0
    have a1 : Y3.cell? ⟨w.heap.size, 1, none⟩ = some (.int .i64 w0.room) := q0.cell 1
    have a2 : Y3.cell? ⟨w.heap.size, 2, none⟩ = some (.int .i64 w0.steps) := q0.cell 2
    have l0 := q0.lt
    have b0 : Y3.cell? ⟨p12, 0, none⟩ = some (.slice (some ⟨ba, oa, none⟩) S.offs.length c1) := q12.cell 0
    have b1 : Y3.cell? ⟨p12, 1, none⟩ = some (.int .i64 er) := q12.cell 1
    have b2 : Y3.cell? ⟨p12, 2, none⟩ = some (.slice Ab' S.baths.length cb') := q12.cell 2
    have l12 := q12.lt
    rw [← HER.out] at b1
    have x0 : Y3.cell? ⟨px, 0, none⟩ = some (.slice (some ⟨ba, oa, none⟩) x.offs.length c1) := qx.cell 0
    have x1 : Y3.cell? ⟨px, 1, none⟩ = some (.int .i64 x.err) := qx.cell 1
    have x2 : Y3.cell? ⟨px, 2, none⟩ = some (.slice Abx x.baths.length cbx) := qx.cell 2
    have lx := qx.lt
    go_wp2_with fail
    refine (Series_law x (some ⟨ba, oa, none⟩) Abx c1 cbx rAx rcx Y3 hsx HTX.out).mono ?_
    rintro e Y4 ⟨⟨Ao1, Ab1, co1, cb1, rA1, rc1, rfl, hs1⟩, hY4⟩
    replace q0 := q0.below hY4 q0.lt
    replace q12 := q12.below hY4 q12.lt
    replace hpr := hpr.below hY4
    replace hsx := hsx.go hY4
    replace qx := qx.below hY4 qx.lt
    have B_Y4 := ex_trans B_Y3 hY4
    clear a0 a1 a2 l0 b0 b1 b2 l12
    have a0 : Y4.cell? ⟨w.heap.size, 0, none⟩ = some (.slice Ar w0.rng.length cr) := q0.cell 0
    have a1 : Y4.cell? ⟨w.heap.size, 1, none⟩ = some (.int .i64 w0.room) := q0.cell 1
    have a2 : Y4.cell? ⟨w.heap.size, 2, none⟩ = some (.int .i64 w0.steps) := q0.cell 2
    have l0 := q0.lt
    have b0 : Y4.cell? ⟨p12, 0, none⟩ = some (.slice (some ⟨ba, oa, none⟩) S.offs.length c1) := q12.cell 0
    have b1 : Y4.cell? ⟨p12, 1, none⟩ = some (.int .i64 er) := q12.cell 1
    have b2 : Y4.cell? ⟨p12, 2, none⟩ = some (.slice Ab' S.baths.length cb') := q12.cell 2
    have l12 := q12.lt
    rw [← HER.out] at b1
    clear x0 x1 x2 lx qx hsx
    go_wp2_with fail
    refine (Offsets_any x Ao1 Ab1 co1 cb1 rA1 rc1 Y4 hs1 HTX.out.sm).mono ?_
    rintro e Y5 ⟨⟨Aa, ca, la, ea, rfl, ha, sa⟩, hY5⟩
    replace q0 := q0.below hY5 q0.lt
    replace q12 := q12.below hY5 q12.lt
    replace hpr := hpr.below hY5
    replace hs1 := hs1.go hY5
    have B_Y5 := ex_trans B_Y4 hY5
    clear a0 a1 a2 l0 b0 b1 b2 l12
    have a0 : Y5.cell? ⟨w.heap.size, 0, none⟩ = some (.slice Ar w0.rng.length cr) := q0.cell 0
    have a1 : Y5.cell? ⟨w.heap.size, 1, none⟩ = some (.int .i64 w0.room) := q0.cell 1
    have a2 : Y5.cell? ⟨w.heap.size, 2, none⟩ = some (.int .i64 w0.steps) := q0.cell 2
    have l0 := q0.lt
    have b0 : Y5.cell? ⟨p12, 0, none⟩ = some (.slice (some ⟨ba, oa, none⟩) S.offs.length c1) := q12.cell 0
    have b1 : Y5.cell? ⟨p12, 1, none⟩ = some (.int .i64 er) := q12.cell 1
    have b2 : Y5.cell? ⟨p12, 2, none⟩ = some (.slice Ab' S.baths.length cb') := q12.cell 2
    have l12 := q12.lt
    rw [← HER.out] at b1
    clear hs1
    go_wp2_with fail
    refine (Works_law w0 Ar cr Y5 ((hr.below B_Y5).up B_Y5.size) (by omega)).mono ?_
    rintro e Y6 ⟨⟨A8, c8, rfl, s8⟩, hY6⟩
    replace q0 := q0.below hY6 q0.lt
    replace q12 := q12.below hY6 q12.lt
    replace hpr := hpr.below hY6
    replace sa := (sa.below hY6).up hY6.size
    have B_Y6 := ex_trans B_Y5 hY6
    clear a0 a1 a2 l0 b0 b1 b2 l12
    have a0 : Y6.cell? ⟨w.heap.size, 0, none⟩ = some (.slice Ar w0.rng.length cr) := q0.cell 0
    have a1 : Y6.cell? ⟨w.heap.size, 1, none⟩ = some (.int .i64 w0.room) := q0.cell 1
    have a2 : Y6.cell? ⟨w.heap.size, 2, none⟩ = some (.int .i64 w0.steps) := q0.cell 2
    have l0 := q0.lt
    have b0 : Y6.cell? ⟨p12, 0, none⟩ = some (.slice (some ⟨ba, oa, none⟩) S.offs.length c1) := q12.cell 0
    have b1 : Y6.cell? ⟨p12, 1, none⟩ = some (.int .i64 er) := q12.cell 1
    have b2 : Y6.cell? ⟨p12, 2, none⟩ = some (.slice Ab' S.baths.length cb') := q12.cell 2
    have l12 := q12.lt
    rw [← HER.out] at b1
    go_wp2_with fail
    refine (Known_any w0 A8 c8 r Aq cq rAq rcq Y6 s8 (by omega) hpr HSR.out).mono ?_
    rintro e Y7 ⟨⟨Ak, kl, ck, ek, rfl, hkv, hkl6, sk⟩, hY7⟩
    replace q0 := q0.below hY7 q0.lt
    replace q12 := q12.below hY7 q12.lt
    replace hpr := hpr.below hY7
    replace sa := (sa.below hY7).up hY7.size
    replace s8 := (s8.below hY7).up hY7.size
    have B_Y7 := ex_trans B_Y6 hY7
    clear a0 a1 a2 l0 b0 b1 b2 l12
    have a0 : Y7.cell? ⟨w.heap.size, 0, none⟩ = some (.slice Ar w0.rng.length cr) := q0.cell 0
    have a1 : Y7.cell? ⟨w.heap.size, 1, none⟩ = some (.int .i64 w0.room) := q0.cell 1
    have a2 : Y7.cell? ⟨w.heap.size, 2, none⟩ = some (.int .i64 w0.steps) := q0.cell 2
    have l0 := q0.lt
    have b0 : Y7.cell? ⟨p12, 0, none⟩ = some (.slice (some ⟨ba, oa, none⟩) S.offs.length c1) := q12.cell 0
    have b1 : Y7.cell? ⟨p12, 1, none⟩ = some (.int .i64 er) := q12.cell 1
    have b2 : Y7.cell? ⟨p12, 2, none⟩ = some (.slice Ab' S.baths.length cb') := q12.cell 2
    have l12 := q12.lt
    rw [← HER.out] at b1
    clear s8
    obtain ⟨rfl, rfl, hla, hkl, HEND⟩ := HOE.out HRV.out ha.out hkv.out
    rw [hla] at sa ⊢
    rw [hkl] at sk ⊢
    clear hla hkl ha hkv hkl6 HOE
    go_wp2_with fail
    clear a0 a1 a2 l0 b0 b1 b2 l12
    refine wp_loop (fun a W => Rel (fun a W => ∃ i : Nat, i ≤ w0.rng.length ∧ Below Y7.heap.size Y7 W ∧ ∃ u : Nat → Value, a = ⟨List.toArray (u 0 :: u 1 :: u 2 :: u 3 :: .pointer (some ⟨w.heap.size, 0, none⟩) :: u 5 :: u 6 :: u 7 :: .bool false :: u 9 :: u 10 :: u 11 :: .pointer (some ⟨p12, 0, none⟩) :: u 13 :: u 14 :: u 15 :: u 16 :: u 17 :: u 18 :: .slice Aa w0.rng.length ca :: u 20 :: .slice Ak w0.rng.length ck :: u 22 :: .int .i64 (i : Int) :: u 24 :: u 25 :: u 26 :: u 27 :: u 28 :: u 29 :: u 30 :: u 31 :: u 32 :: u 33 :: u 34 :: u 35 :: u 36 :: u 37 :: u 38 :: u 39 :: u 40 :: u 41 :: u 42 :: u 43 :: u 44 :: u 45 :: u 46 :: u 47 :: u 48 :: u 49 :: u 50 :: u 51 :: u 52 :: u 53 :: u 54 :: u 55 :: u 56 :: u 57 :: u 58 :: u 59 :: u 60 :: u 61 :: u 62 :: u 63 :: u 64 :: u 65 :: u 66 :: u 67 :: u 68 :: u 69 :: u 70 :: u 71 :: u 72 :: u 73 :: u 74 :: u 75 :: u 76 :: u 77 :: u 78 :: u 79 :: u 80 :: u 81 :: u 82 :: u 83 :: u 84 :: u 85 :: u 86 :: u 87 :: u 88 :: u 89 :: u 90 :: u 91 :: u 92 :: u 93 :: u 94 :: u 95 :: u 96 :: u 97 :: u 98 :: u 99 :: u 100 :: u 101 :: u 102 :: u 103 :: u 104 :: u 105 :: u 106 :: u 107 :: u 108 :: u 109 :: u 110 :: u 111 :: u 112 :: u 113 :: u 114 :: u 115 :: u 116 :: u 117 :: u 118 :: u 119 :: u 120 :: u 121 :: u 122 :: u 123 :: u 124 :: u 125 :: u 126 :: u 127 :: u 128 :: u 129 :: u 130 :: u 131 :: u 132 :: u 133 :: u 134 :: u 135 :: u 136 :: u 137 :: u 138 :: u 139 :: u 140 :: u 141 :: u 142 :: u 143 :: u 144 :: u 145 :: u 146 :: u 147 :: u 148 :: u 149 :: u 150 :: u 151 :: u 152 :: u 153 :: u 154 :: u 155 :: u 156 :: u 157 :: u 158 :: u 159 :: u 160 :: u 161 :: u 162 :: u 163 :: u 164 :: u 165 :: u 166 :: u 167 :: u 168 :: u 169 :: u 170 :: u 171 :: u 172 :: u 173 :: u 174 :: u 175 :: u 176 :: u 177 :: u 178 :: u 179 :: u 180 :: u 181 :: u 182 :: u 183 :: u 184 :: u 185 :: u 186 :: u 187 :: u 188 :: u 189 :: u 190 :: u 191 :: u 192 :: u 193 :: u 194 :: u 195 :: u 196 :: u 197 :: u 198 :: u 199 :: u 200 :: u 201 :: u 202 :: u 203 :: u 204 :: u 205 :: u 206 :: u 207 :: u 208 :: u 209 :: u 210 :: u 211 :: u 212 :: u 213 :: u 214 :: u 215 :: u 216 :: u 217 :: u 218 :: u 219 :: u 220 :: u 221 :: u 222 :: u 223 :: u 224 :: u 225 :: u 226 :: u 227 :: u 228 :: u 229 :: []), []⟩) a W)
      (fun a _ => w0.rng.length - (intOf (a.tmps.getD 23 undef)).toNat) ⟨⟨0, by omega, Below.refl _ _, exFrame (by kernel_rfl)⟩⟩ ?_
    rintro a Z ⟨⟨i, hi, hb, u, rfl⟩⟩
    have B_Z := ex_trans B_Y7 hb
    replace q0 := q0.below hb q0.lt
    replace q12 := q12.below hb q12.lt
    by_cases hli : i < w0.rng.length
    rotate_left
    · clear q0 q12
      go_wp2_with fail
      refine (wakes_any _).mono ?_
      rintro e Wz ⟨rfl, hz⟩
      go_wp2
      go_ret
      exact ⟨rfl, ex_trans B_Z hz⟩
    have a0 : Z.cell? ⟨w.heap.size, 0, none⟩ = some (.slice Ar w0.rng.length cr) := q0.cell 0
    have a1 : Z.cell? ⟨w.heap.size, 1, none⟩ = some (.int .i64 w0.room) := q0.cell 1
    have a2 : Z.cell? ⟨w.heap.size, 2, none⟩ = some (.int .i64 w0.steps) := q0.cell 2
    have l0 := q0.lt
    have b0 : Z.cell? ⟨p12, 0, none⟩ = some (.slice (some ⟨ba, oa, none⟩) S.offs.length c1) := q12.cell 0
    have b1 : Z.cell? ⟨p12, 1, none⟩ = some (.int .i64 er) := q12.cell 1
    have b2 : Z.cell? ⟨p12, 2, none⟩ = some (.slice Ab' S.baths.length cb') := q12.cell 2
    have l12 := q12.lt
    obtain ⟨br, orr, rfl, hbr, r0, r1⟩ := IsRgs.at_ (sa.below hb) hli
    obtain ⟨br', orr', e9, _, s0, s1⟩ := IsRgs.at_ (sa.below hb) (show 0 < w0.rng.length by omega)
    injection e9 with e9
    injection e9 with e90 e91 e92
    subst e90 e91
    clear e92
    simp only [Nat.zero_mul, Nat.add_zero] at s0 s1
    obtain ⟨bk, ok, rfl, hbk, t0⟩ := IsInts.at_ (sk.below hb) hli
    have lbr : br < Z.heap.size := by have := hb.size; omega
    have lbk : bk < Z.heap.size := by have := hb.size; omega
    obtain ⟨h1, h2, h3, h4, h5, h6, h7⟩ := HEND.out i hli
    obtain ⟨_, _, h8, h9, _, _, _⟩ := HEND.out 0 (by omega)
    have h10 := HOK.out.steps
    obtain ⟨kv, hkv⟩ : ∃ kv, gI kl i = kv := ⟨_, rfl⟩
    rw [hkv] at h1 h2 h6 h7 t0
    clear hkv
    have d1 : decide (kv < 0) = false := decide_eq_false (by omega)
    have d2 : decide (w0.steps < kv) = false := decide_eq_false (by omega)
    have k1 : IntKind.i64.wrap ((gR la i).hi - (gR la i).lo) = (gR la i).hi - (gR la i).lo := IntWalk.i64_in _ (by omega)
    have k3 : IntKind.i64.wrap ((gR la 0).hi - (gR la 0).lo) = (gR la 0).hi - (gR la 0).lo := IntWalk.i64_in _ (by omega)
    have k4 : IntKind.i64.wrap (4 * er) = 4 * er := IntWalk.i64_in _ (by omega)
    have k5 : IntKind.i64.wrap (4 * er * kv) = 4 * er * kv := IntWalk.i64_in _ (by omega)
    have k6 : IntKind.i64.wrap ((gR la 0).hi - (gR la 0).lo + 4 * er * kv) = (gR la 0).hi - (gR la 0).lo + 4 * er * kv := IntWalk.i64_in _ (by omega)
    have d3 : decide ((gR la 0).hi - (gR la 0).lo + 4 * er * kv < (gR la i).hi - (gR la i).lo) = false := decide_eq_false (by omega)
    clear h1 h2 h3 h4 h5 h6 h7 h8 h9 h10
    go_wp2_with fail
    refine wp_region_ext_mix 45 ((false, 0) :: (false, 1) :: (false, 2) :: (false, 3) :: (false, 4) :: (false, 5) :: (false, 6) :: (false, 7) :: (false, 8) :: (false, 9) :: (false, 10) :: (false, 11) :: (false, 12) :: (false, 13) :: (false, 14) :: (false, 15) :: (false, 16) :: (false, 17) :: (false, 18) :: (false, 19) :: (false, 20) :: (false, 21) :: (false, 22) :: (false, 23) :: (false, 24) :: (false, 25) :: (false, 26) :: (false, 27) :: (false, 28) :: (false, 29) :: (false, 30) :: (false, 31) :: (false, 32) :: (false, 33) :: (false, 34) :: (false, 35) :: (false, 36) :: (false, 37) :: (false, 38) :: (false, 39) :: (false, 40) :: (false, 41) :: (false, 42) :: (false, 43) :: (false, 44) :: []) (by kernel_rfl) (by kernel_rfl) (by intro d _ _ _ _ h; cases d <;> exact h) ?_
    repeat (refine mix_quiet rfl ?_; go_big_quiet_step (fail); refine wpQuiet_nil ?_)
    refine mix_nil rfl ?_
    go_wp2_with fail
    refine ⟨⟨i + 1, by omega, hb.drew, exFrame (by kernel_rfl)⟩, ?_⟩
    show w0.rng.length - (intOf (.int .i64 ((i : Int) + 1))).toNat < w0.rng.length - (intOf (.int .i64 (i : Int))).toNat
    simp [intOf]
    omega
  obtain ⟨bd, od, rfl, hbd, g0, g1⟩ := IsDps.at_ (hpb.below hbl).rows hlt
  have hdI := hpb.ins k hlt
  have hdo := HDP.out k hlt
  have hrm := HRO.out
  have lbd : bd < W5.heap.size := by
    obtain ⟨b', o', e, hb', _⟩ := IsDps.at_ hpb.rows hlt
    injection e with e
    injection e with e
    omega
  have hlen : X.length = k := by
    have := congrArg List.length HL.out
    rwa [List.length_map, List.length_map, List.length_range] at this
  have hht : 0 ≤ (gDp r k).heat ∧ (gDp r k).heat ≤ 1000 := by
    have h1 := hdo.len.1
    have h2 := hdo.ins 0 (by omega)
    have h3 := hdo.heat 0 (by omega)
    have h4 := HOK.out.rng (gI (gDp r k).ins 0).toNat (by omega)
    omega
  have hil : (gDp r k).ins.length ≤ 6 := by have := hdo.len.2; omega
  obtain ⟨ht, hhe⟩ : ∃ ht, (gDp r k).heat = ht := ⟨_, rfl⟩
  obtain ⟨is, his⟩ : ∃ is, (gDp r k).ins = is := ⟨_, rfl⟩
  obtain ⟨Ai, hAi⟩ : ∃ Ai, rAb k = Ai := ⟨_, rfl⟩
  obtain ⟨ci, hci⟩ : ∃ ci, rcb k = ci := ⟨_, rfl⟩
  have HGD : Hid (∀ Y, Below W5.heap.size W5 Y → Y.cell? ⟨bd, od + k * 2, none⟩ = some (.int .i64 ht) ∧ Y.cell? ⟨bd, od + k * 2 + 1, none⟩ = some (.slice Ai is.length ci)) := Lib.hid (fun Y hY => by
    obtain ⟨b', o', e, _, h3, h4⟩ := IsDps.at_ (hpb.rows.below hY) hlt
    injection e with e
    injection e with e1 e2
    subst e1 e2
    rw [h3, h4, hhe, his, hAi, hci]
    exact ⟨rfl, rfl⟩)
  have HBK : Hid (stepB r k = ⟨⟨max 0 (ht - 5), min 1000 (ht + 5)⟩, is.map (fun n => (⟨n, 0⟩ : Rd))⟩) := Lib.hid (by unfold stepB; rw [hhe, his])
  rw [hhe] at hht g0
  rw [his, hAi] at hdI
  rw [his, hAi, hci] at g1
  rw [his] at hil
  have hxl : X.length ≤ 1000 := by omega
  clear hhe his hAi hci hlen hdo hrm
  have lbW : bd < W.heap.size := by have := hbl.size; omega
  have kl : IntKind.i64.wrap (ht - 5) = ht - 5 := IntWalk.i64_in _ (by omega)
  have kh : IntKind.i64.wrap (ht + 5) = ht + 5 := IntWalk.i64_in _ (by omega)
  obtain ⟨px, hpx⟩ : ∃ px, W.heap.size = px := ⟨_, rfl⟩
  have HPX := Lib.hid hpx
  clear hpx
  go_upto_region 13 with fail
  refine wp_cut (fun a W2 => Rel (fun a W2 => (Below W.heap.size W W2 ∧ Blk W2 px 82 #[.int .i64 (max 0 (ht - 5)), .int .i64 (min 1000 (ht + 5)), .slice none 0 0]) ∧ ∃ u : Nat → Value, a = ⟨List.toArray (u 0 :: u 1 :: u 2 :: .slice Aw ws.length cw :: .pointer (some ⟨w.heap.size, 0, none⟩) :: u 5 :: u 6 :: u 7 :: .bool false :: .slice Aq r.length cq :: u 10 :: .slice (some ⟨bd, od, none⟩) r.length cb :: .pointer (some ⟨p12, 0, none⟩) :: .int .i64 (k : Int) :: .pointer (some ⟨px, 0, none⟩) :: u 15 :: u 16 :: u 17 :: u 18 :: u 19 :: u 20 :: u 21 :: u 22 :: u 23 :: u 24 :: u 25 :: u 26 :: u 27 :: u 28 :: u 29 :: u 30 :: u 31 :: u 32 :: u 33 :: u 34 :: u 35 :: u 36 :: u 37 :: u 38 :: u 39 :: u 40 :: u 41 :: u 42 :: u 43 :: u 44 :: u 45 :: u 46 :: u 47 :: u 48 :: u 49 :: u 50 :: u 51 :: u 52 :: u 53 :: u 54 :: u 55 :: u 56 :: u 57 :: u 58 :: u 59 :: u 60 :: u 61 :: u 62 :: u 63 :: u 64 :: u 65 :: u 66 :: u 67 :: u 68 :: u 69 :: u 70 :: u 71 :: u 72 :: u 73 :: u 74 :: u 75 :: u 76 :: u 77 :: u 78 :: u 79 :: u 80 :: u 81 :: u 82 :: u 83 :: u 84 :: u 85 :: u 86 :: u 87 :: u 88 :: u 89 :: u 90 :: u 91 :: u 92 :: u 93 :: u 94 :: u 95 :: u 96 :: u 97 :: u 98 :: u 99 :: u 100 :: u 101 :: u 102 :: u 103 :: u 104 :: u 105 :: u 106 :: u 107 :: u 108 :: u 109 :: u 110 :: u 111 :: u 112 :: u 113 :: u 114 :: u 115 :: u 116 :: u 117 :: u 118 :: u 119 :: u 120 :: u 121 :: u 122 :: u 123 :: u 124 :: u 125 :: u 126 :: u 127 :: u 128 :: u 129 :: u 130 :: u 131 :: u 132 :: u 133 :: u 134 :: u 135 :: u 136 :: u 137 :: u 138 :: u 139 :: u 140 :: u 141 :: u 142 :: u 143 :: u 144 :: u 145 :: u 146 :: u 147 :: u 148 :: u 149 :: u 150 :: u 151 :: u 152 :: u 153 :: u 154 :: u 155 :: u 156 :: u 157 :: u 158 :: u 159 :: u 160 :: u 161 :: u 162 :: u 163 :: u 164 :: u 165 :: u 166 :: u 167 :: u 168 :: u 169 :: u 170 :: u 171 :: u 172 :: u 173 :: u 174 :: u 175 :: u 176 :: u 177 :: u 178 :: u 179 :: u 180 :: u 181 :: u 182 :: u 183 :: u 184 :: u 185 :: u 186 :: u 187 :: u 188 :: u 189 :: u 190 :: u 191 :: u 192 :: u 193 :: u 194 :: u 195 :: u 196 :: u 197 :: u 198 :: u 199 :: u 200 :: u 201 :: u 202 :: u 203 :: u 204 :: u 205 :: u 206 :: u 207 :: u 208 :: u 209 :: u 210 :: u 211 :: u 212 :: u 213 :: u 214 :: u 215 :: u 216 :: u 217 :: u 218 :: u 219 :: u 220 :: u 221 :: u 222 :: u 223 :: u 224 :: u 225 :: u 226 :: u 227 :: u 228 :: u 229 :: []), []⟩) a W2) ?_ ?_
  rotate_left
  · intro J K' hJ hK
    go_wp2_with fail
    refine wp_region_ext_tq 17 (.quiet 0 (.quiet 1 (.quiet 2 (.quiet 3 (.quiet 4 (.quiet 5 (.quiet 7 (.quiet 8 (.quiet 9 (.quiet 10 (.quiet 11 (.quiet 12 (.fork3 6 (.fork 13 (.quiet 14 (.quiet 15 (.loud 16 .done))) 16 (.loud 13 (.quiet 14 (.quiet 15 .done)))) 13 (.fork 6 (.quiet 14 (.quiet 15 (.loud 16 .done))) 16 (.loud 6 (.quiet 14 (.quiet 15 .done)))) 16 (.fork 6 (.loud 13 (.quiet 14 (.quiet 15 .done))) 13 (.loud 6 (.quiet 14 (.quiet 15 .done))))))))))))))))) (by kernel_rfl) (by kernel_rfl) (by intro d _ _ _ _ h; cases d <;> exact h) ?_
    have X_D := (Below.refl W.heap.size W).drew
    repeat (refine tq_quiet rfl ?_; go_big_quiet_step (fail); refine wpQuiet_nil ?_)
    refine tq_fork3 rfl rfl rfl ?_ ?_ ?_
    · go_wp2_with fail
      refine ⟨inEx X_D, ?_⟩
      repeat (refine tq_quiet rfl ?_; go_big_quiet_step (fail); refine wpQuiet_nil ?_)
      refine tq_fork rfl rfl ?_ ?_
      · go_wp2_with fail
        refine ⟨inEx X_D, ?_⟩
        repeat (refine tq_quiet rfl ?_; go_big_quiet_step (fail); refine wpQuiet_nil ?_)
        refine tq_loud rfl ?_
        go_wp2_with fail
        refine ⟨inEx (ex_alloc X_D (.cells #[.int .i64 0, .int .i64 0, .slice none 0 0] 82)), ?_⟩
        repeat (refine tq_quiet rfl ?_; go_big_quiet_step (fail); refine wpQuiet_nil ?_)
        refine tq_done (r := [_]) rfl ?_
        go_wp2_with fail
        refine Met.intro (hJ _ _ ⟨⟨⟨ex_alloc X_D (.cells #[.int .i64 (max 0 (ht - 5)), .int .i64 (min 1000 (ht + 5)), .slice none 0 0] 82), Blk.new' _ _ _ HPX.out⟩, exFrame (by rw [← HPX.out]; kernel_rfl)⟩⟩)
      · go_wp2_with fail
        refine ⟨inEx (ex_alloc X_D (.cells #[.int .i64 0, .int .i64 0, .slice none 0 0] 82)), ?_⟩
        repeat (refine tq_quiet rfl ?_; go_big_quiet_step (fail); refine wpQuiet_nil ?_)
        refine tq_loud rfl ?_
        go_wp2_with fail
        refine ⟨inEx (ex_alloc X_D (.cells #[.int .i64 0, .int .i64 0, .slice none 0 0] 82)), ?_⟩
        repeat (refine tq_quiet rfl ?_; go_big_quiet_step (fail); refine wpQuiet_nil ?_)
        refine tq_done (r := [_]) rfl ?_
        go_wp2_with fail
        refine Met.intro (hJ _ _ ⟨⟨⟨ex_alloc X_D (.cells #[.int .i64 (max 0 (ht - 5)), .int .i64 (min 1000 (ht + 5)), .slice none 0 0] 82), Blk.new' _ _ _ HPX.out⟩, exFrame (by rw [← HPX.out]; kernel_rfl)⟩⟩)
    · go_wp2_with fail
      refine ⟨inEx X_D, ?_⟩
      repeat (refine tq_quiet rfl ?_; go_big_quiet_step (fail); refine wpQuiet_nil ?_)
      refine tq_fork rfl rfl ?_ ?_
      · go_wp2_with fail
        refine ⟨inEx X_D, ?_⟩
        repeat (refine tq_quiet rfl ?_; go_big_quiet_step (fail); refine wpQuiet_nil ?_)
        refine tq_loud rfl ?_
        go_wp2_with fail
        refine ⟨inEx (ex_alloc X_D (.cells #[.int .i64 0, .int .i64 0, .slice none 0 0] 82)), ?_⟩
        repeat (refine tq_quiet rfl ?_; go_big_quiet_step (fail); refine wpQuiet_nil ?_)
        refine tq_done (r := [_]) rfl ?_
        go_wp2_with fail
        refine Met.intro (hJ _ _ ⟨⟨⟨ex_alloc X_D (.cells #[.int .i64 (max 0 (ht - 5)), .int .i64 (min 1000 (ht + 5)), .slice none 0 0] 82), Blk.new' _ _ _ HPX.out⟩, exFrame (by rw [← HPX.out]; kernel_rfl)⟩⟩)
      · go_wp2_with fail
        refine ⟨inEx (ex_alloc X_D (.cells #[.int .i64 0, .int .i64 0, .slice none 0 0] 82)), ?_⟩
        repeat (refine tq_quiet rfl ?_; go_big_quiet_step (fail); refine wpQuiet_nil ?_)
        refine tq_loud rfl ?_
        go_wp2_with fail
        refine ⟨inEx (ex_alloc X_D (.cells #[.int .i64 0, .int .i64 0, .slice none 0 0] 82)), ?_⟩
        repeat (refine tq_quiet rfl ?_; go_big_quiet_step (fail); refine wpQuiet_nil ?_)
        refine tq_done (r := [_]) rfl ?_
        go_wp2_with fail
        refine Met.intro (hJ _ _ ⟨⟨⟨ex_alloc X_D (.cells #[.int .i64 (max 0 (ht - 5)), .int .i64 (min 1000 (ht + 5)), .slice none 0 0] 82), Blk.new' _ _ _ HPX.out⟩, exFrame (by rw [← HPX.out]; kernel_rfl)⟩⟩)
    · go_wp2_with fail
      refine ⟨inEx (ex_alloc X_D (.cells #[.int .i64 0, .int .i64 0, .slice none 0 0] 82)), ?_⟩
      repeat (refine tq_quiet rfl ?_; go_big_quiet_step (fail); refine wpQuiet_nil ?_)
      refine tq_fork rfl rfl ?_ ?_
      · go_wp2_with fail
        refine ⟨inEx (ex_alloc X_D (.cells #[.int .i64 0, .int .i64 0, .slice none 0 0] 82)), ?_⟩
        repeat (refine tq_quiet rfl ?_; go_big_quiet_step (fail); refine wpQuiet_nil ?_)
        refine tq_loud rfl ?_
        go_wp2_with fail
        refine ⟨inEx (ex_alloc X_D (.cells #[.int .i64 0, .int .i64 0, .slice none 0 0] 82)), ?_⟩
        repeat (refine tq_quiet rfl ?_; go_big_quiet_step (fail); refine wpQuiet_nil ?_)
        refine tq_done (r := [_]) rfl ?_
        go_wp2_with fail
        refine Met.intro (hJ _ _ ⟨⟨⟨ex_alloc X_D (.cells #[.int .i64 (max 0 (ht - 5)), .int .i64 (min 1000 (ht + 5)), .slice none 0 0] 82), Blk.new' _ _ _ HPX.out⟩, exFrame (by rw [← HPX.out]; kernel_rfl)⟩⟩)
      · go_wp2_with fail
        refine ⟨inEx (ex_alloc X_D (.cells #[.int .i64 0, .int .i64 0, .slice none 0 0] 82)), ?_⟩
        repeat (refine tq_quiet rfl ?_; go_big_quiet_step (fail); refine wpQuiet_nil ?_)
        refine tq_loud rfl ?_
        go_wp2_with fail
        refine ⟨inEx (ex_alloc X_D (.cells #[.int .i64 0, .int .i64 0, .slice none 0 0] 82)), ?_⟩
        repeat (refine tq_quiet rfl ?_; go_big_quiet_step (fail); refine wpQuiet_nil ?_)
        refine tq_done (r := [_]) rfl ?_
        go_wp2_with fail
        refine Met.intro (hJ _ _ ⟨⟨⟨ex_alloc X_D (.cells #[.int .i64 (max 0 (ht - 5)), .int .i64 (min 1000 (ht + 5)), .slice none 0 0] 82), Blk.new' _ _ _ HPX.out⟩, exFrame (by rw [← HPX.out]; kernel_rfl)⟩⟩)
  rintro a' W2 ⟨⟨⟨hW2, HX0⟩, u, rfl⟩⟩
  clear g0 g1 kl kh lbW
  have hX2s : px + 1 ≤ W2.heap.size := HX0.lt
  go_wp2_with fail
  refine wp_loop (fun a Y => Rel (fun a Y => ∃ i : Nat, i ≤ is.length ∧ Below W.heap.size W Y ∧ px + 1 ≤ Y.heap.size ∧ ∃ A3 c3, ∃ L3 : List Rd, Hid (L3 = (is.take i).map (fun n => (⟨n, 0⟩ : Rd))) ∧ Blk Y px 82 #[.int .i64 (max 0 (ht - 5)), .int .i64 (min 1000 (ht + 5)), .slice A3 L3.length c3] ∧ Y.ownsRow (px + 1) 89 2 (.slice A3 L3.length c3) L3.length (L3.flatMap cRd) ∧ ∃ u : Nat → Value, a = ⟨List.toArray (u 0 :: u 1 :: u 2 :: .slice Aw ws.length cw :: .pointer (some ⟨w.heap.size, 0, none⟩) :: u 5 :: u 6 :: u 7 :: .bool false :: .slice Aq r.length cq :: u 10 :: .slice (some ⟨bd, od, none⟩) r.length cb :: .pointer (some ⟨p12, 0, none⟩) :: .int .i64 (k : Int) :: .pointer (some ⟨px, 0, none⟩) :: .int .i64 (i : Int) :: u 16 :: u 17 :: u 18 :: u 19 :: u 20 :: u 21 :: u 22 :: u 23 :: u 24 :: u 25 :: u 26 :: u 27 :: u 28 :: u 29 :: u 30 :: u 31 :: u 32 :: u 33 :: u 34 :: u 35 :: u 36 :: u 37 :: u 38 :: u 39 :: u 40 :: u 41 :: u 42 :: u 43 :: u 44 :: u 45 :: u 46 :: u 47 :: u 48 :: u 49 :: u 50 :: u 51 :: u 52 :: u 53 :: u 54 :: u 55 :: u 56 :: u 57 :: u 58 :: u 59 :: u 60 :: u 61 :: u 62 :: u 63 :: u 64 :: u 65 :: u 66 :: u 67 :: u 68 :: u 69 :: u 70 :: u 71 :: u 72 :: u 73 :: u 74 :: u 75 :: u 76 :: u 77 :: u 78 :: u 79 :: u 80 :: u 81 :: u 82 :: u 83 :: u 84 :: u 85 :: u 86 :: u 87 :: u 88 :: u 89 :: u 90 :: u 91 :: u 92 :: u 93 :: u 94 :: u 95 :: u 96 :: u 97 :: u 98 :: u 99 :: u 100 :: u 101 :: u 102 :: u 103 :: u 104 :: u 105 :: u 106 :: u 107 :: u 108 :: u 109 :: u 110 :: u 111 :: u 112 :: u 113 :: u 114 :: u 115 :: u 116 :: u 117 :: u 118 :: u 119 :: u 120 :: u 121 :: u 122 :: u 123 :: u 124 :: u 125 :: u 126 :: u 127 :: u 128 :: u 129 :: u 130 :: u 131 :: u 132 :: u 133 :: u 134 :: u 135 :: u 136 :: u 137 :: u 138 :: u 139 :: u 140 :: u 141 :: u 142 :: u 143 :: u 144 :: u 145 :: u 146 :: u 147 :: u 148 :: u 149 :: u 150 :: u 151 :: u 152 :: u 153 :: u 154 :: u 155 :: u 156 :: u 157 :: u 158 :: u 159 :: u 160 :: u 161 :: u 162 :: u 163 :: u 164 :: u 165 :: u 166 :: u 167 :: u 168 :: u 169 :: u 170 :: u 171 :: u 172 :: u 173 :: u 174 :: u 175 :: u 176 :: u 177 :: u 178 :: u 179 :: u 180 :: u 181 :: u 182 :: u 183 :: u 184 :: u 185 :: u 186 :: u 187 :: u 188 :: u 189 :: u 190 :: u 191 :: u 192 :: u 193 :: u 194 :: u 195 :: u 196 :: u 197 :: u 198 :: u 199 :: u 200 :: u 201 :: u 202 :: u 203 :: u 204 :: u 205 :: u 206 :: u 207 :: u 208 :: u 209 :: u 210 :: u 211 :: u 212 :: u 213 :: u 214 :: u 215 :: u 216 :: u 217 :: u 218 :: u 219 :: u 220 :: u 221 :: u 222 :: u 223 :: u 224 :: u 225 :: u 226 :: u 227 :: u 228 :: u 229 :: []), []⟩) a Y)
    (fun a _ => is.length - (intOf (a.tmps.getD 15 undef)).toNat) ⟨⟨0, by omega, hW2, hX2s, none, 0, [], Lib.hid rfl, HX0, ⟨rfl, .inl ⟨rfl, rfl⟩⟩, exFrame (by kernel_rfl)⟩⟩ ?_
  clear HX0 hX2s hW2 W2
  rintro a Y ⟨⟨i, hi', hbX, hsY, A3, c3, L3, HL3, qx, own3, u, rfl⟩⟩
  have hbY := ex_trans hbl hbX
  have lx := qx.lt
  have g1 := (HGD.out Y hbY).2
  have lbY : bd < Y.heap.size := by have := hbY.size; omega
  have hpX := HPX.out
  by_cases hli : i < is.length
  · obtain ⟨bi, oi, rfl, hbi, r0⟩ := IsInts.at_ (hdI.below hbY) hli
    have lbi : bi < Y.heap.size := by have := hbY.size; omega
    have hlen3 : L3.length ≤ 1000 := by rw [HL3.out]; simp; omega
    obtain ⟨iv, hiv⟩ : ∃ iv, gI is i = iv := ⟨_, rfl⟩
    have HN3 : Hid (L3 ++ [⟨iv, 0⟩] = (is.take (i + 1)).map (fun n => (⟨n, 0⟩ : Rd))) := Lib.hid (step_snoc hli HL3.out hiv)
    rw [hiv] at r0
    clear hiv
    obtain ⟨row, hrow⟩ : ∃ row, (Value.slice A3 L3.length c3).ownBlock = row := ⟨_, rfl⟩
    have hge := fun (j : Nat) (hj : (Value.slice A3 L3.length c3).ownBlock = some j) => own_ge own3 hj
    have hws := hbl.size
    have hnx : ¬ some px = row := fun e => by have := hge _ (hrow.trans e.symm); omega
    have hnd : ¬ some bd = row := fun e => by have := hge _ (hrow.trans e.symm); omega
    have hni : ¬ some bi = row := fun e => by have := hge _ (hrow.trans e.symm); omega
    have hrw : ∀ j, row = some j → px + 1 ≤ j := fun j hj => hge _ (hrow.trans hj)
    have x2 : Y.cell? ⟨px, 2, none⟩ = some (.slice A3 L3.length c3) := qx.cell 2
    have HROW := Lib.hid hrow
    clear hrow hge
    go_wp2_with fail
    refine wp_region_gx_mix row 14 [(false, 0), (false, 1), (false, 2), (false, 3), (false, 4), (false, 5), (false, 6), (false, 7), (false, 8), (false, 9), (false, 10), (true, 11), (true, 12), (false, 13)] (by kernel_rfl) (by kernel_rfl) (by intro d _ _ _ _ h; cases d <;> exact h) ?_
    repeat (refine mix_quiet rfl ?_; go_big_quiet_step (fail); refine wpQuiet_nil ?_)
    have hX0 := (Below.refl Y.heap.size Y).drew
    refine mix_loud rfl ?_
    go_wp2_with fail
    have hX3 := ex_alloc hX0 (.cells #[.int .i64 iv, .int .i64 0] 89)
    refine ⟨inGx (grown_row hX3), ?_⟩
    repeat (refine mix_quiet rfl ?_; go_big_quiet_step (fail); refine wpQuiet_nil ?_)
    have y4 := own_below own3 hX3
    have c63 : L3.length + 1 ≤ maxLen := by unfold maxLen; omega
    have cby : (L3.length + 1) * 16 ≤ 140737488355328 := by omega
    have hbase : px + 1 ≤ (Y.drew.alloc (.cells #[.int .i64 iv, .int .i64 0] 89)).heap.size := by have := hX3.size; omega
    refine mix_loud rfl ?_
    go_wp2_with (at_builtin; refine wpList_append_lies _ rfl _ _ _ rfl (px + 1) 89 i1 _ 2 16 Try.underlying80 HJ.out hy0 hy1 hy2 rfl (by omega) (.slice A3 L3.length c3) _ _ rfl y4 ⟨Y.drew.heap.size, 0, none⟩ 1 1 [.int .i64 iv, .int .i64 0] rfl rfl (World.news_of_block (w := (Y.drew.alloc (.cells #[.int .i64 iv, .int .i64 0] 89))) (heap_alloc_new Y.drew _)) (by simp [Value.oneCell']) (by omega) c63 cby hbase (Y.drew.heap.size + 1) (by simp) ?_; intro gg cap w1 hown' hgrow hat hlt')
    rw [HROW.out] at hgrow
    have hgB := (grown_row (r := row) hX3).andThen hgrow (fun j hj => .inr hj)
    refine ⟨inGx hgB, ?_⟩
    repeat (refine mix_quiet rfl ?_; go_big_quiet_step (fail); refine wpQuiet_nil ?_)
    refine mix_nil rfl ?_
    have hX1 := hbX.grown hgB hbX.size (fun j hj => by have := hrw j hj; omega)
    have qx3 := qx.grown hgB hnx
    have x13 : w1.cell? ⟨px, 2, none⟩ = some (.slice A3 L3.length c3) := qx3.cell 2
    have lx3 := qx3.lt
    have fx3 := qx3.frozen0
    have qx4 := qx3.set_ 2 (.slice (some ⟨gg, 0, none⟩) (L3.length + 1) cap)
    simp only [List.setIfInBounds_toArray, List.set_cons_zero, List.set_cons_succ] at qx4
    have own4 := own_far (own_push (f := cRd) (x := ⟨iv, 0⟩) rfl hown') (p := ⟨px, 2, none⟩) (by show px < px + 1; omega) (.slice (some ⟨gg, 0, none⟩) (L3.length + 1) cap)
    have hB5 := ex_set hX1 (p := ⟨px, 2, none⟩) (by show W.heap.size ≤ px; omega) (.slice (some ⟨gg, 0, none⟩) (L3.length + 1) cap)
    have hs5 : px + 1 ≤ (w1.setCell ⟨px, 2, none⟩ (.slice (some ⟨gg, 0, none⟩) (L3.length + 1) cap)).heap.size := by have := hgB.size; simp; omega
    generalize hL4 : L3 ++ [(⟨iv, 0⟩ : Rd)] = L4 at *
    have hl4 : L3.length + 1 = L4.length := by rw [← hL4]; simp
    have HL5 := Lib.hid hl4
    clear hL4 hl4
    rw [HL5.out] at qx4 own4 hB5 hs5
    clear hown' hgB hgrow y4 hX3 hX0 hX1 own3 x2 g1 r0 hnx hnd hni qx
    go_wp2_with fail
    rw [HL5.out]
    refine ⟨⟨⟨i + 1, by omega, hB5, hs5, _, _, L4, HN3, qx4, own4, exFrame (by kernel_rfl)⟩⟩, ?_⟩
    show is.length - (intOf (.int .i64 ((i : Int) + 1))).toNat < is.length - (intOf (.int .i64 (i : Int))).toNat
    simp [intOf]
    omega
  obtain rfl : i = is.length := by omega
  obtain ⟨A5, c5, e5, _, _, hr5⟩ := own_row (c := cRd) (sz := 2) (fun _ => rfl) (f := fRd L3) (fun k hk j hj => by
    have e := gRd_at hk
    match j, hj with
    | 0, _ => simp [cRd, fRd, e]
    | 1, _ => simp [cRd, fRd, e]) own3
  injection e5 with e5 _ e52
  subst e5 e52
  have hNY := hN.below hbX
  have q2Y := q12.below hbX q12.lt
  have l2 := q2Y.lt
  clear own3
  have x0 : Y.cell? ⟨px, 0, none⟩ = some (.int .i64 (max 0 (ht - 5))) := qx.cell 0
  have x1 : Y.cell? ⟨px, 1, none⟩ = some (.int .i64 (min 1000 (ht + 5))) := qx.cell 1
  have x2 : Y.cell? ⟨px, 2, none⟩ = some (.slice A3 L3.length c3) := qx.cell 2
  have b2 : Y.cell? ⟨p12, 2, none⟩ = some v := q2Y.cell 2
  have c63 : X.length + 1 ≤ maxLen := by unfold maxLen; omega
  have cby : (X.length + 1) * 40 ≤ 140737488355328 := by omega
  have hZ := ex_alloc (Below.refl Y.heap.size Y) (.cells #[.int .i64 (max 0 (ht - 5)), .int .i64 (min 1000 (ht + 5)), .slice A3 L3.length c3] 82)
  have y4 := hNY.own.alloc (.cells #[.int .i64 (max 0 (ht - 5)), .int .i64 (min 1000 (ht + 5)), .slice A3 L3.length c3] 82)
  have hws := hbl.size
  have hbase : p12 + 1 ≤ (Y.alloc (.cells #[.int .i64 (max 0 (ht - 5)), .int .i64 (min 1000 (ht + 5)), .slice A3 L3.length c3] 82)).heap.size := by have := hZ.size; have := hbX.size; omega
  have hge := fun (j : Nat) (hj : v.ownBlock = some j) => own_ge hNY.own hj
  have hn2 : some p12 ≠ v.ownBlock := fun e => by have := hge _ e.symm; omega
  have q2Z := q2Y.below hZ l2
  go_wp2_with (refine pause_at 130 rfl ?_)
  refine Paused.mk ?_
  refine wpList_append_lies _ rfl _ _ _ rfl (p12 + 1) 82 i2 _ 3 40 Try.underlying23 HK.out hu0 hu1 hu2 rfl (by omega) v _ _ rfl y4 ⟨Y.heap.size, 0, none⟩ 1 1 [.int .i64 (max 0 (ht - 5)), .int .i64 (min 1000 (ht + 5)), .slice A3 L3.length c3] rfl rfl (World.news_of_block (heap_alloc_new Y _)) (by simp [Value.oneCell']) (by omega) c63 cby hbase (Y.heap.size + 1) (by simp) ?_
  intro gg cap w1 hown' hgrow hat hlt'
  have q23 := q2Z.grown hgrow hn2
  have b23 : w1.cell? ⟨p12, 2, none⟩ = some v := q23.cell 2
  have l23 := q23.lt
  have f23 := q23.frozen0
  go_wp2_with fail
  have hN3 : ROwn w1 (p12 + 1) (.slice (some ⟨gg, 0, none⟩) (X.length + 1) cap) (X ++ [((⟨⟨(max 0 (ht - 5)), (min 1000 (ht + 5))⟩, L3⟩ : Bt), A3, c3)]) :=
    NOwn.push (hNY.below hZ) hgrow (by decide) rfl (own_push (f := cB) (x := ((⟨⟨(max 0 (ht - 5)), (min 1000 (ht + 5))⟩, L3⟩ : Bt), A3, c3)) rfl hown') (fun y hy => by
      obtain rfl := List.mem_singleton.1 hy
      exact (hr5.below hZ).base (by omega))
  have HN : Hid ((X ++ [((⟨⟨(max 0 (ht - 5)), (min 1000 (ht + 5))⟩, L3⟩ : Bt), A3, c3)]).map (·.1) = (List.range (k + 1)).map (stepB r)) := Lib.hid (by
    rw [List.map_append, HL.out, List.range_succ, List.map_append, List.map_singleton, List.map_singleton, HBK.out, HL3.out, List.take_length])
  generalize X ++ [((⟨⟨(max 0 (ht - 5)), (min 1000 (ht + 5))⟩, L3⟩ : Bt), A3, c3)] = X' at *
  have hp12 := HP12.out
  have B3 : Below W5.heap.size W5 w1 := (ex_trans hbY hZ).grown hgrow (by have := hbY.size; have := hZ.size; omega) (fun j hj => by have := hge j hj; omega)
  have B4 := ex_set B3 (p := ⟨p12, 2, none⟩) (by show W5.heap.size ≤ p12; omega) (.slice (some ⟨gg, 0, none⟩) (X.length + 1) cap)
  have q24 := q23.set_ 2 (.slice (some ⟨gg, 0, none⟩) (X.length + 1) cap)
  simp only [List.setIfInBounds_toArray, List.set_cons_zero, List.set_cons_succ] at q24
  have hN4 := hN3.set q23 (by decide) (by decide) 2 (.slice (some ⟨gg, 0, none⟩) (X.length + 1) cap)
  have hs4 : p12 + 1 ≤ (w1.setCell ⟨p12, 2, none⟩ (.slice (some ⟨gg, 0, none⟩) (X.length + 1) cap)).heap.size := by have := hgrow.size; simp; omega
  refine ⟨⟨⟨k + 1, by omega, B4, hs4, _, X', HN, q24, hN4, exFrame (by kernel_rfl)⟩⟩, ?_⟩
  show r.length - (intOf (.int .i64 ((k : Int) + 1))).toNat < r.length - (intOf (.int .i64 (k : Int))).toNat
  simp [intOf]
  omega
end Go.Proofs.Ytnplefhigbkbbaa
end
