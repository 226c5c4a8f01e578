/- Bath's laws: ready, BathMore (walks). -/
import Derived.Test.YtnplefhigbkbbaaM13
import Derived.Test.YtnplefhigbkbbaaM8
set_option linter.unusedVariables false
set_option linter.unusedSimpArgs false
set_option linter.unusedSectionVars false
section
namespace Go.Proofs.Ytnplefhigbkbbaa
open Go.RowKit
attribute [local go_sem] Ex.cell? Ex.frozen? Gx.cell?

set_option maxRecDepth 100000 in
set_option maxHeartbeats 1600000 in
theorem ready_law (s : Se) (Ao Ab : Option Addr) (co cb : Nat) (rA : Nat → Option Addr) (rc : Nat → Nat) (w : World) (hs : SeIn w w.heap.size s Ao Ab rA rc) (hol : s.offs.length ≤ maxLen) (hbl : s.baths.length ≤ maxLen) :
    Calls Try.prog 48 #[.agg #[.slice Ao s.offs.length co, .int .i64 s.err, .slice Ab s.baths.length cb]] w fun e w' => (∃ x : Bool, e = .returned (.bool x) ∧ Hid (x = true → Thn s ∧ SeOk s)) ∧ Below w.heap.size w w' := by
  have hb1 := ex_alloc (Below.refl w.heap.size w) (.cells #[.slice Ao s.offs.length co, .int .i64 s.err, .slice Ab s.baths.length cb] 25)
  have q1 : Blk (w.alloc (.cells #[.slice Ao s.offs.length co, .int .i64 s.err, .slice Ab s.baths.length cb] 25)) w.heap.size 25 #[.slice Ao s.offs.length co, .int .i64 s.err, .slice Ab s.baths.length cb] := Blk.new _ _ _
  go_enter Try.func48, Try.ntmps48
  go_wp2_with fail
  generalize w.alloc (.cells #[.slice Ao s.offs.length co, .int .i64 s.err, .slice Ab s.baths.length cb] 25) = V at *
  refine (Thin_law s Ao Ab co cb rA rc V (hs.go hb1) hol hbl).mono ?_
  rintro e V1 ⟨⟨x, rfl, hx⟩, hV1⟩
  have B1 := ex_trans hb1 hV1
  cases x
  · go_wp2
    go_ret
    exact ⟨⟨_, rfl, Lib.hid (fun h => by cases h)⟩, B1⟩
  have HT := Lib.hid (hx.out rfl)
  clear hx
  have q2 := q1.below hV1 q1.lt
  have l2 := q2.lt
  have a0 : V1.cell? ⟨w.heap.size, 0, none⟩ = some (.slice Ao s.offs.length co) := q2.cell 0
  have a1 : V1.cell? ⟨w.heap.size, 1, none⟩ = some (.int .i64 s.err) := q2.cell 1
  have a2 : V1.cell? ⟨w.heap.size, 2, none⟩ = some (.slice Ab s.baths.length cb) := q2.cell 2
  go_wp2_with fail
  refine (fault_law s Ao Ab co cb rA rc V1 ((hs.below B1).up B1.size) HT.out.sm).mono ?_
  rintro e V2 ⟨rfl, hV2⟩
  have B2 := ex_trans B1 hV2
  by_cases h0 : ckSe s = 0
  · have HOK := Lib.hid (seOk_iff.1 h0)
    rw [h0]
    go_wp2
    go_ret
    exact ⟨⟨_, rfl, Lib.hid (fun _ => ⟨HT.out, HOK.out⟩)⟩, B2⟩
  · have e1 : (ckSe s == 0) = false := by simp [h0]
    generalize ckSe s = ck at *
    go_wp2
    go_ret
    exact ⟨⟨_, rfl, Lib.hid (fun h => by cases h)⟩, B2⟩

set_option maxRecDepth 100000 in
theorem run_sliceLH (g off n c a : Nat) (ha : a + 1 ≤ n) (hn : n ≤ c) (w : World) : (Instr.sliceAt 49 (.slice (some ⟨g, off, none⟩) n c) (some (.int .i64 (a : Int))) (some (.int .i64 ((a : Int) + 1))) none).run Try.prog w = .ok (.slice (some ⟨g, off + a * 2, none⟩) 1 (c - a)) w := by
  have h1 : (a : Int) ≤ (a : Int) + 1 := by omega
  have h2 : (a : Int) + 1 ≤ (c : Int) := by omega
  have h3 : ¬ c = a := by omega
  have h4 : (0 : Int) ≤ (a : Int) := by omega
  have h5 : (0 : Int) ≤ (a : Int) + 1 := by omega
  have h6 : ((a : Int) + 1).toNat = a + 1 := by omega
  have h7 : a + 1 - a = 1 := by omega
  simp [Instr.sliceAt, Instr.slice, go_sem, run_underlying Try.underlying49, h1, h2, h3, h4, h5, h6, h7]
set_option maxRecDepth 100000 in
theorem wpList_sliceLH {ops : Array Oper} {rest : List Oper} {o : Oper} {a : Act} {Q : Exit → Act → World → Prop} (w : World) (hg : o.guard = none) (x y z : Operand) (hop : o.op = Op.slice 49 x (some y) (some z) none)
    (g off n c i : Nat) (ha : i + 1 ≤ n) (hn : n ≤ c) (hx : a.eval x = .slice (some ⟨g, off, none⟩) n c) (hy : a.eval y = .int .i64 (i : Int)) (hz : a.eval z = .int .i64 ((i : Int) + 1))
    (hK : wpList Try.prog ops Q rest (a.put o.dst (.slice (some ⟨g, off + i * 2, none⟩) 1 (c - i))) w) : wpList Try.prog ops Q (o :: rest) a w := by
  refine wpList_plain hg fun K hK' => ?_
  have hrun := run_sliceLH g off n c i ha hn w
  unfold Oper.wp
  simp only [execOp, hop, Option.map_some, Option.map_none, hx, hy, hz, Sem.run_bind, hrun, Result.andThen_ok, Sem.run_pure]
  exact hK' _ _ hK
theorem wo_thn {s : Se} {l : List (Nat × Nat)} (h : Thn s) : Thn (woS s l) := ⟨h.no, by rw [woS_len]; exact h.nb, fun b hb => by
  rw [woS_len] at hb
  rw [woS_at hb]
  exact Nat.le_trans keepTo_len (h.nr b hb)⟩
/-- a series with another error. -/
def errS (s : Se) (e : Int) : Se := ⟨s.offs, e, s.baths⟩
theorem errS_ok {s : Se} {e : Int} (hok : SeOk s) (he : 0 ≤ e ∧ e ≤ 20) : SeOk (errS s e) := ⟨hok.no, hok.nb, he, hok.offs, hok.heats, hok.inst, hok.once, hok.val⟩
theorem placeL_err {s : Se} {e : Int} : placeL (errS s e) = placeL s := by
  have h : ∀ k, placeB (errS s e) k = placeB s k := fun k => by
    induction k with
    | zero => rfl
    | succ k ih => rw [placeB, placeB, ih]; rfl
  exact h _
theorem errS_tru {s : Se} {e : Int} {o h : Nat → Int} (he : s.err ≤ e) (ht : Tru s (fun _ => false) o h) : Tru (errS s e) (fun _ => false) o h :=
  Tru.of_reads ht.offs ht.heats (fun b hb i hi => by
    have := ht.read (fun _ => rfl) hb hi
    show (gRd (gBt s.baths b).reads i).val - e ≤ h b + o (gRd (gBt s.baths b).reads i).inst.toNat ∧ h b + o (gRd (gBt s.baths b).reads i).inst.toNat ≤ (gRd (gBt s.baths b).reads i).val + e
    omega)
theorem woS_tru_of {s : Se} {l : List (Nat × Nat)} {o h : Nat → Int} (ht : Tru s (fun _ => false) o h) : Tru (woS s l) (fun _ => false) o h := woS_tru.2 ⟨ht.offs, ht.heats, fun b hb i hi _ => ht.read (fun _ => rfl) hb hi⟩
theorem ends_wide {Z Y : Int → Prop} {a b c d : Int} (h : EndsOf Z a b) (k : EndsOf Y c d) (hz : ∀ z, Z z → Y z) : c ≤ a ∧ b ≤ d := ⟨(k.2.2 a (hz a h.1)).1, (k.2.2 b (hz b h.2.1)).2⟩
theorem wid_of {Z Y : Nat → Int → Prop} {l m : List Rg} {n : Nat} (hl : l.length = n) (hm : m.length = n) (h1 : ∀ k, k < n → EndsOf (Z k) (gR l k).lo (gR l k).hi) (h2 : ∀ k, k < n → EndsOf (Y k) (gR m k).lo (gR m k).hi) (hz : ∀ k, k < n → ∀ z, Z k z → Y k z) : widB l m = true :=
  decide_eq_true ⟨hl.trans hm.symm, fun k hk => ends_wide (h1 k (by omega)) (h2 k (by omega)) (hz k (by omega))⟩
theorem rng_ok {s : Se} {n : Nat} {Z : Nat → Int → Prop} {l : List Rg} {ev : Int} (h : RngV s n Z l ev) (hok : SeOk s) : (¬ Can s ∧ ev = 9 ∧ l = []) ∨ (Can s ∧ ev = 0 ∧ l.length = n ∧ ∀ k, k < n → EndsOf (Z k) (gR l k).lo (gR l k).hi) := by
  rcases h with ⟨h1, _⟩ | ⟨_, h2, h3, h4⟩ | ⟨_, h2, h3, h4, h5⟩
  · exact absurd (seOk_iff.2 hok) h1
  · exact .inl ⟨h2, h3, h4⟩
  · exact .inr ⟨h2, h3, h4, h5⟩

set_option maxRecDepth 100000 in
set_option maxHeartbeats 12800000 in
theorem MoreLaw_any (s : Se) (Ao Ab : Option Addr) (co cb : Nat) (rA : Nat → Option Addr) (rc : Nat → Nat) (w : World) (hs : SeIn w w.heap.size s Ao Ab rA rc) (hol : s.offs.length ≤ maxLen) (hbl : s.baths.length ≤ maxLen) (wh by' : Int) (hw8 : 0 ≤ wh ∧ wh ≤ 255) (hb8 : 0 ≤ by' ∧ by' ≤ 255) :
    Calls Try.prog 8 #[.agg #[.slice Ao s.offs.length co, .int .i64 s.err, .slice Ab s.baths.length cb], .int .u8 wh, .int .u8 by'] w fun e w' => e = .returned (.bool true) ∧ Below w.heap.size w w' := by
  have B_V := ex_alloc (Below.refl w.heap.size w) (.cells #[.slice Ao s.offs.length co, .int .i64 s.err, .slice Ab s.baths.length cb] 25)
  have q0 : Blk (w.alloc (.cells #[.slice Ao s.offs.length co, .int .i64 s.err, .slice Ab s.baths.length cb] 25)) w.heap.size 25 #[.slice Ao s.offs.length co, .int .i64 s.err, .slice Ab s.baths.length cb] := Blk.new _ _ _
  have hm : maxLen = 9223372036854775807 := rfl
  go_enter Try.func8, Try.ntmps8
  go_wp2_with fail
  generalize w.alloc (.cells #[.slice Ao s.offs.length co, .int .i64 s.err, .slice Ab s.baths.length cb] 25) = V at *
  have q0_0 : V.cell? ⟨w.heap.size, 0, none⟩ = some (.slice Ao s.offs.length co) := q0.cell 0
  have q0_1 : V.cell? ⟨w.heap.size, 1, none⟩ = some (.int .i64 s.err) := q0.cell 1
  have q0_2 : V.cell? ⟨w.heap.size, 2, none⟩ = some (.slice Ab s.baths.length cb) := q0.cell 2
  have q0_l := q0.lt
  have hby : 0 ≤ by' ∧ by' ≤ 255 := hb8
  have hwh : 0 ≤ wh ∧ wh ≤ 255 := hw8
  refine (ready_law s Ao Ab co cb rA rc V ((hs.below B_V).up B_V.size) hol hbl).mono ?_
  rintro e W1 ⟨⟨x, rfl, hx⟩, hW1⟩
  replace q0 := q0.below hW1 q0.lt
  have B_W1 := ex_trans B_V hW1
  clear q0_0 q0_1 q0_2 q0_l
  have q0_0 : W1.cell? ⟨w.heap.size, 0, none⟩ = some (.slice Ao s.offs.length co) := q0.cell 0
  have q0_1 : W1.cell? ⟨w.heap.size, 1, none⟩ = some (.int .i64 s.err) := q0.cell 1
  have q0_2 : W1.cell? ⟨w.heap.size, 2, none⟩ = some (.slice Ab s.baths.length cb) := q0.cell 2
  have q0_l := q0.lt
  cases x
  · go_wp2_with fail
    refine (wakes_any _).mono ?_
    rintro e Wz ⟨rfl, hz⟩
    go_wp2
    go_ret
    exact ⟨rfl, ex_trans B_W1 hz⟩
  have HT := Lib.hid (hx.out rfl).1
  have HOK := Lib.hid (hx.out rfl).2
  clear hx
  have hno := HT.out.no
  have hnb := HT.out.nb
  go_wp2_with fail
  clear q0_0 q0_1 q0_2 q0_l
  have HQ0 := q0.lt
  have N_W2 := ex_alloc (Below.refl W1.heap.size W1) (.cells #[.slice Ao s.offs.length co, .int .i64 s.err, .slice Ab s.baths.length cb] 25)
  have q7 : Blk (W1.alloc (.cells #[.slice Ao s.offs.length co, .int .i64 s.err, .slice Ab s.baths.length cb] 25)) W1.heap.size 25 #[.slice Ao s.offs.length co, .int .i64 s.err, .slice Ab s.baths.length cb] := Blk.new _ _ _
  replace q0 := q0.below N_W2 q0.lt
  have B_W2 := ex_trans B_W1 N_W2
  clear N_W2
  generalize W1.alloc (.cells #[.slice Ao s.offs.length co, .int .i64 s.err, .slice Ab s.baths.length cb] 25) = W2 at *
  obtain ⟨p7, hp7⟩ : ∃ p7, W1.heap.size = p7 := ⟨_, rfl⟩
  have hp70 : w.heap.size < p7 := by have := B_W1.size; have := q0.lt; have := q7.lt; rw [← hp7]; have := (show w.heap.size < W1.heap.size from by have := B_W1.size; exact HQ0); omega
  rw [hp7] at q7 ⊢
  clear hp7
  have q0_0 : W2.cell? ⟨w.heap.size, 0, none⟩ = some (.slice Ao s.offs.length co) := q0.cell 0
  have q0_1 : W2.cell? ⟨w.heap.size, 1, none⟩ = some (.int .i64 s.err) := q0.cell 1
  have q0_2 : W2.cell? ⟨w.heap.size, 2, none⟩ = some (.slice Ab s.baths.length cb) := q0.cell 2
  have q0_l := q0.lt
  refine (places_cap s Ao Ab co cb rA rc W2 ((hs.below B_W2).up B_W2.size) HT.out).mono ?_
  rintro e W3 ⟨⟨A3, c3, rfl, hcap, sP⟩, hW3⟩
  replace q0 := q0.below hW3 q0.lt
  replace q7 := q7.below hW3 q7.lt
  have B_W3 := ex_trans B_W2 hW3
  clear q0_0 q0_1 q0_2 q0_l
  have q0_0 : W3.cell? ⟨w.heap.size, 0, none⟩ = some (.slice Ao s.offs.length co) := q0.cell 0
  have q0_1 : W3.cell? ⟨w.heap.size, 1, none⟩ = some (.int .i64 s.err) := q0.cell 1
  have q0_2 : W3.cell? ⟨w.heap.size, 2, none⟩ = some (.slice Ab s.baths.length cb) := q0.cell 2
  have q0_l := q0.lt
  by_cases hp0 : (placeL s).length = 0
  · have d1 : decide ((0 : Int) < ((placeL s).length : Int)) = false := decide_eq_false (by omega)
    have d2 : decide (0 < (placeL s).length) = false := decide_eq_false (by omega)
    obtain ⟨en, hen⟩ : ∃ en, min 20 (s.err + by' % 4) = en := ⟨_, rfl⟩
    have henb : s.err ≤ en ∧ 0 ≤ en ∧ en ≤ 20 := by have := HOK.out.err; omega
    have HEN := Lib.hid hen
    have z1 : W3.cell? ⟨p7, 1, none⟩ = some (.int .i64 s.err) := q7.cell 1
    have zl := q7.lt
    have zf := q7.frozen0
    have t1 : IntKind.i64.wrap (by'.tmod 4) = by' % 4 := by rw [Int.tmod_eq_emod_of_nonneg (by omega)]; exact IntWalk.i64_in _ (by omega)
    have t0 : by'.tmod 4 = by' % 4 := Int.tmod_eq_emod_of_nonneg (by omega)
    have her := HOK.out.err
    have t2 : IntKind.i64.wrap (s.err + by' % 4) = s.err + by' % 4 := IntWalk.i64_in _ (by omega)
    go_wp2_with (refine pause_at 49 rfl ?_)
    refine Paused.mk ?_
    clear hen t0 t1 t2
    have B_S := ex_set B_W3 (p := ⟨p7, 1, none⟩) (by show w.heap.size ≤ p7; omega) (.int .i64 en)
    have q7s := q7.set_ 1 (.int .i64 en)
    simp only [List.setIfInBounds_toArray, List.set_cons_zero, List.set_cons_succ] at q7s
    have q0s := q0.far (p := ⟨p7, 1, none⟩) (by show w.heap.size ≠ p7; omega) (.int .i64 en)
    have hsxs : SeIn (W3.setCell ⟨p7, 1, none⟩ (.int .i64 en)) (W3.setCell ⟨p7, 1, none⟩ (.int .i64 en)).heap.size (errS s en) Ao Ab rA rc := by have := (hs.below B_S).up B_S.size; exact ⟨this.offs, this.baths, this.reads⟩
    clear q0_0 q0_1 q0_2 q0_l
    clear z1 zl zf q7 q0
    generalize W3.setCell ⟨p7, 1, none⟩ (.int .i64 en) = WS at *
    have q0 := q0s
    have q7 := q7s
    clear q0s q7s
    have q0_0 : WS.cell? ⟨w.heap.size, 0, none⟩ = some (.slice Ao s.offs.length co) := q0.cell 0
    have q0_1 : WS.cell? ⟨w.heap.size, 1, none⟩ = some (.int .i64 s.err) := q0.cell 1
    have q0_2 : WS.cell? ⟨w.heap.size, 2, none⟩ = some (.slice Ab s.baths.length cb) := q0.cell 2
    have q0_l := q0.lt
    have q7_0 : WS.cell? ⟨p7, 0, none⟩ = some (.slice Ao s.offs.length co) := q7.cell 0
    have q7_1 : WS.cell? ⟨p7, 1, none⟩ = some (.int .i64 en) := q7.cell 1
    have q7_2 : WS.cell? ⟨p7, 2, none⟩ = some (.slice Ab s.baths.length cb) := q7.cell 2
    have q7_l := q7.lt
    have HTX : Hid (Thn (errS (s) en)) := Lib.hid (⟨HT.out.no, HT.out.nb, HT.out.nr⟩)
    have HOX : Hid (SeOk (errS (s) en)) := Lib.hid (errS_ok (HOK.out) henb.2)
    have HTR : Hid (∀ o h, Tru s (fun _ => false) o h → Tru (errS (s) en) (fun _ => false) o h) := Lib.hid (fun o h ht => errS_tru henb.1 (ht))
    go_wp2_with fail
    refine (Series_law s Ao Ab co cb rA rc WS ((hs.below B_S).up B_S.size) HT.out).mono ?_
    rintro e W10 ⟨⟨Ao1, Ab1, co1, cb1, rA1, rc1, rfl, hs1⟩, hW10⟩
    replace q0 := q0.below hW10 q0.lt
    replace q7 := q7.below hW10 q7.lt
    replace hsxs := hsxs.go hW10
    have B_W10 := ex_trans B_S hW10
    clear q0_0 q0_1 q0_2 q0_l q7_0 q7_1 q7_2 q7_l
    have q0_0 : W10.cell? ⟨w.heap.size, 0, none⟩ = some (.slice Ao s.offs.length co) := q0.cell 0
    have q0_1 : W10.cell? ⟨w.heap.size, 1, none⟩ = some (.int .i64 s.err) := q0.cell 1
    have q0_2 : W10.cell? ⟨w.heap.size, 2, none⟩ = some (.slice Ab s.baths.length cb) := q0.cell 2
    have q0_l := q0.lt
    have q7_0 : W10.cell? ⟨p7, 0, none⟩ = some (.slice Ao s.offs.length co) := q7.cell 0
    have q7_1 : W10.cell? ⟨p7, 1, none⟩ = some (.int .i64 en) := q7.cell 1
    have q7_2 : W10.cell? ⟨p7, 2, none⟩ = some (.slice Ab s.baths.length cb) := q7.cell 2
    have q7_l := q7.lt
    go_wp2_with fail
    refine (Offsets_any s Ao1 Ab1 co1 cb1 rA1 rc1 W10 hs1 HT.out.sm).mono ?_
    rintro e W11 ⟨⟨Aa, ca, la, ea, rfl, ha, sa⟩, hW11⟩
    replace q0 := q0.below hW11 q0.lt
    replace q7 := q7.below hW11 q7.lt
    replace hsxs := hsxs.go hW11
    replace hs1 := hs1.go hW11
    have B_W11 := ex_trans B_W10 hW11
    clear q0_0 q0_1 q0_2 q0_l q7_0 q7_1 q7_2 q7_l
    have q0_0 : W11.cell? ⟨w.heap.size, 0, none⟩ = some (.slice Ao s.offs.length co) := q0.cell 0
    have q0_1 : W11.cell? ⟨w.heap.size, 1, none⟩ = some (.int .i64 s.err) := q0.cell 1
    have q0_2 : W11.cell? ⟨w.heap.size, 2, none⟩ = some (.slice Ab s.baths.length cb) := q0.cell 2
    have q0_l := q0.lt
    have q7_0 : W11.cell? ⟨p7, 0, none⟩ = some (.slice Ao s.offs.length co) := q7.cell 0
    have q7_1 : W11.cell? ⟨p7, 1, none⟩ = some (.int .i64 en) := q7.cell 1
    have q7_2 : W11.cell? ⟨p7, 2, none⟩ = some (.slice Ab s.baths.length cb) := q7.cell 2
    have q7_l := q7.lt
    clear hs1
    go_wp2_with fail
    have hcx := Series_law (errS (s) en) Ao Ab co cb rA rc W11 hsxs HTX.out
    rw [show (errS (s) en).baths.length = s.baths.length from rfl] at hcx
    rw [show (errS (s) en).offs.length = s.offs.length from rfl] at hcx
    rw [show (errS (s) en).err = en from rfl] at hcx
    refine (hcx).mono ?_
    rintro e W12 ⟨⟨Ao2, Ab2, co2, cb2, rA2, rc2, rfl, hs2⟩, hW12⟩
    replace q0 := q0.below hW12 q0.lt
    replace q7 := q7.below hW12 q7.lt
    replace hsxs := hsxs.go hW12
    replace sa := (sa.below hW12).up hW12.size
    have B_W12 := ex_trans B_W11 hW12
    clear hcx
    clear q0_0 q0_1 q0_2 q0_l q7_0 q7_1 q7_2 q7_l
    have q0_0 : W12.cell? ⟨w.heap.size, 0, none⟩ = some (.slice Ao s.offs.length co) := q0.cell 0
    have q0_1 : W12.cell? ⟨w.heap.size, 1, none⟩ = some (.int .i64 s.err) := q0.cell 1
    have q0_2 : W12.cell? ⟨w.heap.size, 2, none⟩ = some (.slice Ab s.baths.length cb) := q0.cell 2
    have q0_l := q0.lt
    have q7_0 : W12.cell? ⟨p7, 0, none⟩ = some (.slice Ao s.offs.length co) := q7.cell 0
    have q7_1 : W12.cell? ⟨p7, 1, none⟩ = some (.int .i64 en) := q7.cell 1
    have q7_2 : W12.cell? ⟨p7, 2, none⟩ = some (.slice Ab s.baths.length cb) := q7.cell 2
    have q7_l := q7.lt
    go_wp2_with fail
    have hcx := Offsets_any (errS (s) en) Ao2 Ab2 co2 cb2 rA2 rc2 W12 hs2 HTX.out.sm
    rw [show (errS (s) en).baths.length = s.baths.length from rfl] at hcx
    rw [show (errS (s) en).offs.length = s.offs.length from rfl] at hcx
    rw [show (errS (s) en).err = en from rfl] at hcx
    refine (hcx).mono ?_
    rintro e W13 ⟨⟨Ab_, cb_, lb, eb, rfl, hb, sb⟩, hW13⟩
    replace q0 := q0.below hW13 q0.lt
    replace q7 := q7.below hW13 q7.lt
    replace hsxs := hsxs.go hW13
    replace sa := (sa.below hW13).up hW13.size
    replace hs2 := hs2.go hW13
    have B_W13 := ex_trans B_W12 hW13
    clear hcx
    clear q0_0 q0_1 q0_2 q0_l q7_0 q7_1 q7_2 q7_l
    have q0_0 : W13.cell? ⟨w.heap.size, 0, none⟩ = some (.slice Ao s.offs.length co) := q0.cell 0
    have q0_1 : W13.cell? ⟨w.heap.size, 1, none⟩ = some (.int .i64 s.err) := q0.cell 1
    have q0_2 : W13.cell? ⟨w.heap.size, 2, none⟩ = some (.slice Ab s.baths.length cb) := q0.cell 2
    have q0_l := q0.lt
    have q7_0 : W13.cell? ⟨p7, 0, none⟩ = some (.slice Ao s.offs.length co) := q7.cell 0
    have q7_1 : W13.cell? ⟨p7, 1, none⟩ = some (.int .i64 en) := q7.cell 1
    have q7_2 : W13.cell? ⟨p7, 2, none⟩ = some (.slice Ab s.baths.length cb) := q7.cell 2
    have q7_l := q7.lt
    clear hs2
    go_wp2_with fail
    refine (Series_law s Ao Ab co cb rA rc W13 ((hs.below B_W13).up B_W13.size) HT.out).mono ?_
    rintro e W14 ⟨⟨Ao3, Ab3, co3, cb3, rA3, rc3, rfl, hs3⟩, hW14⟩
    replace q0 := q0.below hW14 q0.lt
    replace q7 := q7.below hW14 q7.lt
    replace hsxs := hsxs.go hW14
    replace sa := (sa.below hW14).up hW14.size
    replace sb := (sb.below hW14).up hW14.size
    have B_W14 := ex_trans B_W13 hW14
    clear q0_0 q0_1 q0_2 q0_l q7_0 q7_1 q7_2 q7_l
    have q0_0 : W14.cell? ⟨w.heap.size, 0, none⟩ = some (.slice Ao s.offs.length co) := q0.cell 0
    have q0_1 : W14.cell? ⟨w.heap.size, 1, none⟩ = some (.int .i64 s.err) := q0.cell 1
    have q0_2 : W14.cell? ⟨w.heap.size, 2, none⟩ = some (.slice Ab s.baths.length cb) := q0.cell 2
    have q0_l := q0.lt
    have q7_0 : W14.cell? ⟨p7, 0, none⟩ = some (.slice Ao s.offs.length co) := q7.cell 0
    have q7_1 : W14.cell? ⟨p7, 1, none⟩ = some (.int .i64 en) := q7.cell 1
    have q7_2 : W14.cell? ⟨p7, 2, none⟩ = some (.slice Ab s.baths.length cb) := q7.cell 2
    have q7_l := q7.lt
    go_wp2_with fail
    refine (Heats_any s Ao3 Ab3 co3 cb3 rA3 rc3 W14 hs3 HT.out.sm).mono ?_
    rintro e W15 ⟨⟨Ac, cc, lc, ec, rfl, hc, sc⟩, hW15⟩
    replace q0 := q0.below hW15 q0.lt
    replace q7 := q7.below hW15 q7.lt
    replace hsxs := hsxs.go hW15
    replace sa := (sa.below hW15).up hW15.size
    replace sb := (sb.below hW15).up hW15.size
    replace hs3 := hs3.go hW15
    have B_W15 := ex_trans B_W14 hW15
    clear q0_0 q0_1 q0_2 q0_l q7_0 q7_1 q7_2 q7_l
    have q0_0 : W15.cell? ⟨w.heap.size, 0, none⟩ = some (.slice Ao s.offs.length co) := q0.cell 0
    have q0_1 : W15.cell? ⟨w.heap.size, 1, none⟩ = some (.int .i64 s.err) := q0.cell 1
    have q0_2 : W15.cell? ⟨w.heap.size, 2, none⟩ = some (.slice Ab s.baths.length cb) := q0.cell 2
    have q0_l := q0.lt
    have q7_0 : W15.cell? ⟨p7, 0, none⟩ = some (.slice Ao s.offs.length co) := q7.cell 0
    have q7_1 : W15.cell? ⟨p7, 1, none⟩ = some (.int .i64 en) := q7.cell 1
    have q7_2 : W15.cell? ⟨p7, 2, none⟩ = some (.slice Ab s.baths.length cb) := q7.cell 2
    have q7_l := q7.lt
    clear hs3
    go_wp2_with fail
    have hcx := Series_law (errS (s) en) Ao Ab co cb rA rc W15 hsxs HTX.out
    rw [show (errS (s) en).baths.length = s.baths.length from rfl] at hcx
    rw [show (errS (s) en).offs.length = s.offs.length from rfl] at hcx
    rw [show (errS (s) en).err = en from rfl] at hcx
    refine (hcx).mono ?_
    rintro e W16 ⟨⟨Ao4, Ab4, co4, cb4, rA4, rc4, rfl, hs4⟩, hW16⟩
    replace q0 := q0.below hW16 q0.lt
    replace q7 := q7.below hW16 q7.lt
    replace hsxs := hsxs.go hW16
    replace sa := (sa.below hW16).up hW16.size
    replace sb := (sb.below hW16).up hW16.size
    replace sc := (sc.below hW16).up hW16.size
    have B_W16 := ex_trans B_W15 hW16
    clear hcx
    clear q0_0 q0_1 q0_2 q0_l q7_0 q7_1 q7_2 q7_l
    have q0_0 : W16.cell? ⟨w.heap.size, 0, none⟩ = some (.slice Ao s.offs.length co) := q0.cell 0
    have q0_1 : W16.cell? ⟨w.heap.size, 1, none⟩ = some (.int .i64 s.err) := q0.cell 1
    have q0_2 : W16.cell? ⟨w.heap.size, 2, none⟩ = some (.slice Ab s.baths.length cb) := q0.cell 2
    have q0_l := q0.lt
    have q7_0 : W16.cell? ⟨p7, 0, none⟩ = some (.slice Ao s.offs.length co) := q7.cell 0
    have q7_1 : W16.cell? ⟨p7, 1, none⟩ = some (.int .i64 en) := q7.cell 1
    have q7_2 : W16.cell? ⟨p7, 2, none⟩ = some (.slice Ab s.baths.length cb) := q7.cell 2
    have q7_l := q7.lt
    go_wp2_with fail
    have hcx := Heats_any (errS (s) en) Ao4 Ab4 co4 cb4 rA4 rc4 W16 hs4 HTX.out.sm
    rw [show (errS (s) en).baths.length = s.baths.length from rfl] at hcx
    rw [show (errS (s) en).offs.length = s.offs.length from rfl] at hcx
    rw [show (errS (s) en).err = en from rfl] at hcx
    refine (hcx).mono ?_
    rintro e W17 ⟨⟨Ad, cd, ld, ed, rfl, hd, sd⟩, hW17⟩
    replace q0 := q0.below hW17 q0.lt
    replace q7 := q7.below hW17 q7.lt
    replace hsxs := hsxs.go hW17
    replace sa := (sa.below hW17).up hW17.size
    replace sb := (sb.below hW17).up hW17.size
    replace sc := (sc.below hW17).up hW17.size
    replace hs4 := hs4.go hW17
    have B_W17 := ex_trans B_W16 hW17
    clear hcx
    clear q0_0 q0_1 q0_2 q0_l q7_0 q7_1 q7_2 q7_l
    have q0_0 : W17.cell? ⟨w.heap.size, 0, none⟩ = some (.slice Ao s.offs.length co) := q0.cell 0
    have q0_1 : W17.cell? ⟨w.heap.size, 1, none⟩ = some (.int .i64 s.err) := q0.cell 1
    have q0_2 : W17.cell? ⟨w.heap.size, 2, none⟩ = some (.slice Ab s.baths.length cb) := q0.cell 2
    have q0_l := q0.lt
    have q7_0 : W17.cell? ⟨p7, 0, none⟩ = some (.slice Ao s.offs.length co) := q7.cell 0
    have q7_1 : W17.cell? ⟨p7, 1, none⟩ = some (.int .i64 en) := q7.cell 1
    have q7_2 : W17.cell? ⟨p7, 2, none⟩ = some (.slice Ab s.baths.length cb) := q7.cell 2
    have q7_l := q7.lt
    clear hs4
    rcases rng_ok ha.out HOK.out with ⟨nc, rfl, rfl⟩ | ⟨hcan, rfl, hla, hae⟩
    · obtain ⟨rfl, rfl⟩ : ec = 9 ∧ lc = [] := by
        rcases rng_ok hc.out HOK.out with ⟨_, h1, h2⟩ | ⟨h, _⟩
        · exact ⟨h1, h2⟩
        · exact absurd h nc
      have HED : Hid (eb = ed ∧ (eb = 0 ∨ eb = 9)) := Lib.hid (by
        rcases rng_ok hb.out HOX.out with ⟨h, h1, _⟩ | ⟨h, h1, _⟩ <;> rcases rng_ok hd.out HOX.out with ⟨k, k1, _⟩ | ⟨k, k1, _⟩
        · exact ⟨by omega, by omega⟩
        · exact absurd k h
        · exact absurd h k
        · exact ⟨by omega, by omega⟩)
      obtain rfl : eb = ed := HED.out.1
      clear ha hb hc hd nc
      rcases HED.out.2 with h | h
      · subst h
        clear HED
        go_wp2_with fail
        refine (wakes_any _).mono ?_
        rintro e Wz ⟨rfl, hz⟩
        go_wp2
        go_ret
        exact ⟨rfl, ex_trans B_W17 hz⟩
      · subst h
        clear HED
        go_wp2_with fail
        refine (wakes_any _).mono ?_
        rintro e Wz ⟨rfl, hz⟩
        go_wp2
        go_ret
        exact ⟨rfl, ex_trans B_W17 hz⟩
    obtain ⟨rfl, hlc, hce⟩ : ec = 0 ∧ lc.length = s.baths.length ∧ ∀ k, k < s.baths.length → EndsOf (HeatZ s k) (gR lc k).lo (gR lc k).hi := by
      rcases rng_ok hc.out HOK.out with ⟨h, _⟩ | ⟨_, h1, h2, h3⟩
      · exact absurd hcan h
      · exact ⟨h1, h2, h3⟩
    have HCX : Hid (Can (errS (s) en)) := Lib.hid (by obtain ⟨o, h, ht⟩ := hcan; exact ⟨o, h, HTR.out o h ht⟩)
    obtain ⟨rfl, hlb, hbe⟩ : eb = 0 ∧ lb.length = s.offs.length ∧ ∀ k, k < s.offs.length → EndsOf (OffZ (errS (s) en) k) (gR lb k).lo (gR lb k).hi := by
      rcases rng_ok hb.out HOX.out with ⟨h, _⟩ | ⟨_, h1, h2, h3⟩
      · exact absurd HCX.out h
      · exact ⟨h1, h2, h3⟩
    obtain ⟨rfl, hld, hde⟩ : ed = 0 ∧ ld.length = s.baths.length ∧ ∀ k, k < s.baths.length → EndsOf (HeatZ (errS (s) en) k) (gR ld k).lo (gR ld k).hi := by
      rcases rng_ok hd.out HOX.out with ⟨h, _⟩ | ⟨_, h1, h2, h3⟩
      · exact absurd HCX.out h
      · exact ⟨h1, h2, h3⟩
    have HW1 : Hid (widB la lb = true) := Lib.hid (wid_of hla hlb hae hbe (fun k hk z ⟨o, h, ht, e⟩ => ⟨o, h, HTR.out o h ht, e⟩))
    have HW2 : Hid (widB lc ld = true) := Lib.hid (wid_of hlc hld hce hde (fun k hk z ⟨o, h, ht, e⟩ => ⟨o, h, HTR.out o h ht, e⟩))
    have b1 : la.length ≤ 1000000 := by omega
    have b2 : lb.length ≤ 1000000 := by omega
    have b3 : lc.length ≤ 1000000 := by omega
    have b4 : ld.length ≤ 1000000 := by omega
    clear ha hb hc hd hla hlb hlc hld hae hbe hce hde hcan
    go_wp2_with fail
    refine (wider_law Aa Ab_ ca cb_ la lb W17 b1 sa sb b2).mono ?_
    rintro e W18 ⟨rfl, hW18⟩
    replace q0 := q0.below hW18 q0.lt
    replace q7 := q7.below hW18 q7.lt
    replace hsxs := hsxs.go hW18
    replace sa := (sa.below hW18).up hW18.size
    replace sb := (sb.below hW18).up hW18.size
    replace sc := (sc.below hW18).up hW18.size
    replace sd := (sd.below hW18).up hW18.size
    have B_W18 := ex_trans B_W17 hW18
    clear q0_0 q0_1 q0_2 q0_l q7_0 q7_1 q7_2 q7_l
    have q0_0 : W18.cell? ⟨w.heap.size, 0, none⟩ = some (.slice Ao s.offs.length co) := q0.cell 0
    have q0_1 : W18.cell? ⟨w.heap.size, 1, none⟩ = some (.int .i64 s.err) := q0.cell 1
    have q0_2 : W18.cell? ⟨w.heap.size, 2, none⟩ = some (.slice Ab s.baths.length cb) := q0.cell 2
    have q0_l := q0.lt
    have q7_0 : W18.cell? ⟨p7, 0, none⟩ = some (.slice Ao s.offs.length co) := q7.cell 0
    have q7_1 : W18.cell? ⟨p7, 1, none⟩ = some (.int .i64 en) := q7.cell 1
    have q7_2 : W18.cell? ⟨p7, 2, none⟩ = some (.slice Ab s.baths.length cb) := q7.cell 2
    have q7_l := q7.lt
    rw [HW1.out]
    go_wp2_with fail
    refine (wider_law Ac Ad cc cd lc ld W18 b3 sc sd b4).mono ?_
    rintro e W19 ⟨rfl, hW19⟩
    replace q0 := q0.below hW19 q0.lt
    replace q7 := q7.below hW19 q7.lt
    replace hsxs := hsxs.go hW19
    replace sa := (sa.below hW19).up hW19.size
    replace sb := (sb.below hW19).up hW19.size
    replace sc := (sc.below hW19).up hW19.size
    replace sd := (sd.below hW19).up hW19.size
    have B_W19 := ex_trans B_W18 hW19
    clear q0_0 q0_1 q0_2 q0_l q7_0 q7_1 q7_2 q7_l
    have q0_0 : W19.cell? ⟨w.heap.size, 0, none⟩ = some (.slice Ao s.offs.length co) := q0.cell 0
    have q0_1 : W19.cell? ⟨w.heap.size, 1, none⟩ = some (.int .i64 s.err) := q0.cell 1
    have q0_2 : W19.cell? ⟨w.heap.size, 2, none⟩ = some (.slice Ab s.baths.length cb) := q0.cell 2
    have q0_l := q0.lt
    have q7_0 : W19.cell? ⟨p7, 0, none⟩ = some (.slice Ao s.offs.length co) := q7.cell 0
    have q7_1 : W19.cell? ⟨p7, 1, none⟩ = some (.int .i64 en) := q7.cell 1
    have q7_2 : W19.cell? ⟨p7, 2, none⟩ = some (.slice Ab s.baths.length cb) := q7.cell 2
    have q7_l := q7.lt
    rw [HW2.out]
    go_wp2_with fail
    refine (wakes_any _).mono ?_
    rintro e Wz ⟨rfl, hz⟩
    go_wp2
    go_ret
    exact ⟨rfl, ex_trans B_W19 hz⟩
  have d1 : decide ((0 : Int) < ((placeL s).length : Int)) = true := decide_eq_true (by omega)
  have d2 : decide (0 < (placeL s).length) = true := decide_eq_true (by omega)
  have hpl := placeL_len HOK.out
  obtain ⟨n, hn⟩ : ∃ n : Nat, wh.tmod ((placeL s).length : Int) = (n : Int) := ⟨(wh.tmod ((placeL s).length : Int)).toNat, by rw [Int.toNat_of_nonneg (Int.tmod_nonneg _ (by omega))]⟩
  have hnl : n < (placeL s).length := by have := Int.tmod_lt_of_pos wh (b := ((placeL s).length : Int)) (by omega); omega
  have tw : IntKind.i64.wrap (wh.tmod ((placeL s).length : Int)) = (n : Int) := by rw [hn]; exact IntWalk.i64_in _ (by omega)
  have nz : ¬ ((placeL s).length : Int) = 0 := by omega
  have nz2 : (((placeL s).length : Int) == 0) = false := by rw [beq_eq_false_iff_ne]; exact nz
  have HNN := Lib.hid hn
  obtain ⟨bP, oP, rfl, hbP, c0, c1⟩ := IsPls.at_ sP hnl
  generalize hpn : gPl (placeL s) n = pp at c0 c1
  have HPN := Lib.hid hpn
  clear hpn
  have hcap1 := hcap.1
  go_wp2_with fail
  refine wp_region_ext_mix 7 [(false, 0), (false, 1), (false, 2), (false, 3), (false, 4), (true, 5), (true, 6)] (by kernel_rfl) (by kernel_rfl) (by intro d _ _ _ _ h; cases d <;> exact h) ?_
  have hX0 := (Below.refl W3.heap.size W3).drew
  repeat (refine mix_quiet rfl ?_; go_big_quiet_step (fail); refine wpQuiet_nil ?_)
  refine mix_loud rfl ?_
  refine wpList_sliceLH _ rfl _ _ _ rfl bP oP (placeL s).length c3 n (by omega) hcap1 rfl rfl rfl ?_
  refine ⟨inEx hX0, ?_⟩
  refine mix_loud rfl ?_
  go_wp2_with fail
  have hsD := ((hs.below (ex_trans B_W3 hX0)).up (ex_trans B_W3 hX0).size)
  have sP1 : SlAt W3.drew W3.drew.heap.size 2 (some ⟨bP, oP + n * 2, none⟩) [pp].length (fPl [pp]) := fun _ => ⟨bP, oP + n * 2, rfl, hbP, fun i j hi hj => by
    obtain rfl : i = 0 := by simpa using hi
    match j, hj with
    | 0, _ => exact (hX0.cell (p := ⟨bP, oP + n * 2, none⟩) hbP).trans (by simpa [fPl] using c0)
    | 1, _ => exact (hX0.cell (p := ⟨bP, oP + n * 2 + 1, none⟩) hbP).trans (by simpa [fPl] using c1)⟩
  refine (without_own s Ao Ab co cb rA rc W3.drew hsD HT.out [pp] (some ⟨bP, oP + n * 2, none⟩) (c3 - n) (by simp) sP1).mono ?_
  rintro e X1 ⟨⟨Ab', cb', XX, rfl, HXB, hN⟩, hX1⟩
  have hX1' := ex_trans hX0 hX1
  go_wp2_with fail
  refine ⟨inEx hX1', ?_⟩
  refine mix_nil rfl ?_
  have B_5 := ex_trans B_W3 hX1'
  have q05 := q0.below hX1' q0.lt
  have q75 := q7.below hX1' q7.lt
  have y0 : X1.cell? ⟨p7, 0, none⟩ = some (.slice Ao s.offs.length co) := q75.cell 0
  have y1 : X1.cell? ⟨p7, 1, none⟩ = some (.int .i64 s.err) := q75.cell 1
  have y2 : X1.cell? ⟨p7, 2, none⟩ = some (.slice Ab s.baths.length cb) := q75.cell 2
  have yf := q75.frozen0
  have yl := q75.lt
  go_wp2_with (refine pause_at 40 rfl ?_)
  refine Paused.mk ?_
  have hw7 : w.heap.size ≤ p7 := by omega
  have hne7 : w.heap.size ≠ p7 := by omega
  have q76 := ((q75.set_ 0 (.slice Ao s.offs.length co)).set_ 1 (.int .i64 s.err)).set_ 2 (.slice Ab' s.baths.length cb')
  simp only [List.setIfInBounds_toArray, List.set_cons_zero, List.set_cons_succ] at q76
  have q06 := ((q05.far (p := ⟨p7, 0, none⟩) hne7 (.slice Ao s.offs.length co)).far (p := ⟨p7, 1, none⟩) hne7 (.int .i64 s.err)).far (p := ⟨p7, 2, none⟩) hne7 (.slice Ab' s.baths.length cb')
  have B_6 := ex_set (ex_set (ex_set B_5 (p := ⟨p7, 0, none⟩) hw7 (.slice Ao s.offs.length co)) (p := ⟨p7, 1, none⟩) hw7 (.int .i64 s.err)) (p := ⟨p7, 2, none⟩) hw7 (.slice Ab' s.baths.length cb')
  have q7a := q75.set_ 0 (.slice Ao s.offs.length co)
  have q7b := q7a.set_ 1 (.int .i64 s.err)
  have hN6 := ((hN.set q75 (by decide) (by decide) 0 (.slice Ao s.offs.length co)).set q7a (by decide) (by decide) 1 (.int .i64 s.err)).set q7b (by decide) (by decide) 2 (.slice Ab' s.baths.length cb')
  clear q7a q7b hN
  clear q0_0 q0_1 q0_2 q0_l
  clear y0 y1 y2 yf yl q05 q75 q0 q7 sP1 hsD hX1 hX1' hX0 hnl tw nz nz2 hn c0 c1
  generalize ((X1.setCell ⟨p7, 0, none⟩ (.slice Ao s.offs.length co)).setCell ⟨p7, 1, none⟩ (.int .i64 s.err)).setCell ⟨p7, 2, none⟩ (.slice Ab' s.baths.length cb') = W6 at *
  have q0 := q06
  have q7 := q76
  clear q06 q76
  have q0_0 : W6.cell? ⟨w.heap.size, 0, none⟩ = some (.slice Ao s.offs.length co) := q0.cell 0
  have q0_1 : W6.cell? ⟨w.heap.size, 1, none⟩ = some (.int .i64 s.err) := q0.cell 1
  have q0_2 : W6.cell? ⟨w.heap.size, 2, none⟩ = some (.slice Ab s.baths.length cb) := q0.cell 2
  have q0_l := q0.lt
  have q7_0 : W6.cell? ⟨p7, 0, none⟩ = some (.slice Ao s.offs.length co) := q7.cell 0
  have q7_1 : W6.cell? ⟨p7, 1, none⟩ = some (.int .i64 s.err) := q7.cell 1
  have q7_2 : W6.cell? ⟨p7, 2, none⟩ = some (.slice Ab' s.baths.length cb') := q7.cell 2
  have q7_l := q7.lt
  obtain ⟨en, hen⟩ : ∃ en, min 20 (s.err + by' % 4) = en := ⟨_, rfl⟩
  have henb : s.err ≤ en ∧ 0 ≤ en ∧ en ≤ 20 := by have := HOK.out.err; omega
  have HEN := Lib.hid hen
  have z1 : W6.cell? ⟨p7, 1, none⟩ = some (.int .i64 s.err) := q7.cell 1
  have zl := q7.lt
  have zf := q7.frozen0
  have t1 : IntKind.i64.wrap (by'.tmod 4) = by' % 4 := by rw [Int.tmod_eq_emod_of_nonneg (by omega)]; exact IntWalk.i64_in _ (by omega)
  have t0 : by'.tmod 4 = by' % 4 := Int.tmod_eq_emod_of_nonneg (by omega)
  have her := HOK.out.err
  have t2 : IntKind.i64.wrap (s.err + by' % 4) = s.err + by' % 4 := IntWalk.i64_in _ (by omega)
  go_wp2_with (refine pause_at 49 rfl ?_)
  refine Paused.mk ?_
  clear hen t0 t1 t2
  have B_S := ex_set B_6 (p := ⟨p7, 1, none⟩) (by show w.heap.size ≤ p7; omega) (.int .i64 en)
  have q7s := q7.set_ 1 (.int .i64 en)
  simp only [List.setIfInBounds_toArray, List.set_cons_zero, List.set_cons_succ] at q7s
  have q0s := q0.far (p := ⟨p7, 1, none⟩) (by show w.heap.size ≠ p7; omega) (.int .i64 en)
  have hN7 := hN6.set q7 (by decide) (by decide) 1 (.int .i64 en)
  obtain ⟨Ab9, cb9, rA9, rc9, e9, hsxs⟩ := nown_se (s := errS (woS s [pp]) en) hN7 HXB.out ((hs.offs.below B_S).up B_S.size)
  rw [show (errS (woS s [pp]) en).baths.length = s.baths.length from woS_len] at e9
  injection e9 with e9 e9l e92
  clear e9l
  subst e9 e92
  clear hN7 hN6
  clear q0_0 q0_1 q0_2 q0_l
  clear z1 zl zf q7 q0
  generalize W6.setCell ⟨p7, 1, none⟩ (.int .i64 en) = WS at *
  have q0 := q0s
  have q7 := q7s
  clear q0s q7s
  have q0_0 : WS.cell? ⟨w.heap.size, 0, none⟩ = some (.slice Ao s.offs.length co) := q0.cell 0
  have q0_1 : WS.cell? ⟨w.heap.size, 1, none⟩ = some (.int .i64 s.err) := q0.cell 1
  have q0_2 : WS.cell? ⟨w.heap.size, 2, none⟩ = some (.slice Ab s.baths.length cb) := q0.cell 2
  have q0_l := q0.lt
  have q7_0 : WS.cell? ⟨p7, 0, none⟩ = some (.slice Ao s.offs.length co) := q7.cell 0
  have q7_1 : WS.cell? ⟨p7, 1, none⟩ = some (.int .i64 en) := q7.cell 1
  have q7_2 : WS.cell? ⟨p7, 2, none⟩ = some (.slice Ab' s.baths.length cb') := q7.cell 2
  have q7_l := q7.lt
  have HTX : Hid (Thn (errS (woS s [pp]) en)) := Lib.hid (⟨(wo_thn (l := [pp]) HT.out).no, (wo_thn (l := [pp]) HT.out).nb, (wo_thn (l := [pp]) HT.out).nr⟩)
  have HOX : Hid (SeOk (errS (woS s [pp]) en)) := Lib.hid (errS_ok (woS_ok HOK.out) henb.2)
  have HTR : Hid (∀ o h, Tru s (fun _ => false) o h → Tru (errS (woS s [pp]) en) (fun _ => false) o h) := Lib.hid (fun o h ht => errS_tru henb.1 (woS_tru_of ht))
  go_wp2_with fail
  refine (Series_law s Ao Ab co cb rA rc WS ((hs.below B_S).up B_S.size) HT.out).mono ?_
  rintro e W10 ⟨⟨Ao1, Ab1, co1, cb1, rA1, rc1, rfl, hs1⟩, hW10⟩
  replace q0 := q0.below hW10 q0.lt
  replace q7 := q7.below hW10 q7.lt
  replace hsxs := hsxs.go hW10
  have B_W10 := ex_trans B_S hW10
  clear q0_0 q0_1 q0_2 q0_l q7_0 q7_1 q7_2 q7_l
  have q0_0 : W10.cell? ⟨w.heap.size, 0, none⟩ = some (.slice Ao s.offs.length co) := q0.cell 0
  have q0_1 : W10.cell? ⟨w.heap.size, 1, none⟩ = some (.int .i64 s.err) := q0.cell 1
  have q0_2 : W10.cell? ⟨w.heap.size, 2, none⟩ = some (.slice Ab s.baths.length cb) := q0.cell 2
  have q0_l := q0.lt
  have q7_0 : W10.cell? ⟨p7, 0, none⟩ = some (.slice Ao s.offs.length co) := q7.cell 0
  have q7_1 : W10.cell? ⟨p7, 1, none⟩ = some (.int .i64 en) := q7.cell 1
  have q7_2 : W10.cell? ⟨p7, 2, none⟩ = some (.slice Ab' s.baths.length cb') := q7.cell 2
  have q7_l := q7.lt
  go_wp2_with fail
  refine (Offsets_any s Ao1 Ab1 co1 cb1 rA1 rc1 W10 hs1 HT.out.sm).mono ?_
  rintro e W11 ⟨⟨Aa, ca, la, ea, rfl, ha, sa⟩, hW11⟩
  replace q0 := q0.below hW11 q0.lt
  replace q7 := q7.below hW11 q7.lt
  replace hsxs := hsxs.go hW11
  replace hs1 := hs1.go hW11
  have B_W11 := ex_trans B_W10 hW11
  clear q0_0 q0_1 q0_2 q0_l q7_0 q7_1 q7_2 q7_l
  have q0_0 : W11.cell? ⟨w.heap.size, 0, none⟩ = some (.slice Ao s.offs.length co) := q0.cell 0
  have q0_1 : W11.cell? ⟨w.heap.size, 1, none⟩ = some (.int .i64 s.err) := q0.cell 1
  have q0_2 : W11.cell? ⟨w.heap.size, 2, none⟩ = some (.slice Ab s.baths.length cb) := q0.cell 2
  have q0_l := q0.lt
  have q7_0 : W11.cell? ⟨p7, 0, none⟩ = some (.slice Ao s.offs.length co) := q7.cell 0
  have q7_1 : W11.cell? ⟨p7, 1, none⟩ = some (.int .i64 en) := q7.cell 1
  have q7_2 : W11.cell? ⟨p7, 2, none⟩ = some (.slice Ab' s.baths.length cb') := q7.cell 2
  have q7_l := q7.lt
  clear hs1
  go_wp2_with fail
  have hcx := Series_law (errS (woS s [pp]) en) Ao Ab' co cb' rA9 rc9 W11 hsxs HTX.out
  rw [show (errS (woS s [pp]) en).baths.length = s.baths.length from woS_len] at hcx
  rw [show (errS (woS s [pp]) en).offs.length = s.offs.length from rfl] at hcx
  rw [show (errS (woS s [pp]) en).err = en from rfl] at hcx
  refine (hcx).mono ?_
  rintro e W12 ⟨⟨Ao2, Ab2, co2, cb2, rA2, rc2, rfl, hs2⟩, hW12⟩
  replace q0 := q0.below hW12 q0.lt
  replace q7 := q7.below hW12 q7.lt
  replace hsxs := hsxs.go hW12
  replace sa := (sa.below hW12).up hW12.size
  have B_W12 := ex_trans B_W11 hW12
  clear hcx
  clear q0_0 q0_1 q0_2 q0_l q7_0 q7_1 q7_2 q7_l
  have q0_0 : W12.cell? ⟨w.heap.size, 0, none⟩ = some (.slice Ao s.offs.length co) := q0.cell 0
  have q0_1 : W12.cell? ⟨w.heap.size, 1, none⟩ = some (.int .i64 s.err) := q0.cell 1
  have q0_2 : W12.cell? ⟨w.heap.size, 2, none⟩ = some (.slice Ab s.baths.length cb) := q0.cell 2
  have q0_l := q0.lt
  have q7_0 : W12.cell? ⟨p7, 0, none⟩ = some (.slice Ao s.offs.length co) := q7.cell 0
  have q7_1 : W12.cell? ⟨p7, 1, none⟩ = some (.int .i64 en) := q7.cell 1
  have q7_2 : W12.cell? ⟨p7, 2, none⟩ = some (.slice Ab' s.baths.length cb') := q7.cell 2
  have q7_l := q7.lt
  go_wp2_with fail
  have hcx := Offsets_any (errS (woS s [pp]) en) Ao2 Ab2 co2 cb2 rA2 rc2 W12 hs2 HTX.out.sm
  rw [show (errS (woS s [pp]) en).baths.length = s.baths.length from woS_len] at hcx
  rw [show (errS (woS s [pp]) en).offs.length = s.offs.length from rfl] at hcx
  rw [show (errS (woS s [pp]) en).err = en from rfl] at hcx
  refine (hcx).mono ?_
  rintro e W13 ⟨⟨Ab_, cb_, lb, eb, rfl, hb, sb⟩, hW13⟩
  replace q0 := q0.below hW13 q0.lt
  replace q7 := q7.below hW13 q7.lt
  replace hsxs := hsxs.go hW13
  replace sa := (sa.below hW13).up hW13.size
  replace hs2 := hs2.go hW13
  have B_W13 := ex_trans B_W12 hW13
  clear hcx
  clear q0_0 q0_1 q0_2 q0_l q7_0 q7_1 q7_2 q7_l
  have q0_0 : W13.cell? ⟨w.heap.size, 0, none⟩ = some (.slice Ao s.offs.length co) := q0.cell 0
  have q0_1 : W13.cell? ⟨w.heap.size, 1, none⟩ = some (.int .i64 s.err) := q0.cell 1
  have q0_2 : W13.cell? ⟨w.heap.size, 2, none⟩ = some (.slice Ab s.baths.length cb) := q0.cell 2
  have q0_l := q0.lt
  have q7_0 : W13.cell? ⟨p7, 0, none⟩ = some (.slice Ao s.offs.length co) := q7.cell 0
  have q7_1 : W13.cell? ⟨p7, 1, none⟩ = some (.int .i64 en) := q7.cell 1
  have q7_2 : W13.cell? ⟨p7, 2, none⟩ = some (.slice Ab' s.baths.length cb') := q7.cell 2
  have q7_l := q7.lt
  clear hs2
  go_wp2_with fail
  refine (Series_law s Ao Ab co cb rA rc W13 ((hs.below B_W13).up B_W13.size) HT.out).mono ?_
  rintro e W14 ⟨⟨Ao3, Ab3, co3, cb3, rA3, rc3, rfl, hs3⟩, hW14⟩
  replace q0 := q0.below hW14 q0.lt
  replace q7 := q7.below hW14 q7.lt
  replace hsxs := hsxs.go hW14
  replace sa := (sa.below hW14).up hW14.size
  replace sb := (sb.below hW14).up hW14.size
  have B_W14 := ex_trans B_W13 hW14
  clear q0_0 q0_1 q0_2 q0_l q7_0 q7_1 q7_2 q7_l
  have q0_0 : W14.cell? ⟨w.heap.size, 0, none⟩ = some (.slice Ao s.offs.length co) := q0.cell 0
  have q0_1 : W14.cell? ⟨w.heap.size, 1, none⟩ = some (.int .i64 s.err) := q0.cell 1
  have q0_2 : W14.cell? ⟨w.heap.size, 2, none⟩ = some (.slice Ab s.baths.length cb) := q0.cell 2
  have q0_l := q0.lt
  have q7_0 : W14.cell? ⟨p7, 0, none⟩ = some (.slice Ao s.offs.length co) := q7.cell 0
  have q7_1 : W14.cell? ⟨p7, 1, none⟩ = some (.int .i64 en) := q7.cell 1
  have q7_2 : W14.cell? ⟨p7, 2, none⟩ = some (.slice Ab' s.baths.length cb') := q7.cell 2
  have q7_l := q7.lt
  go_wp2_with fail
  refine (Heats_any s Ao3 Ab3 co3 cb3 rA3 rc3 W14 hs3 HT.out.sm).mono ?_
  rintro e W15 ⟨⟨Ac, cc, lc, ec, rfl, hc, sc⟩, hW15⟩
  replace q0 := q0.below hW15 q0.lt
  replace q7 := q7.below hW15 q7.lt
  replace hsxs := hsxs.go hW15
  replace sa := (sa.below hW15).up hW15.size
  replace sb := (sb.below hW15).up hW15.size
  replace hs3 := hs3.go hW15
  have B_W15 := ex_trans B_W14 hW15
  clear q0_0 q0_1 q0_2 q0_l q7_0 q7_1 q7_2 q7_l
  have q0_0 : W15.cell? ⟨w.heap.size, 0, none⟩ = some (.slice Ao s.offs.length co) := q0.cell 0
  have q0_1 : W15.cell? ⟨w.heap.size, 1, none⟩ = some (.int .i64 s.err) := q0.cell 1
  have q0_2 : W15.cell? ⟨w.heap.size, 2, none⟩ = some (.slice Ab s.baths.length cb) := q0.cell 2
  have q0_l := q0.lt
  have q7_0 : W15.cell? ⟨p7, 0, none⟩ = some (.slice Ao s.offs.length co) := q7.cell 0
  have q7_1 : W15.cell? ⟨p7, 1, none⟩ = some (.int .i64 en) := q7.cell 1
  have q7_2 : W15.cell? ⟨p7, 2, none⟩ = some (.slice Ab' s.baths.length cb') := q7.cell 2
  have q7_l := q7.lt
  clear hs3
  go_wp2_with fail
  have hcx := Series_law (errS (woS s [pp]) en) Ao Ab' co cb' rA9 rc9 W15 hsxs HTX.out
  rw [show (errS (woS s [pp]) en).baths.length = s.baths.length from woS_len] at hcx
  rw [show (errS (woS s [pp]) en).offs.length = s.offs.length from rfl] at hcx
  rw [show (errS (woS s [pp]) en).err = en from rfl] at hcx
  refine (hcx).mono ?_
  rintro e W16 ⟨⟨Ao4, Ab4, co4, cb4, rA4, rc4, rfl, hs4⟩, hW16⟩
  replace q0 := q0.below hW16 q0.lt
  replace q7 := q7.below hW16 q7.lt
  replace hsxs := hsxs.go hW16
  replace sa := (sa.below hW16).up hW16.size
  replace sb := (sb.below hW16).up hW16.size
  replace sc := (sc.below hW16).up hW16.size
  have B_W16 := ex_trans B_W15 hW16
  clear hcx
  clear q0_0 q0_1 q0_2 q0_l q7_0 q7_1 q7_2 q7_l
  have q0_0 : W16.cell? ⟨w.heap.size, 0, none⟩ = some (.slice Ao s.offs.length co) := q0.cell 0
  have q0_1 : W16.cell? ⟨w.heap.size, 1, none⟩ = some (.int .i64 s.err) := q0.cell 1
  have q0_2 : W16.cell? ⟨w.heap.size, 2, none⟩ = some (.slice Ab s.baths.length cb) := q0.cell 2
  have q0_l := q0.lt
  have q7_0 : W16.cell? ⟨p7, 0, none⟩ = some (.slice Ao s.offs.length co) := q7.cell 0
  have q7_1 : W16.cell? ⟨p7, 1, none⟩ = some (.int .i64 en) := q7.cell 1
  have q7_2 : W16.cell? ⟨p7, 2, none⟩ = some (.slice Ab' s.baths.length cb') := q7.cell 2
  have q7_l := q7.lt
  go_wp2_with fail
  have hcx := Heats_any (errS (woS s [pp]) en) Ao4 Ab4 co4 cb4 rA4 rc4 W16 hs4 HTX.out.sm
  rw [show (errS (woS s [pp]) en).baths.length = s.baths.length from woS_len] at hcx
  rw [show (errS (woS s [pp]) en).offs.length = s.offs.length from rfl] at hcx
  rw [show (errS (woS s [pp]) en).err = en from rfl] at hcx
  refine (hcx).mono ?_
  rintro e W17 ⟨⟨Ad, cd, ld, ed, rfl, hd, sd⟩, hW17⟩
  replace q0 := q0.below hW17 q0.lt
  replace q7 := q7.below hW17 q7.lt
  replace hsxs := hsxs.go hW17
  replace sa := (sa.below hW17).up hW17.size
  replace sb := (sb.below hW17).up hW17.size
  replace sc := (sc.below hW17).up hW17.size
  replace hs4 := hs4.go hW17
  have B_W17 := ex_trans B_W16 hW17
  clear hcx
  clear q0_0 q0_1 q0_2 q0_l q7_0 q7_1 q7_2 q7_l
  have q0_0 : W17.cell? ⟨w.heap.size, 0, none⟩ = some (.slice Ao s.offs.length co) := q0.cell 0
  have q0_1 : W17.cell? ⟨w.heap.size, 1, none⟩ = some (.int .i64 s.err) := q0.cell 1
  have q0_2 : W17.cell? ⟨w.heap.size, 2, none⟩ = some (.slice Ab s.baths.length cb) := q0.cell 2
  have q0_l := q0.lt
  have q7_0 : W17.cell? ⟨p7, 0, none⟩ = some (.slice Ao s.offs.length co) := q7.cell 0
  have q7_1 : W17.cell? ⟨p7, 1, none⟩ = some (.int .i64 en) := q7.cell 1
  have q7_2 : W17.cell? ⟨p7, 2, none⟩ = some (.slice Ab' s.baths.length cb') := q7.cell 2
  have q7_l := q7.lt
  clear hs4
  rcases rng_ok ha.out HOK.out with ⟨nc, rfl, rfl⟩ | ⟨hcan, rfl, hla, hae⟩
  · obtain ⟨rfl, rfl⟩ : ec = 9 ∧ lc = [] := by
      rcases rng_ok hc.out HOK.out with ⟨_, h1, h2⟩ | ⟨h, _⟩
      · exact ⟨h1, h2⟩
      · exact absurd h nc
    have HED : Hid (eb = ed ∧ (eb = 0 ∨ eb = 9)) := Lib.hid (by
      rcases rng_ok hb.out HOX.out with ⟨h, h1, _⟩ | ⟨h, h1, _⟩ <;> rcases rng_ok hd.out HOX.out with ⟨k, k1, _⟩ | ⟨k, k1, _⟩
      · exact ⟨by omega, by omega⟩
      · exact absurd k h
      · exact absurd h k
      · exact ⟨by omega, by omega⟩)
    obtain rfl : eb = ed := HED.out.1
    clear ha hb hc hd nc
    rcases HED.out.2 with h | h
    · subst h
      clear HED
      go_wp2_with fail
      refine (wakes_any _).mono ?_
      rintro e Wz ⟨rfl, hz⟩
      go_wp2
      go_ret
      exact ⟨rfl, ex_trans B_W17 hz⟩
    · subst h
      clear HED
      go_wp2_with fail
      refine (wakes_any _).mono ?_
      rintro e Wz ⟨rfl, hz⟩
      go_wp2
      go_ret
      exact ⟨rfl, ex_trans B_W17 hz⟩
  obtain ⟨rfl, hlc, hce⟩ : ec = 0 ∧ lc.length = s.baths.length ∧ ∀ k, k < s.baths.length → EndsOf (HeatZ s k) (gR lc k).lo (gR lc k).hi := by
    rcases rng_ok hc.out HOK.out with ⟨h, _⟩ | ⟨_, h1, h2, h3⟩
    · exact absurd hcan h
    · exact ⟨h1, h2, h3⟩
  have HCX : Hid (Can (errS (woS s [pp]) en)) := Lib.hid (by obtain ⟨o, h, ht⟩ := hcan; exact ⟨o, h, HTR.out o h ht⟩)
  obtain ⟨rfl, hlb, hbe⟩ : eb = 0 ∧ lb.length = s.offs.length ∧ ∀ k, k < s.offs.length → EndsOf (OffZ (errS (woS s [pp]) en) k) (gR lb k).lo (gR lb k).hi := by
    rcases rng_ok hb.out HOX.out with ⟨h, _⟩ | ⟨_, h1, h2, h3⟩
    · exact absurd HCX.out h
    · exact ⟨h1, h2, h3⟩
  obtain ⟨rfl, hld, hde⟩ : ed = 0 ∧ ld.length = s.baths.length ∧ ∀ k, k < s.baths.length → EndsOf (HeatZ (errS (woS s [pp]) en) k) (gR ld k).lo (gR ld k).hi := by
    rcases rng_ok hd.out HOX.out with ⟨h, _⟩ | ⟨_, h1, h2, h3⟩
    · exact absurd HCX.out h
    · exact ⟨h1, h2, h3⟩
  have HW1 : Hid (widB la lb = true) := Lib.hid (wid_of hla hlb hae hbe (fun k hk z ⟨o, h, ht, e⟩ => ⟨o, h, HTR.out o h ht, e⟩))
  have HW2 : Hid (widB lc ld = true) := Lib.hid (wid_of hlc hld hce hde (fun k hk z ⟨o, h, ht, e⟩ => ⟨o, h, HTR.out o h ht, e⟩))
  have b1 : la.length ≤ 1000000 := by omega
  have b2 : lb.length ≤ 1000000 := by omega
  have b3 : lc.length ≤ 1000000 := by omega
  have b4 : ld.length ≤ 1000000 := by omega
  clear ha hb hc hd hla hlb hlc hld hae hbe hce hde hcan
  go_wp2_with fail
  refine (wider_law Aa Ab_ ca cb_ la lb W17 b1 sa sb b2).mono ?_
  rintro e W18 ⟨rfl, hW18⟩
  replace q0 := q0.below hW18 q0.lt
  replace q7 := q7.below hW18 q7.lt
  replace hsxs := hsxs.go hW18
  replace sa := (sa.below hW18).up hW18.size
  replace sb := (sb.below hW18).up hW18.size
  replace sc := (sc.below hW18).up hW18.size
  replace sd := (sd.below hW18).up hW18.size
  have B_W18 := ex_trans B_W17 hW18
  clear q0_0 q0_1 q0_2 q0_l q7_0 q7_1 q7_2 q7_l
  have q0_0 : W18.cell? ⟨w.heap.size, 0, none⟩ = some (.slice Ao s.offs.length co) := q0.cell 0
  have q0_1 : W18.cell? ⟨w.heap.size, 1, none⟩ = some (.int .i64 s.err) := q0.cell 1
  have q0_2 : W18.cell? ⟨w.heap.size, 2, none⟩ = some (.slice Ab s.baths.length cb) := q0.cell 2
  have q0_l := q0.lt
  have q7_0 : W18.cell? ⟨p7, 0, none⟩ = some (.slice Ao s.offs.length co) := q7.cell 0
  have q7_1 : W18.cell? ⟨p7, 1, none⟩ = some (.int .i64 en) := q7.cell 1
  have q7_2 : W18.cell? ⟨p7, 2, none⟩ = some (.slice Ab' s.baths.length cb') := q7.cell 2
  have q7_l := q7.lt
  rw [HW1.out]
  go_wp2_with fail
  refine (wider_law Ac Ad cc cd lc ld W18 b3 sc sd b4).mono ?_
  rintro e W19 ⟨rfl, hW19⟩
  replace q0 := q0.below hW19 q0.lt
  replace q7 := q7.below hW19 q7.lt
  replace hsxs := hsxs.go hW19
  replace sa := (sa.below hW19).up hW19.size
  replace sb := (sb.below hW19).up hW19.size
  replace sc := (sc.below hW19).up hW19.size
  replace sd := (sd.below hW19).up hW19.size
  have B_W19 := ex_trans B_W18 hW19
  clear q0_0 q0_1 q0_2 q0_l q7_0 q7_1 q7_2 q7_l
  have q0_0 : W19.cell? ⟨w.heap.size, 0, none⟩ = some (.slice Ao s.offs.length co) := q0.cell 0
  have q0_1 : W19.cell? ⟨w.heap.size, 1, none⟩ = some (.int .i64 s.err) := q0.cell 1
  have q0_2 : W19.cell? ⟨w.heap.size, 2, none⟩ = some (.slice Ab s.baths.length cb) := q0.cell 2
  have q0_l := q0.lt
  have q7_0 : W19.cell? ⟨p7, 0, none⟩ = some (.slice Ao s.offs.length co) := q7.cell 0
  have q7_1 : W19.cell? ⟨p7, 1, none⟩ = some (.int .i64 en) := q7.cell 1
  have q7_2 : W19.cell? ⟨p7, 2, none⟩ = some (.slice Ab' s.baths.length cb') := q7.cell 2
  have q7_l := q7.lt
  rw [HW2.out]
  go_wp2_with fail
  refine (wakes_any _).mono ?_
  rintro e Wz ⟨rfl, hz⟩
  go_wp2
  go_ret
  exact ⟨rfl, ex_trans B_W19 hz⟩
end Go.Proofs.Ytnplefhigbkbbaa
end
