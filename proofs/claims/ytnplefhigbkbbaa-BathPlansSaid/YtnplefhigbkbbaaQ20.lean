/- Bath's reference: IsRight (walk). · Bath's reference: Can (walk). · Bath's reference: Dips, Best (walks). · Bath's laws: BathPlans (walk). -/
import Derived.Lib.MinMax
import Derived.Deep.CutBlock
import Derived.Test.YtnplefhigbkbbaaQ9
import Derived.Test.YtnplefhigbkbbaaQ8
import Derived.Test.YtnplefhigbkbbaaQ3
import Derived.Test.YtnplefhigbkbbaaQ17
import Derived.Test.YtnplefhigbkbbaaQ5
set_option linter.unusedVariables false
set_option linter.unusedSimpArgs false
set_option linter.unusedSectionVars false
section
namespace Go.Proofs.Ytnplefhigbkbbaa
open Go.RowKit
attribute [local go_sem] Ex.cell? Ex.frozen?

set_option maxRecDepth 100000 in
set_option maxHeartbeats 6400000 in
theorem isRight_ref (w0 : Wo) (Ar : Option Addr) (cr : Nat) (p : List Dp) (Ap : Option Addr) (cp : Nat) (rA : Nat → Option Addr) (rc : Nat → Nat) (w : World) (hr : SlAt w w.heap.size 2 Ar w0.rng.length (fR w0.rng)) (hp : PlIn w w.heap.size p Ap rA rc) (hsm : SmPl p) (hw : WoOk w0) (hd : ∀ k, k < p.length → DipOk w0 (gDp p k)) :
    Calls Try.prog 44 #[.agg #[.slice Ar w0.rng.length cr, .int .i64 w0.room, .int .i64 w0.steps], .slice Ap p.length cp] w fun e w' => e = .returned (.bool (truB (RightP w0 p))) ∧ Below w.heap.size w w' := by
  obtain ⟨K, hK, _⟩ := known_ex (p := p) (fun k hk => (hd k hk).in6 hw)
  have HR : Hid (RightP w0 p ↔ ∀ i, i < w0.rng.length → inB (K.get i) 0 w0.steps = true) := Lib.hid ⟨fun h i hi => by
      obtain ⟨K2, h1, h2⟩ := h.known
      obtain rfl := h1.uniq hK
      exact inB_iff.2 (h2 i hi), fun h => ⟨hd, K, hK, fun i hi => inB_iff.1 (h i hi)⟩⟩
  have hn := hw.n
  have B_V := ex_alloc (Below.refl w.heap.size w) (.cells #[.slice Ar w0.rng.length cr, .int .i64 w0.room, .int .i64 w0.steps] 60)
  have q0 : Blk (w.alloc (.cells #[.slice Ar w0.rng.length cr, .int .i64 w0.room, .int .i64 w0.steps] 60)) w.heap.size 60 #[.slice Ar w0.rng.length cr, .int .i64 w0.room, .int .i64 w0.steps] := Blk.new _ _ _
  go_enter Try.func44, Try.ntmps44
  go_wp2_with fail
  generalize w.alloc (.cells #[.slice Ar w0.rng.length cr, .int .i64 w0.room, .int .i64 w0.steps] 60) = V at *
  refine (known_ref w0 Ar cr p Ap cp rA rc K V ((hr.below B_V).up B_V.size) (hp.below B_V) hsm hw hd hK).mono ?_
  rintro e W1 ⟨⟨Ax, cx, rfl, sx⟩, hW1⟩
  replace q0 := q0.below hW1 q0.lt
  have B_W1 := ex_trans B_V hW1
  go_wp2_with fail
  refine wp_loop (fun a W => Rel (fun a W => ∃ i : Nat, i ≤ w0.rng.length ∧ Below W1.heap.size W1 W ∧ Hid (∀ j, j < i → inB (K.get j) 0 w0.steps = true) ∧ ∃ u : Nat → Value, a = ⟨List.toArray (u 0 :: u 1 :: .pointer (some ⟨w.heap.size, 0, none⟩) :: u 3 :: .bool false :: .slice Ax w0.rng.length cx :: .int .i64 (i : Int) :: u 7 :: u 8 :: u 9 :: u 10 :: u 11 :: u 12 :: u 13 :: u 14 :: u 15 :: u 16 :: u 17 :: u 18 :: u 19 :: u 20 :: u 21 :: u 22 :: u 23 :: []), []⟩) a W)
    (fun a _ => w0.rng.length - (intOf (a.tmps.getD 6 undef)).toNat) ⟨⟨0, by omega, Below.refl _ _, Lib.hid (fun j hj => absurd hj (by omega)), exFrame (by kernel_rfl)⟩⟩ ?_
  rintro a W ⟨⟨i, hi, hb, HJ, u, rfl⟩⟩
  have B_W := ex_trans B_W1 hb
  replace q0 := q0.below hb q0.lt
  have a0 : W.cell? ⟨w.heap.size, 0, none⟩ = some (.slice Ar w0.rng.length cr) := q0.cell 0
  have a1 : W.cell? ⟨w.heap.size, 1, none⟩ = some (.int .i64 w0.room) := q0.cell 1
  have a2 : W.cell? ⟨w.heap.size, 2, none⟩ = some (.int .i64 w0.steps) := q0.cell 2
  have l0 := q0.lt
  by_cases hli : i < w0.rng.length
  rotate_left
  · obtain rfl : i = w0.rng.length := by omega
    have HT : Hid (truB (RightP w0 p) = true) := Lib.hid (truB_iff.2 (HR.out.2 HJ.out))
    go_wp2_with fail
    go_ret
    exact ⟨by rw [HT.out]; rfl, B_W⟩
  obtain ⟨bx, ox, rfl, hbx, r0⟩ := IsInts.at_ (sx.below hb) hli
  have lbx : bx < W.heap.size := by have := hb.size; omega
  rw [rowF_at hli] at r0
  go_wp2_with fail
  refine wp_region_ext_mix 7 [(false, 0), (false, 1), (false, 2), (false, 3), (false, 4), (false, 5), (true, 6)] (by kernel_rfl) (by kernel_rfl) (by intro d _ _ _ _ h; cases d <;> exact h) ?_
  have X_D := (Below.refl W.heap.size W).drew
  repeat (refine mix_quiet rfl ?_; go_big_quiet_step (fail); refine wpQuiet_nil ?_)
  refine mix_loud rfl ?_
  go_wp2_with fail
  refine (In_any (K.get i) 0 w0.steps W.drew).mono ?_
  rintro e w' ⟨rfl, rfl⟩
  go_wp2_with fail
  refine ⟨inEx X_D, ?_⟩
  repeat (refine mix_quiet rfl ?_; go_big_quiet_step (fail); refine wpQuiet_nil ?_)
  refine mix_nil rfl ?_
  have B_D := B_W.drew
  cases hib : inB (K.get i) 0 w0.steps
  · have HT : Hid (truB (RightP w0 p) = false) := Lib.hid (truB_false (fun h => by have := HR.out.1 h i hli; rw [hib] at this; cases this))
    go_wp2_with fail
    go_ret
    exact ⟨by rw [HT.out]; rfl, B_D⟩
  have HN : Hid (∀ j, j < i + 1 → inB (K.get j) 0 w0.steps = true) := Lib.hid (fun j hj => by
    rcases Nat.lt_or_ge j i with h | h
    · exact HJ.out j h
    · obtain rfl : j = i := by omega
      exact hib)
  go_wp2_with fail
  refine ⟨⟨i + 1, by omega, hb.drew, HN, exFrame (by kernel_rfl)⟩, ?_⟩
  show w0.rng.length - (intOf (.int .i64 ((i : Int) + 1))).toNat < w0.rng.length - (intOf (.int .i64 (i : Int))).toNat
  simp [intOf]
  omega
end Go.Proofs.Ytnplefhigbkbbaa
end

section
namespace Go.Proofs.Ytnplefhigbkbbaa
open Go.RowKit
attribute [local go_sem] Ex.cell? Ex.frozen?

def gXd (X : List Xd) (k : Nat) : Xd := X.getD k (default, none, 0)
def fX (X : List Xd) : Nat → Nat → Value := fDp (X.map (·.1)) (fun k => (gXd X k).2.1) (fun k => (gXd X k).2.2)
theorem xR_at (X : List Xd) (k : Nat) (hk : k < X.length) (j : Nat) (hj : j < 2) : (xR X[k])[j]? = some (fX X k j) := by
  have hg : gDp (X.map (·.1)) k = (X[k]).1 := by unfold gDp; simp [hk]
  have hx : gXd X k = X[k] := by unfold gXd; simp [hk]
  match j, hj with
  | 0, _ => show some (Value.int .i64 (X[k]).1.heat) = some (Value.int .i64 (gDp (X.map (·.1)) k).heat); rw [hg]
  | 1, _ =>
    show some (Value.slice (X[k]).2.1 (X[k]).1.ins.length (X[k]).2.2) = some (Value.slice (gXd X k).2.1 (gDp (X.map (·.1)) k).ins.length (gXd X k).2.2)
    rw [hg, hx]
theorem xR_one' (x : Xd) (u : Value) (hu : u ∈ xR x) : u.oneCell' = true := by
  unfold xR at hu
  simp only [List.mem_cons, List.not_mem_nil, or_false] at hu
  rcases hu with rfl | rfl <;> rfl
/-- a plan's dips with their slices. -/
def xpL (p : List Dp) (rA : Nat → Option Addr) (rc : Nat → Nat) : List Xd := (List.range p.length).map (fun k => (gDp p k, rA k, rc k))
section
variable {p : List Dp} {rA : Nat → Option Addr} {rc : Nat → Nat}
theorem xpL_len : (xpL p rA rc).length = p.length := by unfold xpL; simp
theorem xpL_at {k : Nat} (hk : k < p.length) : gXd (xpL p rA rc) k = (gDp p k, rA k, rc k) := by unfold gXd xpL; simp [hk]
theorem xpL_map : (xpL p rA rc).map (·.1) = p := by
  unfold xpL
  rw [List.map_map]
  refine List.ext_getElem (by simp) (fun k h1 h2 => ?_)
  simp [gDp, h2]
theorem xpL_sl {w : World} {B : Nat} {A : Option Addr} (h : SlAt w B 2 A p.length (fDp p rA rc)) : SlAt w B 2 A (xpL p rA rc).length (fX (xpL p rA rc)) := by
  rw [xpL_len]
  intro hn
  obtain ⟨b, off, e, hb, hc⟩ := h hn
  refine ⟨b, off, e, hb, fun k j hk hj => (hc k j hk hj).trans (congrArg some ?_)⟩
  unfold fX
  rw [xpL_map]
  match j, hj with
  | 0, _ => rfl
  | 1, _ => show Value.slice (rA k) (gDp p k).ins.length (rc k) = Value.slice (gXd (xpL p rA rc) k).2.1 (gDp p k).ins.length (gXd (xpL p rA rc) k).2.2; rw [xpL_at hk]
theorem xpL_mem {x : Xd} (hx : x ∈ xpL p rA rc) : ∃ k, k < p.length ∧ x = (gDp p k, rA k, rc k) := by
  unfold xpL at hx
  obtain ⟨k, hk, e⟩ := List.mem_map.1 hx
  exact ⟨k, List.mem_range.1 hk, e.symm⟩
end
theorem own_pl {W : World} {base : Nat} {T : TypeId} {v : Value} {X : List Xd} (h : W.ownsRow base T 2 v X.length (X.flatMap xR)) (hi : ∀ x ∈ X, SlAt W W.heap.size 1 x.2.1 x.1.ins.length (fI x.1.ins)) : ∃ A c, v = .slice A (X.map (·.1)).length c ∧ PlIn W W.heap.size (X.map (·.1)) A (fun k => (gXd X k).2.1) (fun k => (gXd X k).2.2) := by
  have hl : (X.map (·.1)).length = X.length := List.length_map _
  obtain ⟨A, c, e, _, _, hs⟩ := own_flat (sz := 2) (l := X) (f := xR) (F := fX X) (fun _ => rfl) (xR_at X) rfl h
  refine ⟨A, c, by rw [hl]; exact e, ⟨by rw [hl]; exact hs, fun k hk => ?_⟩⟩
  rw [hl] at hk
  have hg : gDp (X.map (·.1)) k = (X[k]).1 := by unfold gDp; simp [hk]
  have hx : gXd X k = X[k] := by unfold gXd; simp [hk]
  show SlAt W W.heap.size 1 (gXd X k).2.1 _ _
  rw [hg, hx]
  exact hi _ (List.getElem_mem hk)
theorem canP_zero {w : Wo} {D b : List Dp} {f : Nat} : CanP w D b f 0 ↔ RightP w b := ⟨fun h => by cases h; assumption, .right⟩
theorem canP_succ {w : Wo} {D b : List Dp} {f m : Nat} : CanP w D b f (m + 1) ↔ RightP w b ∨ ∃ k, k < D.length ∧ f ≤ k ∧ CanP w D (b ++ [gDp D k]) (k + 1) m := by
  constructor
  · intro h
    cases h with
    | right h => exact .inl h
    | step h1 h2 h3 => exact .inr ⟨_, h1, h2, h3⟩
  · rintro (h | ⟨k, h1, h2, h3⟩)
    · exact .right h
    · exact .step h1 h2 h3
theorem mem_gDp {l : List Dp} {d : Dp} (h : d ∈ l) : ∃ k, k < l.length ∧ gDp l k = d := by
  obtain ⟨k, hk, e⟩ := List.getElem_of_mem h
  exact ⟨k, hk, by unfold gDp; simp [hk, e]⟩
theorem dips_sm {w : Wo} {b : List Dp} (hw : WoOk w) (hd : ∀ d ∈ b, DipOk w d) (hl : b.length ≤ 1000) : SmPl b := ⟨by omega, fun k hk => by
  have h1 := (hd _ (gDp_mem hk)).len.2
  have h2 := hw.room
  omega⟩
set_option maxRecDepth 100000 in
set_option maxHeartbeats 25600000 in
theorem can_ref (w0 : Wo) (Ar : Option Addr) (cr : Nat) (hw : WoOk w0) (D : List Dp) (Ad : Option Addr) (cd : Nat) (rD : Nat → Option Addr) (qD : Nat → Nat) (hDo : ∀ d ∈ D, DipOk w0 d) (hDl : D.length ≤ 64) (more : Nat) {b : List Dp} {Ab : Option Addr} {cb : Nat} {rb : Nat → Option Addr} {qb : Nat → Nat} {f : Nat} (w : World) (hr : SlAt w w.heap.size 2 Ar w0.rng.length (fR w0.rng)) (hD : PlIn w w.heap.size D Ad rD qD) (hpb : PlIn w w.heap.size b Ab rb qb) (hb : ∀ d ∈ b, DipOk w0 d) (hl : b.length + more ≤ 1000) (hf : f ≤ 64) :
    Calls Try.prog 91 #[.agg #[.slice Ar w0.rng.length cr, .int .i64 w0.room, .int .i64 w0.steps], .slice Ad D.length cd, .slice Ab b.length cb, .int .i64 (f : Int), .int .i64 (more : Int)] w fun e w' => e = .returned (.bool (truB (CanP w0 D b f more))) ∧ Below w.heap.size w w' := by
  induction more generalizing b Ab cb rb qb f w with
  | zero =>
    have hn := hw.n
    have hsm := dips_sm hw hb (by omega)
    have B_V := ex_alloc (Below.refl w.heap.size w) (.cells #[.slice Ar w0.rng.length cr, .int .i64 w0.room, .int .i64 w0.steps] 60)
    have q0 : Blk (w.alloc (.cells #[.slice Ar w0.rng.length cr, .int .i64 w0.room, .int .i64 w0.steps] 60)) w.heap.size 60 #[.slice Ar w0.rng.length cr, .int .i64 w0.room, .int .i64 w0.steps] := Blk.new _ _ _
    go_enter Try.func91, Try.ntmps91
    go_wp2_with fail
    generalize w.alloc (.cells #[.slice Ar w0.rng.length cr, .int .i64 w0.room, .int .i64 w0.steps] 60) = V at *
    refine (isRight_ref w0 Ar cr b Ab cb rb qb V ((hr.below B_V).up B_V.size) (hpb.below B_V) hsm hw (fun k hk => hb _ (gDp_mem hk))).mono ?_
    rintro e W1 ⟨rfl, hW1⟩
    replace q0 := q0.below hW1 q0.lt
    have B_W1 := ex_trans B_V hW1
    by_cases hR : RightP w0 b
    · rw [truB_iff.2 hR]
      have HT : Hid (truB (CanP w0 D b f 0) = true) := Lib.hid (truB_iff.2 (.right hR))
      clear hR
      go_wp2_with fail
      go_ret
      exact ⟨by rw [HT.out]; rfl, B_W1⟩
    rw [truB_false hR]
    have HT : Hid (truB (CanP w0 D b f 0) = false) := Lib.hid (truB_false (fun h => hR (canP_zero.1 h)))
    clear hR
    go_wp2_with fail
    refine wp_loop (fun a W => Rel (fun a W => ∃ k : Nat, k ≤ max f D.length ∧ f ≤ k ∧ Below W1.heap.size W1 W ∧  ∃ u : Nat → Value, a = ⟨List.toArray (u 0 :: .slice Ad D.length cd :: .slice Ab b.length cb :: u 3 :: .int .i64 0 :: .pointer (some ⟨w.heap.size, 0, none⟩) :: u 6 :: u 7 :: u 8 :: u 9 :: .bool false :: .int .i64 (k : Int) :: u 12 :: u 13 :: u 14 :: u 15 :: u 16 :: u 17 :: u 18 :: u 19 :: u 20 :: u 21 :: u 22 :: u 23 :: u 24 :: u 25 :: u 26 :: u 27 :: u 28 :: u 29 :: u 30 :: u 31 :: u 32 :: u 33 :: u 34 :: u 35 :: u 36 :: u 37 :: u 38 :: u 39 :: u 40 :: u 41 :: []), []⟩) a W)
      (fun a _ => max f D.length - (intOf (a.tmps.getD 11 undef)).toNat) ⟨⟨f, by omega, Nat.le_refl _, Below.refl _ _,  exFrame (by kernel_rfl)⟩⟩ ?_
    rintro a W ⟨⟨k, hk, hfk, hbl, u, rfl⟩⟩
    have B_W := ex_trans B_W1 hbl
    replace q0 := q0.below hbl q0.lt
    have d1 : decide ((0 : Int) < 0) = false := rfl
    by_cases hlk : k < D.length
    · have d2 : decide ((k : Int) < (D.length : Int)) = true := decide_eq_true (by omega)
      go_wp2_with fail
      go_ret
      exact ⟨by rw [HT.out]; rfl, B_W⟩
    · have d2 : decide ((k : Int) < (D.length : Int)) = false := decide_eq_false (by omega)
      go_wp2_with fail
      go_ret
      exact ⟨by rw [HT.out]; rfl, B_W⟩
  | succ m ih =>
    have hn := hw.n
    have hsm := dips_sm hw hb (by omega)
    have B_V := ex_alloc (Below.refl w.heap.size w) (.cells #[.slice Ar w0.rng.length cr, .int .i64 w0.room, .int .i64 w0.steps] 60)
    have q0 : Blk (w.alloc (.cells #[.slice Ar w0.rng.length cr, .int .i64 w0.room, .int .i64 w0.steps] 60)) w.heap.size 60 #[.slice Ar w0.rng.length cr, .int .i64 w0.room, .int .i64 w0.steps] := Blk.new _ _ _
    go_enter Try.func91, Try.ntmps91
    go_wp2_with fail
    generalize w.alloc (.cells #[.slice Ar w0.rng.length cr, .int .i64 w0.room, .int .i64 w0.steps] 60) = V at *
    refine (isRight_ref w0 Ar cr b Ab cb rb qb V ((hr.below B_V).up B_V.size) (hpb.below B_V) hsm hw (fun k hk => hb _ (gDp_mem hk))).mono ?_
    rintro e W1 ⟨rfl, hW1⟩
    replace q0 := q0.below hW1 q0.lt
    have B_W1 := ex_trans B_V hW1
    by_cases hR : RightP w0 b
    · rw [truB_iff.2 hR]
      have HT : Hid (truB (CanP w0 D b f (m + 1)) = true) := Lib.hid (truB_iff.2 (.right hR))
      clear hR
      go_wp2_with fail
      go_ret
      exact ⟨by rw [HT.out]; rfl, B_W1⟩
    rw [truB_false hR]
    go_wp2_with fail
    refine wp_loop (fun a W => Rel (fun a W => ∃ k : Nat, k ≤ max f D.length ∧ f ≤ k ∧ Below W1.heap.size W1 W ∧ Hid (∀ j, f ≤ j → j < k → j < D.length → ¬ CanP w0 D (b ++ [gDp D j]) (j + 1) m) ∧ ∃ u : Nat → Value, a = ⟨List.toArray (u 0 :: .slice Ad D.length cd :: .slice Ab b.length cb :: u 3 :: .int .i64 ((m + 1 : Nat) : Int) :: .pointer (some ⟨w.heap.size, 0, none⟩) :: u 6 :: u 7 :: u 8 :: u 9 :: .bool false :: .int .i64 (k : Int) :: u 12 :: u 13 :: u 14 :: u 15 :: u 16 :: u 17 :: u 18 :: u 19 :: u 20 :: u 21 :: u 22 :: u 23 :: u 24 :: u 25 :: u 26 :: u 27 :: u 28 :: u 29 :: u 30 :: u 31 :: u 32 :: u 33 :: u 34 :: u 35 :: u 36 :: u 37 :: u 38 :: u 39 :: u 40 :: u 41 :: []), []⟩) a W)
      (fun a _ => max f D.length - (intOf (a.tmps.getD 11 undef)).toNat) ⟨⟨f, by omega, Nat.le_refl _, Below.refl _ _, Lib.hid (fun j h1 h2 => absurd h2 (by omega)), exFrame (by kernel_rfl)⟩⟩ ?_
    rintro a W ⟨⟨k, hk, hfk, hbl, HJ, u, rfl⟩⟩
    have B_W := ex_trans B_W1 hbl
    replace q0 := q0.below hbl q0.lt
    have a0 : W.cell? ⟨w.heap.size, 0, none⟩ = some (.slice Ar w0.rng.length cr) := q0.cell 0
    have a1 : W.cell? ⟨w.heap.size, 1, none⟩ = some (.int .i64 w0.room) := q0.cell 1
    have a2 : W.cell? ⟨w.heap.size, 2, none⟩ = some (.int .i64 w0.steps) := q0.cell 2
    have l0 := q0.lt
    by_cases hlk : k < D.length
    rotate_left
    · have d2 : decide ((k : Int) < (D.length : Int)) = false := decide_eq_false (by omega)
      have HT : Hid (truB (CanP w0 D b f (m + 1)) = false) := Lib.hid (truB_false (fun h => by
        rcases canP_succ.1 h with h | ⟨j, h1, h2, h3⟩
        · exact hR h
        · exact HJ.out j h2 (by omega) h1 h3))
      clear hR
      go_wp2_with fail
      go_ret
      exact ⟨by rw [HT.out]; rfl, B_W⟩
    have d3 : decide ((0 : Int) < ((m + 1 : Nat) : Int)) = true := decide_eq_true (by omega)
    have d4 : (0 : Int) < (m : Int) + 1 := by omega
    obtain ⟨bd, od, rfl, hbd, g0, g1⟩ := IsDps.at_ (hD.below B_W).rows hlk
    have hdI := (hD.below B_W).ins k hlk
    have hdo := hDo _ (gDp_mem hlk)
    have lbd : bd < W.heap.size := hbd
    obtain ⟨d, hd⟩ : ∃ d, gDp D k = d := ⟨_, rfl⟩
    have HD0 := Lib.hid hd
    obtain ⟨Ai, hAi⟩ : ∃ Ai, rD k = Ai := ⟨_, rfl⟩
    obtain ⟨ci, hci⟩ : ∃ ci, qD k = ci := ⟨_, rfl⟩
    rw [hd] at g0 g1 hdI hdo
    rw [hAi] at g1 hdI
    rw [hci] at g1
    clear hd hAi hci
    have k1 : IntKind.i64.wrap ((k : Int) + 1) = (k : Int) + 1 := IntWalk.i64_in _ (by omega)
    have k2 : IntKind.i64.wrap ((m : Int) + 1 - 1) = (m : Int) := (congrArg IntKind.i64.wrap (by omega)).trans (IntWalk.i64_in _ (by omega))
    obtain ⟨i1, hi1, hy0, hy1, hy2⟩ := info_parts rdip_info
    have HJ1 := Lib.hid hi1
    clear hi1
    go_wp2_with fail
    refine wp_region_ext_tq 15 (.quiet 0 (.quiet 1 (.quiet 3 (.quiet 5 (.quiet 6 (.quiet 7 (.quiet 8 (.quiet 11 (.quiet 12 (.quiet 13 (.quiet 14 (.fork 2 (.fork 4 (.loud 9 (.loud 10 .done)) 9 (.loud 4 (.loud 10 .done))) 9 (.loud 2 (.loud 4 (.loud 10 .done))))))))))))))) (by kernel_rfl) (by kernel_rfl) (by intro d _ _ _ _ h; cases d <;> exact h) ?_
    have X_D := (Below.refl W.heap.size W).drew
    repeat (refine tq_quiet rfl ?_; go_big_quiet_step (fail); refine wpQuiet_nil ?_)
    generalize W.drew = D0 at *
    refine tq_fork rfl rfl ?_ ?_
    · go_wp2_with fail
      have X_E1 := ex_alloc X_D (.cells #[] 104)
      have qe : Blk (D0.alloc (.cells #[] 104)) D0.heap.size 104 #[] := Blk.new _ _ _
      obtain ⟨pe, hpe⟩ : ∃ p, D0.heap.size = p := ⟨_, rfl⟩
      have gpe : W.heap.size ≤ pe := by have := X_D.size; omega
      have epe : pe < (D0.alloc (.cells #[] 104)).heap.size := by rw [← hpe]; exact qe.lt
      refine ⟨inEx X_E1, ?_⟩
      rw [hpe] at qe ⊢
      clear hpe
      generalize D0.alloc (.cells #[] 104) = E1 at *
      repeat (refine tq_quiet rfl ?_; go_big_quiet_step (fail); refine wpQuiet_nil ?_)
      refine tq_fork rfl rfl ?_ ?_
      · have hA2 := xpL_sl ((hpb.below (ex_trans B_W X_E1)).rows)
        go_wp2_with (at_builtin; refine wpList_append_list (α := Xd) (f := xR) (F := fX) (sz := 2) (fun _ => rfl) xR_at xR_one' rfl _ _ _ rfl W.heap.size 104 i1 _ 32 Try.underlying61 HJ1.out hy0 hy1 hy2 rfl (by omega) (some ⟨pe, 0, none⟩) 0 [] rfl (own_empty qe gpe) Ab cb (xpL b rb qb) (by rw [xpL_len]; rfl) hA2 (by rw [xpL_len]; simp; unfold maxLen; omega) (by rw [xpL_len]; simp; omega) (by have := X_E1.size; omega) E1.heap.size rfl ?_; intro L B k9 E2 HL ow gr1 _)
        have hL : L = xpL b rb qb := HL.out
        clear HL
        subst hL
        have hqb : ∀ j, (Value.slice (some ⟨pe, 0, none⟩) 0 0).ownBlock = some j → pe = j := fun j hj => by simpa [Value.ownBlock] using hj
        have X_E2 : Below W.heap.size W E2 := X_E1.grown gr1 X_E1.size (fun j hj => by have := hqb j hj; omega)
        refine ⟨inEx X_E2, ?_⟩
        clear gr1 hqb hA2 qe
        repeat (refine tq_quiet rfl ?_; go_big_quiet_step (fail); refine wpQuiet_nil ?_)
        refine tq_loud rfl ?_
        go_wp2_with fail
        have X_E3 := ex_alloc X_E2 (.cells #[.int .i64 d.heat, .slice Ai d.ins.length ci] 104)
        replace ow := own_below ow (ex_alloc (Below.refl E2.heap.size E2) (.cells #[.int .i64 d.heat, .slice Ai d.ins.length ci] 104))
        have qo : Blk (E2.alloc (.cells #[.int .i64 d.heat, .slice Ai d.ins.length ci] 104)) E2.heap.size 104 #[.int .i64 d.heat, .slice Ai d.ins.length ci] := Blk.new _ _ _
        obtain ⟨po, hpo⟩ : ∃ p, E2.heap.size = p := ⟨_, rfl⟩
        have gpo : W.heap.size ≤ po := by have := X_E2.size; omega
        have epo : po < (E2.alloc (.cells #[.int .i64 d.heat, .slice Ai d.ins.length ci] 104)).heap.size := by rw [← hpo]; exact qo.lt
        refine ⟨inEx X_E3, ?_⟩
        rw [hpo] at qo ⊢
        clear hpo
        generalize E2.alloc (.cells #[.int .i64 d.heat, .slice Ai d.ins.length ci] 104) = E3 at *
        repeat (refine tq_quiet rfl ?_; go_big_quiet_step (fail); refine wpQuiet_nil ?_)
        refine tq_loud rfl ?_
        have hxl : (xpL b rb qb).length = b.length := xpL_len
        have c63 : (xpL b rb qb).length + 1 ≤ maxLen := by rw [hxl]; unfold maxLen; omega
        have cby : ((xpL b rb qb).length + 1) * 32 ≤ 140737488355328 := by rw [hxl]; omega
        clear hxl
        go_wp2_with (at_builtin; refine wpList_append_lies _ rfl _ _ _ rfl W.heap.size 104 i1 _ 2 32 Try.underlying61 HJ1.out hy0 hy1 hy2 rfl (by omega) (.slice B (xpL b rb qb).length k9) _ _ rfl ow ⟨po, 0, none⟩ 1 1 [.int .i64 d.heat, .slice Ai d.ins.length ci] rfl rfl (World.news_of_block qo) (by simp [Value.oneCell']) (by omega) c63 cby X_E3.size E3.heap.size rfl ?_; intro gg cap E4 hown' hgrow hat hlt')
        have X_E4 : Below W.heap.size W E4 := X_E3.grown hgrow X_E3.size (fun j hj => own_ge ow hj)
        refine ⟨inEx X_E4, ?_⟩
        repeat (refine tq_quiet rfl ?_; go_big_quiet_step (fail); refine wpQuiet_nil ?_)
        have BE := ex_trans B_W X_E4
        have own9 := own_push (f := xR) (x := (d, Ai, ci)) rfl hown'
        have XB := X_E4
        obtain ⟨A9, c9, hv9, hpl9⟩ := own_pl own9 (fun x hx => by
          rcases List.mem_append.1 hx with hx | hx
          · obtain ⟨j, hj, rfl⟩ := xpL_mem hx
            exact (hpb.below BE).ins j hj
          · obtain rfl := List.mem_singleton.1 hx
            exact ((hdI.below XB).up XB.size))
        rw [show (xpL b rb qb ++ [((d, Ai, ci) : Xd)]).map (·.1) = b ++ [d] from by rw [List.map_append, xpL_map, List.map_singleton]] at hv9 hpl9
        have hv : Value.slice (some ⟨gg, 0, none⟩) ((xpL b rb qb).length + 1) cap = .slice A9 (b ++ [d]).length c9 := by rw [← hv9]
        have HV := Lib.hid hv
        clear hv hv9 own9 hgrow hown' ow qo a0 a1 a2 l0 g0 g1
        have hbd9 : ∀ x ∈ b ++ [d], DipOk w0 x := fun x hx => by
          rcases List.mem_append.1 hx with hx | hx
          · exact hb x hx
          · obtain rfl := List.mem_singleton.1 hx
            exact hdo
        have hl9 : (b ++ [d]).length + m ≤ 1000 := by rw [List.length_append]; simp; omega
        have hih := ih (b := b ++ [d]) (Ab := A9) (cb := c9) (f := k + 1) E4 ((hr.below BE).up BE.size) (hD.below BE) hpl9 hbd9 hl9 (by omega)
        rw [← HV.out] at hih
        rw [show ((k + 1 : Nat) : Int) = (k : Int) + 1 from by push_cast; rfl] at hih
        clear hpl9
        refine tq_done (r := [_]) rfl ?_
        go_wp2_with fail
        refine hih.mono ?_
        rintro e Z ⟨rfl, hZ⟩
        have B_Z := ex_trans BE hZ
        clear hih
        by_cases hC : CanP w0 D (b ++ [d]) (k + 1) m
        · rw [truB_iff.2 hC]
          have HT : Hid (truB (CanP w0 D b f (m + 1)) = true) := Lib.hid (truB_iff.2 (canP_succ.2 (.inr ⟨k, hlk, hfk, by rw [HD0.out]; exact hC⟩)))
          clear hC hR
          go_wp2_with fail
          go_ret
          exact ⟨by rw [HT.out]; rfl, B_Z⟩
        rw [truB_false hC]
        have HN : Hid (∀ j, f ≤ j → j < k + 1 → j < D.length → ¬ CanP w0 D (b ++ [gDp D j]) (j + 1) m) := Lib.hid (fun j h1 h2 h3 => by
          rcases Nat.lt_or_ge j k with h | h
          · exact HJ.out j h1 h h3
          · obtain rfl : j = k := by omega
            rw [HD0.out]; exact hC)
        clear hC hR
        go_wp2_with fail
        refine ⟨⟨k + 1, by omega, by omega, ex_trans (ex_trans hbl X_E4) hZ, HN, exFrame (by kernel_rfl)⟩, ?_⟩
        show max f D.length - (intOf (.int .i64 ((k : Int) + 1))).toNat < max f D.length - (intOf (.int .i64 (k : Int))).toNat
        simp [intOf]
        omega
      · go_wp2_with fail
        have hlt9 := qe.lt
        have X_E5 := ex_alloc X_E1 (.cells #[.int .i64 d.heat, .slice Ai d.ins.length ci] 104)
        replace qe := qe.alloc (.cells #[.int .i64 d.heat, .slice Ai d.ins.length ci] 104)
        have qo : Blk (E1.alloc (.cells #[.int .i64 d.heat, .slice Ai d.ins.length ci] 104)) E1.heap.size 104 #[.int .i64 d.heat, .slice Ai d.ins.length ci] := Blk.new _ _ _
        obtain ⟨po, hpo⟩ : ∃ p, E1.heap.size = p := ⟨_, rfl⟩
        have gpo : W.heap.size ≤ po := by have := X_E1.size; omega
        have epo : po < (E1.alloc (.cells #[.int .i64 d.heat, .slice Ai d.ins.length ci] 104)).heap.size := by rw [← hpo]; exact qo.lt
        have hne : pe ≠ po := by omega
        clear hlt9
        refine ⟨inEx X_E5, ?_⟩
        rw [hpo] at qo ⊢
        clear hpo
        generalize E1.alloc (.cells #[.int .i64 d.heat, .slice Ai d.ins.length ci] 104) = E5 at *
        repeat (refine tq_quiet rfl ?_; go_big_quiet_step (fail); refine wpQuiet_nil ?_)
        refine tq_loud rfl ?_
        have hA2 := xpL_sl ((hpb.below (ex_trans B_W X_E5)).rows)
        go_wp2_with (at_builtin; refine wpList_append_list (α := Xd) (f := xR) (F := fX) (sz := 2) (fun _ => rfl) xR_at xR_one' rfl _ _ _ rfl W.heap.size 104 i1 _ 32 Try.underlying61 HJ1.out hy0 hy1 hy2 rfl (by omega) (some ⟨pe, 0, none⟩) 0 [] rfl (own_empty qe gpe) Ab cb (xpL b rb qb) (by rw [xpL_len]; rfl) hA2 (by rw [xpL_len]; simp; unfold maxLen; omega) (by rw [xpL_len]; simp; omega) (by have := X_E5.size; omega) E5.heap.size rfl ?_; intro L B k9 E6 HL ow gr1 _)
        have hL : L = xpL b rb qb := HL.out
        clear HL
        subst hL
        have hqb : ∀ j, (Value.slice (some ⟨pe, 0, none⟩) 0 0).ownBlock = some j → pe = j := fun j hj => by simpa [Value.ownBlock] using hj
        have X_E6 : Below W.heap.size W E6 := X_E5.grown gr1 X_E5.size (fun j hj => by have := hqb j hj; omega)
        replace qo := qo.grown gr1 (fun e => by have := hqb _ e.symm; omega)
        refine ⟨inEx X_E6, ?_⟩
        clear gr1 hqb hA2 qe
        repeat (refine tq_quiet rfl ?_; go_big_quiet_step (fail); refine wpQuiet_nil ?_)
        refine tq_loud rfl ?_
        have hxl : (xpL b rb qb).length = b.length := xpL_len
        have c63 : (xpL b rb qb).length + 1 ≤ maxLen := by rw [hxl]; unfold maxLen; omega
        have cby : ((xpL b rb qb).length + 1) * 32 ≤ 140737488355328 := by rw [hxl]; omega
        clear hxl
        go_wp2_with (at_builtin; refine wpList_append_lies _ rfl _ _ _ rfl W.heap.size 104 i1 _ 2 32 Try.underlying61 HJ1.out hy0 hy1 hy2 rfl (by omega) (.slice B (xpL b rb qb).length k9) _ _ rfl ow ⟨po, 0, none⟩ 1 1 [.int .i64 d.heat, .slice Ai d.ins.length ci] rfl rfl (World.news_of_block qo) (by simp [Value.oneCell']) (by omega) c63 cby X_E6.size E6.heap.size rfl ?_; intro gg cap E7 hown' hgrow hat hlt')
        have X_E7 : Below W.heap.size W E7 := X_E6.grown hgrow X_E6.size (fun j hj => own_ge ow hj)
        refine ⟨inEx X_E7, ?_⟩
        repeat (refine tq_quiet rfl ?_; go_big_quiet_step (fail); refine wpQuiet_nil ?_)
        have BE := ex_trans B_W X_E7
        have own9 := own_push (f := xR) (x := (d, Ai, ci)) rfl hown'
        have XB := X_E7
        obtain ⟨A9, c9, hv9, hpl9⟩ := own_pl own9 (fun x hx => by
          rcases List.mem_append.1 hx with hx | hx
          · obtain ⟨j, hj, rfl⟩ := xpL_mem hx
            exact (hpb.below BE).ins j hj
          · obtain rfl := List.mem_singleton.1 hx
            exact ((hdI.below XB).up XB.size))
        rw [show (xpL b rb qb ++ [((d, Ai, ci) : Xd)]).map (·.1) = b ++ [d] from by rw [List.map_append, xpL_map, List.map_singleton]] at hv9 hpl9
        have hv : Value.slice (some ⟨gg, 0, none⟩) ((xpL b rb qb).length + 1) cap = .slice A9 (b ++ [d]).length c9 := by rw [← hv9]
        have HV := Lib.hid hv
        clear hv hv9 own9 hgrow hown' ow qo a0 a1 a2 l0 g0 g1
        have hbd9 : ∀ x ∈ b ++ [d], DipOk w0 x := fun x hx => by
          rcases List.mem_append.1 hx with hx | hx
          · exact hb x hx
          · obtain rfl := List.mem_singleton.1 hx
            exact hdo
        have hl9 : (b ++ [d]).length + m ≤ 1000 := by rw [List.length_append]; simp; omega
        have hih := ih (b := b ++ [d]) (Ab := A9) (cb := c9) (f := k + 1) E7 ((hr.below BE).up BE.size) (hD.below BE) hpl9 hbd9 hl9 (by omega)
        rw [← HV.out] at hih
        rw [show ((k + 1 : Nat) : Int) = (k : Int) + 1 from by push_cast; rfl] at hih
        clear hpl9
        refine tq_done (r := [_]) rfl ?_
        go_wp2_with fail
        refine hih.mono ?_
        rintro e Z ⟨rfl, hZ⟩
        have B_Z := ex_trans BE hZ
        clear hih
        by_cases hC : CanP w0 D (b ++ [d]) (k + 1) m
        · rw [truB_iff.2 hC]
          have HT : Hid (truB (CanP w0 D b f (m + 1)) = true) := Lib.hid (truB_iff.2 (canP_succ.2 (.inr ⟨k, hlk, hfk, by rw [HD0.out]; exact hC⟩)))
          clear hC hR
          go_wp2_with fail
          go_ret
          exact ⟨by rw [HT.out]; rfl, B_Z⟩
        rw [truB_false hC]
        have HN : Hid (∀ j, f ≤ j → j < k + 1 → j < D.length → ¬ CanP w0 D (b ++ [gDp D j]) (j + 1) m) := Lib.hid (fun j h1 h2 h3 => by
          rcases Nat.lt_or_ge j k with h | h
          · exact HJ.out j h1 h h3
          · obtain rfl : j = k := by omega
            rw [HD0.out]; exact hC)
        clear hC hR
        go_wp2_with fail
        refine ⟨⟨k + 1, by omega, by omega, ex_trans (ex_trans hbl X_E7) hZ, HN, exFrame (by kernel_rfl)⟩, ?_⟩
        show max f D.length - (intOf (.int .i64 ((k : Int) + 1))).toNat < max f D.length - (intOf (.int .i64 (k : Int))).toNat
        simp [intOf]
        omega
    · go_wp2_with fail
      have X_E8 := ex_alloc X_D (.cells #[.int .i64 d.heat, .slice Ai d.ins.length ci] 104)
      have qo : Blk (D0.alloc (.cells #[.int .i64 d.heat, .slice Ai d.ins.length ci] 104)) D0.heap.size 104 #[.int .i64 d.heat, .slice Ai d.ins.length ci] := Blk.new _ _ _
      obtain ⟨po, hpo⟩ : ∃ p, D0.heap.size = p := ⟨_, rfl⟩
      have gpo : W.heap.size ≤ po := by have := X_D.size; omega
      have epo : po < (D0.alloc (.cells #[.int .i64 d.heat, .slice Ai d.ins.length ci] 104)).heap.size := by rw [← hpo]; exact qo.lt
      refine ⟨inEx X_E8, ?_⟩
      rw [hpo] at qo ⊢
      clear hpo
      generalize D0.alloc (.cells #[.int .i64 d.heat, .slice Ai d.ins.length ci] 104) = E8 at *
      repeat (refine tq_quiet rfl ?_; go_big_quiet_step (fail); refine wpQuiet_nil ?_)
      refine tq_loud rfl ?_
      go_wp2_with fail
      have hlt9 := qo.lt
      have X_E9 := ex_alloc X_E8 (.cells #[] 104)
      replace qo := qo.alloc (.cells #[] 104)
      have qe : Blk (E8.alloc (.cells #[] 104)) E8.heap.size 104 #[] := Blk.new _ _ _
      obtain ⟨pe, hpe⟩ : ∃ p, E8.heap.size = p := ⟨_, rfl⟩
      have gpe : W.heap.size ≤ pe := by have := X_E8.size; omega
      have epe : pe < (E8.alloc (.cells #[] 104)).heap.size := by rw [← hpe]; exact qe.lt
      have hne : pe ≠ po := by omega
      clear hlt9
      refine ⟨inEx X_E9, ?_⟩
      rw [hpe] at qe ⊢
      clear hpe
      generalize E8.alloc (.cells #[] 104) = E9 at *
      repeat (refine tq_quiet rfl ?_; go_big_quiet_step (fail); refine wpQuiet_nil ?_)
      refine tq_loud rfl ?_
      have hA2 := xpL_sl ((hpb.below (ex_trans B_W X_E9)).rows)
      go_wp2_with (at_builtin; refine wpList_append_list (α := Xd) (f := xR) (F := fX) (sz := 2) (fun _ => rfl) xR_at xR_one' rfl _ _ _ rfl W.heap.size 104 i1 _ 32 Try.underlying61 HJ1.out hy0 hy1 hy2 rfl (by omega) (some ⟨pe, 0, none⟩) 0 [] rfl (own_empty qe gpe) Ab cb (xpL b rb qb) (by rw [xpL_len]; rfl) hA2 (by rw [xpL_len]; simp; unfold maxLen; omega) (by rw [xpL_len]; simp; omega) (by have := X_E9.size; omega) E9.heap.size rfl ?_; intro L B k9 E10 HL ow gr1 _)
      have hL : L = xpL b rb qb := HL.out
      clear HL
      subst hL
      have hqb : ∀ j, (Value.slice (some ⟨pe, 0, none⟩) 0 0).ownBlock = some j → pe = j := fun j hj => by simpa [Value.ownBlock] using hj
      have X_E10 : Below W.heap.size W E10 := X_E9.grown gr1 X_E9.size (fun j hj => by have := hqb j hj; omega)
      replace qo := qo.grown gr1 (fun e => by have := hqb _ e.symm; omega)
      refine ⟨inEx X_E10, ?_⟩
      clear gr1 hqb hA2 qe
      repeat (refine tq_quiet rfl ?_; go_big_quiet_step (fail); refine wpQuiet_nil ?_)
      refine tq_loud rfl ?_
      have hxl : (xpL b rb qb).length = b.length := xpL_len
      have c63 : (xpL b rb qb).length + 1 ≤ maxLen := by rw [hxl]; unfold maxLen; omega
      have cby : ((xpL b rb qb).length + 1) * 32 ≤ 140737488355328 := by rw [hxl]; omega
      clear hxl
      go_wp2_with (at_builtin; refine wpList_append_lies _ rfl _ _ _ rfl W.heap.size 104 i1 _ 2 32 Try.underlying61 HJ1.out hy0 hy1 hy2 rfl (by omega) (.slice B (xpL b rb qb).length k9) _ _ rfl ow ⟨po, 0, none⟩ 1 1 [.int .i64 d.heat, .slice Ai d.ins.length ci] rfl rfl (World.news_of_block qo) (by simp [Value.oneCell']) (by omega) c63 cby X_E10.size E10.heap.size rfl ?_; intro gg cap E11 hown' hgrow hat hlt')
      have X_E11 : Below W.heap.size W E11 := X_E10.grown hgrow X_E10.size (fun j hj => own_ge ow hj)
      refine ⟨inEx X_E11, ?_⟩
      repeat (refine tq_quiet rfl ?_; go_big_quiet_step (fail); refine wpQuiet_nil ?_)
      have BE := ex_trans B_W X_E11
      have own9 := own_push (f := xR) (x := (d, Ai, ci)) rfl hown'
      have XB := X_E11
      obtain ⟨A9, c9, hv9, hpl9⟩ := own_pl own9 (fun x hx => by
        rcases List.mem_append.1 hx with hx | hx
        · obtain ⟨j, hj, rfl⟩ := xpL_mem hx
          exact (hpb.below BE).ins j hj
        · obtain rfl := List.mem_singleton.1 hx
          exact ((hdI.below XB).up XB.size))
      rw [show (xpL b rb qb ++ [((d, Ai, ci) : Xd)]).map (·.1) = b ++ [d] from by rw [List.map_append, xpL_map, List.map_singleton]] at hv9 hpl9
      have hv : Value.slice (some ⟨gg, 0, none⟩) ((xpL b rb qb).length + 1) cap = .slice A9 (b ++ [d]).length c9 := by rw [← hv9]
      have HV := Lib.hid hv
      clear hv hv9 own9 hgrow hown' ow qo a0 a1 a2 l0 g0 g1
      have hbd9 : ∀ x ∈ b ++ [d], DipOk w0 x := fun x hx => by
        rcases List.mem_append.1 hx with hx | hx
        · exact hb x hx
        · obtain rfl := List.mem_singleton.1 hx
          exact hdo
      have hl9 : (b ++ [d]).length + m ≤ 1000 := by rw [List.length_append]; simp; omega
      have hih := ih (b := b ++ [d]) (Ab := A9) (cb := c9) (f := k + 1) E11 ((hr.below BE).up BE.size) (hD.below BE) hpl9 hbd9 hl9 (by omega)
      rw [← HV.out] at hih
      rw [show ((k + 1 : Nat) : Int) = (k : Int) + 1 from by push_cast; rfl] at hih
      clear hpl9
      refine tq_done (r := [_]) rfl ?_
      go_wp2_with fail
      refine hih.mono ?_
      rintro e Z ⟨rfl, hZ⟩
      have B_Z := ex_trans BE hZ
      clear hih
      by_cases hC : CanP w0 D (b ++ [d]) (k + 1) m
      · rw [truB_iff.2 hC]
        have HT : Hid (truB (CanP w0 D b f (m + 1)) = true) := Lib.hid (truB_iff.2 (canP_succ.2 (.inr ⟨k, hlk, hfk, by rw [HD0.out]; exact hC⟩)))
        clear hC hR
        go_wp2_with fail
        go_ret
        exact ⟨by rw [HT.out]; rfl, B_Z⟩
      rw [truB_false hC]
      have HN : Hid (∀ j, f ≤ j → j < k + 1 → j < D.length → ¬ CanP w0 D (b ++ [gDp D j]) (j + 1) m) := Lib.hid (fun j h1 h2 h3 => by
        rcases Nat.lt_or_ge j k with h | h
        · exact HJ.out j h1 h h3
        · obtain rfl : j = k := by omega
          rw [HD0.out]; exact hC)
      clear hC hR
      go_wp2_with fail
      refine ⟨⟨k + 1, by omega, by omega, ex_trans (ex_trans hbl X_E11) hZ, HN, exFrame (by kernel_rfl)⟩, ?_⟩
      show max f D.length - (intOf (.int .i64 ((k : Int) + 1))).toNat < max f D.length - (intOf (.int .i64 (k : Int))).toNat
      simp [intOf]
      omega
end Go.Proofs.Ytnplefhigbkbbaa
end

section
namespace Go.Proofs.Ytnplefhigbkbbaa
open Go.RowKit
attribute [local go_sem] Ex.cell? Ex.frozen?

theorem bit_t2 {n k : Nat} {x : Bool} (ht : n.testBit k = x) : (((n : Int) / 2 ^ k).tmod 2 == 1) = x := by
  have e : (n : Int) / 2 ^ k = ((n / 2 ^ k : Nat) : Int) := by simp
  rw [e, Int.tmod_eq_emod_of_nonneg (Int.natCast_nonneg _)]
  rw [Nat.testBit_eq_decide_div_mod_eq] at ht
  subst ht
  generalize n / 2 ^ k = m
  rcases Nat.mod_two_eq_zero_or_one m with h2 | h2
  · rw [show ((m : Nat) : Int) % 2 = 0 by omega, h2]; rfl
  · rw [show ((m : Nat) : Int) % 2 = 1 by omega, h2]; rfl
theorem plan_one {w : Wo} {d : Dp} : planB w [d] = dipB w d := by
  unfold planB
  show allTo (fun k => dipB w (gDp [d] k)) 1 = _
  simp [allTo, gDp]
theorem one_pl {W : World} {po : Nat} {d : Dp} {A : Option Addr} {c : Nat} (h : Blk W po 104 #[.int .i64 d.heat, .slice A d.ins.length c]) (hi : SlAt W W.heap.size 1 A d.ins.length (fI d.ins)) : PlIn W W.heap.size [d] (some ⟨po, 0, none⟩) (fun _ => A) (fun _ => c) := ⟨fun _ => ⟨po, 0, rfl, h.lt, fun k j hk hj => by
  have hk0 : k = 0 := by have : k < 1 := hk; omega
  subst hk0
  match j, hj with
  | 0, _ => exact h.cell 0
  | 1, _ => exact h.cell 1⟩, fun k hk => by
  have hk0 : k = 0 := by have : k < 1 := hk; omega
  subst hk0
  exact hi⟩
set_option maxRecDepth 100000 in
set_option maxHeartbeats 12800000 in
theorem dips_ref (w0 : Wo) (Ar : Option Addr) (cr : Nat) (w : World) (hr : SlAt w w.heap.size 2 Ar w0.rng.length (fR w0.rng)) (hw : WoOk w0) :
    Calls Try.prog 90 #[.agg #[.slice Ar w0.rng.length cr, .int .i64 w0.room, .int .i64 w0.steps]] w fun e w' => (∃ A c rA rc, e = .returned (.slice A (dipsL w0).length c) ∧ PlIn w' w'.heap.size (dipsL w0) A rA rc) ∧ Below w.heap.size w w' := by
  obtain ⟨i0, hi0, hz0, hz1, hz2⟩ := info_parts int_info
  obtain ⟨i1, hi1, hy0, hy1, hy2⟩ := info_parts rdip_info
  have HI := Lib.hid hi0
  have HJ := Lib.hid hi1
  clear hi0 hi1
  have hn := hw.n
  have HW := Lib.hid hw
  have hb1 := ex_alloc (Below.refl w.heap.size w) (.cells #[.slice Ar w0.rng.length cr, .int .i64 w0.room, .int .i64 w0.steps] 60)
  have q1 : Blk (w.alloc (.cells #[.slice Ar w0.rng.length cr, .int .i64 w0.room, .int .i64 w0.steps] 60)) w.heap.size 60 #[.slice Ar w0.rng.length cr, .int .i64 w0.room, .int .i64 w0.steps] := Blk.new _ _ _
  obtain ⟨M, hM⟩ : ∃ M, 2 ^ w0.rng.length = M := ⟨_, rfl⟩
  have hM64 : M ≤ 64 := by
    have : 2 ^ w0.rng.length ≤ 2 ^ 6 := Nat.pow_le_pow_right (by omega) hn.2
    omega
  have wM : IntKind.i64.wrap ((2 : Int) ^ w0.rng.length) = (M : Int) := by
    have e : ((2 : Int) ^ w0.rng.length) = ((2 ^ w0.rng.length : Nat) : Int) := by simp
    rw [e, hM]
    exact IntWalk.i64_in _ (by omega)
  have HM : Hid (dipsL w0 = dipsTo w0 M) := Lib.hid (by unfold dipsL; rw [hM])
  clear hM
  have d64 : decide ((w0.rng.length : Int) ≤ 64) = true := decide_eq_true (by omega)
  have n64 : ((w0.rng.length : Int) ≤ 64) := by omega
  have n64' : w0.rng.length ≤ 64 := by omega
  go_enter Try.func90, Try.ntmps90
  go_wp2_with fail
  generalize w.alloc (.cells #[.slice Ar w0.rng.length cr, .int .i64 w0.room, .int .i64 w0.steps] 60) = V at *
  refine wp_loop (fun a W => Rel (fun a W => ∃ b : Nat, b ≤ M ∧ ∃ v X, Below w.heap.size w W ∧ Blk W w.heap.size 60 #[.slice Ar w0.rng.length cr, .int .i64 w0.room, .int .i64 w0.steps] ∧ DOwn 104 W (w.heap.size + 1) v X ∧ Hid (X.map (·.1) = dipsTo w0 b) ∧ ∃ u : Nat → Value, a = ⟨List.toArray (u 0 :: .pointer (some ⟨w.heap.size, 0, none⟩) :: .slice none 0 0 :: v :: .int .i64 (b : Int) :: u 5 :: u 6 :: u 7 :: u 8 :: u 9 :: u 10 :: u 11 :: u 12 :: u 13 :: u 14 :: u 15 :: u 16 :: u 17 :: u 18 :: u 19 :: u 20 :: u 21 :: u 22 :: u 23 :: u 24 :: u 25 :: u 26 :: u 27 :: u 28 :: u 29 :: u 30 :: u 31 :: u 32 :: u 33 :: u 34 :: u 35 :: u 36 :: u 37 :: u 38 :: u 39 :: u 40 :: u 41 :: u 42 :: u 43 :: u 44 :: u 45 :: u 46 :: u 47 :: u 48 :: u 49 :: u 50 :: u 51 :: u 52 :: u 53 :: u 54 :: []), []⟩) a W)
    (fun a _ => M - (intOf (a.tmps.getD 4 undef)).toNat) ⟨⟨0, by omega, .slice none 0 0, [], hb1, q1, NOwn.nil, Lib.hid rfl, exFrame (by kernel_rfl)⟩⟩ ?_
  clear hb1 q1 V
  rintro a W ⟨⟨b, hb, v, X, hbl, q0, hx, HX, u, rfl⟩⟩
  have hws := hbl.size
  have lq := q0.lt
  have a0 : W.cell? ⟨w.heap.size, 0, none⟩ = some (.slice Ar w0.rng.length cr) := q0.cell 0
  by_cases hlt : b < M
  rotate_left
  · obtain rfl : b = M := by omega
    obtain ⟨A, c, rA, rc, rfl, hpl⟩ := hx.pl
    rw [HX.out, ← HM.out] at hpl ⊢
    clear lq
    go_wp2
    go_ret
    exact ⟨⟨A, c, rA, rc, rfl, hpl⟩, hbl⟩
  have hb2 := ex_alloc (Below.refl W.heap.size W) (.cells #[.int .i64 0, .slice none 0 0] 104)
  have p2 : Blk (W.alloc (.cells #[.int .i64 0, .slice none 0 0] 104)) W.heap.size 104 #[.int .i64 (hotTo w0 b 0), .slice none 0 0] := Blk.new _ _ _
  have hqd : W.heap.size + 1 ≤ (W.alloc (.cells #[.int .i64 0, .slice none 0 0] 104)).heap.size := p2.lt
  go_wp2_with fail
  have HI0 : Hid ((natI (idxB b 0)).length = 0) := Lib.hid rfl
  have o2 : (W.alloc (.cells #[.int .i64 0, .slice none 0 0] 104)).ownsRow (W.heap.size + 1) 3 1 (.slice none 0 0) (natI (idxB b 0)).length ((natI (idxB b 0)).map (Value.int .i64)) := ⟨by simp [natI, idxB], .inl ⟨rfl, rfl⟩⟩
  generalize W.alloc (.cells #[.int .i64 0, .slice none 0 0] 104) = W2 at *
  obtain ⟨qd, hqdE⟩ : ∃ qd, W.heap.size = qd := ⟨_, rfl⟩
  have HQ := Lib.hid hqdE
  rw [hqdE] at p2 o2 hqd ⊢
  clear hqdE lq a0
  refine wp_loop (fun a Y => Rel (fun a Y => ∃ k : Nat, k ≤ w0.rng.length ∧ Below W.heap.size W Y ∧ qd + 1 ≤ Y.heap.size ∧ ∃ A2 c2, Blk Y qd 104 #[.int .i64 (hotTo w0 b k), .slice A2 (natI (idxB b k)).length c2] ∧ Y.ownsRow (qd + 1) 3 1 (.slice A2 (natI (idxB b k)).length c2) (natI (idxB b k)).length ((natI (idxB b k)).map (Value.int .i64)) ∧ ∃ u : Nat → Value, a = ⟨List.toArray (u 0 :: .pointer (some ⟨w.heap.size, 0, none⟩) :: .slice none 0 0 :: v :: .int .i64 (b : Int) :: .pointer (some ⟨qd, 0, none⟩) :: .int .i64 (k : Int) :: u 7 :: u 8 :: u 9 :: u 10 :: u 11 :: u 12 :: u 13 :: u 14 :: u 15 :: u 16 :: u 17 :: u 18 :: u 19 :: u 20 :: u 21 :: u 22 :: u 23 :: u 24 :: u 25 :: u 26 :: u 27 :: u 28 :: u 29 :: u 30 :: u 31 :: u 32 :: u 33 :: u 34 :: u 35 :: u 36 :: u 37 :: u 38 :: u 39 :: u 40 :: u 41 :: u 42 :: u 43 :: u 44 :: u 45 :: u 46 :: u 47 :: u 48 :: u 49 :: u 50 :: u 51 :: u 52 :: u 53 :: u 54 :: []), []⟩) a Y)
    (fun a _ => w0.rng.length - (intOf (a.tmps.getD 6 undef)).toNat) ⟨⟨0, by omega, hb2, hqd, none, 0, p2, o2, exFrame (by kernel_rfl)⟩⟩ ?_
  clear hb2 hqd p2 o2 HI0 W2
  rintro a Y ⟨⟨k, hk, hbX, hYs, A2, c2, p0, own, u, rfl⟩⟩
  have hbY := ex_trans hbl hbX
  have qY := q0.below hbX q0.lt
  have lqY := qY.lt
  have lp := p0.lt
  have hQ := HQ.out
  have a0 : Y.cell? ⟨w.heap.size, 0, none⟩ = some (.slice Ar w0.rng.length cr) := qY.cell 0
  by_cases hkn : k < w0.rng.length
  · --BEGIN o1
    obtain ⟨br, orr, rfl, hbr, r0, _⟩ := IsRgs.at_ (hr.below hbY) hkn
    have lbr : br < Y.heap.size := by have := hbY.size; omega
    have HH : Hid (hotTo w0 b (k + 1) = if b.testBit k = true then max (hotTo w0 b k) (gR w0.rng k).lo else hotTo w0 b k) := Lib.hid rfl
    have HL : Hid (natI (idxB b (k + 1)) = natI (idxB b k) ++ (if b.testBit k = true then [(k : Int)] else [])) := Lib.hid (by
      rw [idxB]
      split <;> simp [natI])
    have hlen : (natI (idxB b k)).length ≤ 6 := by have := idxB_le (b := b) (k := k); omega
    obtain ⟨lo, hlo⟩ : ∃ lo, (gR w0.rng k).lo = lo := ⟨_, rfl⟩
    rw [hlo] at r0 HH
    have HLO := Lib.hid hlo
    clear hlo
    obtain ⟨ln, hln⟩ : ∃ ln, natI (idxB b k) = ln := ⟨_, rfl⟩
    rw [hln] at HL p0 own hlen
    obtain ⟨hot, hhot⟩ : ∃ x, hotTo w0 b k = x := ⟨_, rfl⟩
    rw [hhot] at HH p0
    clear hln hhot
    have s64 : ((k : Int) ≤ 64) := by omega
    have s64' : k ≤ 64 := by omega
    cases hbit : b.testBit k
    · have e1 := bit_t2 hbit
      rw [hbit] at HH HL
      simp only [Bool.false_eq_true, if_false, List.append_nil] at HH HL
      clear hbit
      go_wp2_with fail
      refine ⟨⟨⟨k + 1, by omega, hbX, hYs, A2, c2, by rw [HH.out, HL.out]; exact p0, by rw [HL.out]; exact own, exFrame (by kernel_rfl)⟩⟩, ?_⟩
      show w0.rng.length - (intOf (.int .i64 ((k : Int) + 1))).toNat < w0.rng.length - (intOf (.int .i64 (k : Int))).toNat
      simp [intOf]
      omega
    · have e1 := bit_t2 hbit
      rw [hbit] at HH HL
      simp only [if_true] at HH HL
      clear hbit
      have p21 : Y.cell? ⟨qd, 1, none⟩ = some (.slice A2 ln.length c2) := p0.cell 1
      have l63 : ln.length + 1 ≤ maxLen := by unfold maxLen; omega
      have lby : (ln.length + 1) * 8 ≤ 140737488355328 := by omega
      have hbZ := ex_alloc (Below.refl Y.heap.size Y) (.cells #[.int .i64 (k : Int)] 3)
      have y4 := own.alloc (.cells #[.int .i64 (k : Int)] 3)
      have p3 := p0.alloc (.cells #[.int .i64 (k : Int)] 3)
      have hbase : qd + 1 ≤ (Y.alloc (.cells #[.int .i64 (k : Int)] 3)).heap.size := by have := hbZ.size; omega
      have hge := fun (j : Nat) (hj : (Value.slice A2 ln.length c2).ownBlock = some j) => own_ge own hj
      have hnq : some qd ≠ (Value.slice A2 ln.length c2).ownBlock := fun e => by have := hge _ e.symm; omega
      go_wp2_with (refine pause_at 34 rfl ?_)
      refine Paused.mk ?_
      refine wpList_append_lies _ rfl _ _ _ rfl (qd + 1) 3 i0 _ 1 8 Try.underlying52 HI.out hz0 hz1 hz2 rfl (by omega) (.slice A2 ln.length c2) _ _ rfl y4 ⟨Y.heap.size, 0, none⟩ 1 1 [.int .i64 (k : Int)] rfl rfl (World.news_of_block (heap_alloc_new Y _)) (by simp [Value.oneCell']) (by omega) l63 lby hbase (Y.heap.size + 1) (by simp) ?_
      intro gg cap w1 hown' hgrow hat hlt'
      have p4 := p3.grown hgrow hnq
      have p41 : w1.cell? ⟨qd, 1, none⟩ = some (.slice A2 ln.length c2) := p4.cell 1
      have lp4 := p4.lt
      have fp4 := p4.frozen0
      have p5 := p4.set_ 1 (.slice (some ⟨gg, 0, none⟩) (ln.length + 1) cap)
      simp only [List.setIfInBounds_toArray, List.set_cons_zero, List.set_cons_succ] at p5
      have own5 := own_far hown' (p := ⟨qd, 1, none⟩) (by show qd < qd + 1; omega) (.slice (some ⟨gg, 0, none⟩) (ln.length + 1) cap)
      have B5 := ex_set ((ex_trans hbX hbZ).grown hgrow (by have := hbX.size; have := hbZ.size; omega) (fun j hj => by have := hge j hj; omega)) (p := ⟨qd, 1, none⟩) (by show W.heap.size ≤ qd; omega) (.slice (some ⟨gg, 0, none⟩) (ln.length + 1) cap)
      clear a0 p21 y4 p3 hgrow hat hown' hnq
      go_upto_region 11 with fail
      clear p41 lp4 fp4 p4
      generalize w1.setCell ⟨qd, 1, none⟩ (.slice (some ⟨gg, 0, none⟩) (ln.length + 1) cap) = U at *
      have BU := ex_trans hbl B5
      have qU := q0.below B5 q0.lt
      have a0 : U.cell? ⟨w.heap.size, 0, none⟩ = some (.slice (some ⟨br, orr, none⟩) w0.rng.length cr) := qU.cell 0
      have c0 : U.cell? ⟨qd, 0, none⟩ = some (.int .i64 hot) := p5.cell 0
      have lU := p5.lt
      have lqU := qU.lt
      have fU0 := p5.frozen0
      obtain ⟨br', orr', e9, _, r0, _⟩ := IsRgs.at_ (hr.below BU) hkn
      injection e9 with e9
      injection e9 with e90 e91 e92
      subst e90 e91
      clear e92
      have lbU : br < U.heap.size := by have := BU.size; omega
      have hloE : (gR w0.rng k).lo = lo := HLO.out
      rw [hloE] at r0
      clear hloE
      go_wp2_with fail
      refine wp_region_ext_mix 10 [(false, 0), (false, 1), (false, 2), (false, 3), (false, 4), (false, 5), (false, 6), (false, 7), (true, 8), (false, 9)] (by kernel_rfl) (by kernel_rfl) (by intro d _ _ _ _ h; cases d <;> exact h) ?_
      have X_D := (Below.refl U.heap.size U).drew
      repeat (refine mix_quiet rfl ?_; go_big_quiet_step (fail); refine wpQuiet_nil ?_)
      refine mix_loud rfl ?_
      go_wp2_with fail
      refine ⟨inEx X_D, ?_⟩
      repeat (refine mix_quiet rfl ?_; go_big_quiet_step (fail); refine wpQuiet_nil ?_)
      refine mix_nil rfl ?_
      go_wp2_with fail
      have p6 := p5.drew.set_ 0 (.int .i64 (max hot lo))
      simp only [List.setIfInBounds_toArray, List.set_cons_zero] at p6
      have own6 := own_far (own_below own5 X_D) (p := ⟨qd, 0, none⟩) (by show qd < qd + 1; omega) (.int .i64 (max hot lo))
      have B6 := ex_set B5.drew (p := ⟨qd, 0, none⟩) (by show W.heap.size ≤ qd; omega) (.int .i64 (max hot lo))
      have HL2 : Hid ((natI (idxB b (k + 1))).length = ln.length + 1) := Lib.hid (by rw [HL.out]; simp)
      have HL3 : Hid ((natI (idxB b (k + 1))).map (Value.int .i64) = ln.map (Value.int .i64) ++ [.int .i64 (k : Int)]) := Lib.hid (by rw [HL.out]; simp)
      refine ⟨⟨⟨k + 1, by omega, B6, by simp; omega, some ⟨gg, 0, none⟩, cap, by rw [HH.out, HL2.out]; exact p6, by rw [HL2.out, HL3.out]; exact own6, exFrame (by kernel_rfl)⟩⟩, ?_⟩
      show w0.rng.length - (intOf (.int .i64 ((k : Int) + 1))).toNat < w0.rng.length - (intOf (.int .i64 (k : Int))).toNat
      simp [intOf]
      omega
  obtain rfl : k = w0.rng.length := by omega
  have HD : Hid (dipsTo w0 (b + 1) = dipsTo w0 b ++ (if dipB w0 (dpB w0 b) = true then [dpB w0 b] else [])) := Lib.hid rfl
  have hXl : X.length ≤ 64 := by
    have h1 := congrArg List.length HX.out
    have h2 := dipsTo_len (w := w0) (k := b)
    rw [List.length_map] at h1
    omega
  have e1 : hotTo w0 b w0.rng.length = (dpB w0 b).heat := rfl
  have e2 : natI (idxB b w0.rng.length) = (dpB w0 b).ins := rfl
  rw [e1, e2] at p0
  rw [e2] at own
  have hlen : (dpB w0 b).ins.length ≤ 6 := by have := idxB_le (b := b) (k := w0.rng.length); rw [e2] at this; omega
  clear e1 e2
  obtain ⟨d, hd⟩ : ∃ d, dpB w0 b = d := ⟨_, rfl⟩
  rw [hd] at p0 own HD hlen
  clear hd
  have hrow := ints_row own
  have b0 : Y.cell? ⟨qd, 0, none⟩ = some (.int .i64 d.heat) := p0.cell 0
  have b1 : Y.cell? ⟨qd, 1, none⟩ = some (.slice A2 d.ins.length c2) := p0.cell 1
  have a1 : Y.cell? ⟨w.heap.size, 1, none⟩ = some (.int .i64 w0.room) := qY.cell 1
  have a2 : Y.cell? ⟨w.heap.size, 2, none⟩ = some (.int .i64 w0.steps) := qY.cell 2
  have hxY := hx.below hbX
  have hZ := ex_alloc (Below.refl Y.heap.size Y) (.cells #[.int .i64 d.heat, .slice A2 d.ins.length c2] 104)
  have qo : Blk (Y.alloc (.cells #[.int .i64 d.heat, .slice A2 d.ins.length c2] 104)) Y.heap.size 104 #[.int .i64 d.heat, .slice A2 d.ins.length c2] := Blk.new _ _ _
  go_wp2_with fail
  obtain ⟨po, hpo⟩ : ∃ p, Y.heap.size = p := ⟨_, rfl⟩
  rw [hpo] at qo ⊢
  clear hpo
  generalize Y.alloc (.cells #[.int .i64 d.heat, .slice A2 d.ins.length c2] 104) = Z at *
  have BZ := ex_trans hbY hZ
  have hsm1 : SmPl [d] := ⟨by simp, fun k hk => by have hk0 : k = 0 := (by have : k < 1 := hk; omega); subst hk0; show d.ins.length ≤ 1000000; omega⟩
  have hcall := isPlan_any w0 Ar cr [d] (some ⟨po, 0, none⟩) 1 (fun _ => A2) (fun _ => c2) Z ((hr.below BZ).up BZ.size) (by omega) (one_pl qo (hrow.below hZ).sl) hsm1
  rw [plan_one] at hcall
  refine Calls.mono hcall ?_
  rintro e Z1 ⟨rfl, hZ1⟩
  have hYZ := ex_trans hZ hZ1
  have hbZ1 := ex_trans hbY hYZ
  have qZ := qY.below hYZ lqY
  have pZ := p0.below hYZ lp
  have hxZ := hxY.below hYZ
  have hrZ := hrow.below hYZ
  have hsz := hYZ.size
  clear b0 b1 a0 a1 a2 hcall qo hsm1
  have b0 : Z1.cell? ⟨qd, 0, none⟩ = some (.int .i64 d.heat) := pZ.cell 0
  have b1 : Z1.cell? ⟨qd, 1, none⟩ = some (.slice A2 d.ins.length c2) := pZ.cell 1
  have lZ := pZ.lt
  cases hdb : dipB w0 d
  · have HN : Hid (X.map (·.1) = dipsTo w0 (b + 1)) := Lib.hid (by
      rw [HD.out, if_neg (by rw [hdb]; decide), List.append_nil]; exact HX.out)
    clear hdb
    go_wp2_with fail
    refine ⟨⟨⟨b + 1, by omega, v, X, hbZ1, qZ, hxZ, HN, exFrame (by kernel_rfl)⟩⟩, ?_⟩
    show M - (intOf (.int .i64 ((b : Int) + 1))).toNat < M - (intOf (.int .i64 (b : Int))).toNat
    simp [intOf]
    omega
  · have HN : Hid ((X ++ [((d, A2, c2) : Xd)]).map (·.1) = dipsTo w0 (b + 1)) := Lib.hid (by
      rw [HD.out, if_pos hdb, List.map_append, HX.out]; rfl)
    clear hdb
    have hA := ex_alloc (Below.refl Z1.heap.size Z1) (.cells #[.int .i64 d.heat, .slice A2 d.ins.length c2] 104)
    have y4 := hxZ.own.alloc (.cells #[.int .i64 d.heat, .slice A2 d.ins.length c2] 104)
    have c63 : X.length + 1 ≤ maxLen := by unfold maxLen; omega
    have cby : (X.length + 1) * 32 ≤ 140737488355328 := by omega
    have hbase : w.heap.size + 1 ≤ (Z1.alloc (.cells #[.int .i64 d.heat, .slice A2 d.ins.length c2] 104)).heap.size := by have := hA.size; omega
    have hge := fun (j : Nat) (hj : v.ownBlock = some j) => own_ge hxZ.own hj
    have hnw : some w.heap.size ≠ v.ownBlock := fun e => by have := hge _ e.symm; omega
    have qA := qZ.below hA qZ.lt
    go_wp2_with (refine pause_at 53 rfl ?_)
    refine Paused.mk ?_
    refine wpList_append_lies _ rfl _ _ _ rfl (w.heap.size + 1) 104 i1 _ 2 32 Try.underlying61 HJ.out hy0 hy1 hy2 rfl (by omega) v _ _ rfl y4 ⟨Z1.heap.size, 0, none⟩ 1 1 [.int .i64 d.heat, .slice A2 d.ins.length c2] rfl rfl (World.news_of_block (heap_alloc_new Z1 _)) (by simp [Value.oneCell']) (by omega) c63 cby hbase (Z1.heap.size + 1) (by simp) ?_
    intro gg cap w1 hown' hgrow hat hlt'
    have qB := qA.grown hgrow hnw
    have hN3 : DOwn 104 w1 (w.heap.size + 1) (.slice (some ⟨gg, 0, none⟩) (X.length + 1) cap) (X ++ [((d, A2, c2) : Xd)]) :=
      NOwn.push (hxZ.below hA) hgrow (by decide) rfl (own_push (f := xR) (x := ((d, A2, c2) : Xd)) rfl hown') (fun y hy => by
        obtain rfl := List.mem_singleton.1 hy
        exact (hrZ.below hA).base (by omega))
    have B3 : Below w.heap.size w w1 := (ex_trans hbZ1 hA).grown hgrow (by have := hbZ1.size; have := hA.size; omega) (fun j hj => by have := hge j hj; omega)
    clear b0 b1 lZ y4 hgrow hat hown' hnw
    go_wp2_with fail
    refine ⟨⟨⟨b + 1, by omega, _, _, B3, qB, hN3, HN, exFrame (by kernel_rfl)⟩⟩, ?_⟩
    show M - (intOf (.int .i64 ((b : Int) + 1))).toNat < M - (intOf (.int .i64 (b : Int))).toNat
    simp [intOf]
    omega
set_option maxRecDepth 100000 in
set_option maxHeartbeats 6400000 in
theorem best_ref (w0 : Wo) (Ar : Option Addr) (cr : Nat) (w : World) (hr : SlAt w w.heap.size 2 Ar w0.rng.length (fR w0.rng)) (hw : WoOk w0) :
    Calls Try.prog 46 #[.agg #[.slice Ar w0.rng.length cr, .int .i64 w0.room, .int .i64 w0.steps]] w fun e w' => (∃ v : Int, e = .returned (.int .i64 v) ∧ Hid (BestIs w0 v)) ∧ Below w.heap.size w w' := by
  have hn := hw.n
  have hDl := dipsL_len hw
  have B_V := ex_alloc (Below.refl w.heap.size w) (.cells #[.slice Ar w0.rng.length cr, .int .i64 w0.room, .int .i64 w0.steps] 60)
  have q0 : Blk (w.alloc (.cells #[.slice Ar w0.rng.length cr, .int .i64 w0.room, .int .i64 w0.steps] 60)) w.heap.size 60 #[.slice Ar w0.rng.length cr, .int .i64 w0.room, .int .i64 w0.steps] := Blk.new _ _ _
  go_enter Try.func46, Try.ntmps46
  go_wp2_with fail
  generalize w.alloc (.cells #[.slice Ar w0.rng.length cr, .int .i64 w0.room, .int .i64 w0.steps] 60) = V at *
  refine (dips_ref w0 Ar cr V ((hr.below B_V).up B_V.size) hw).mono ?_
  rintro e W1 ⟨⟨Ad, cd, rD, qD, rfl, hD⟩, hW1⟩
  replace q0 := q0.below hW1 q0.lt
  have B_W1 := ex_trans B_V hW1
  go_wp2_with fail
  refine wp_loop (fun a W => Rel (fun a W => ∃ m : Nat, m ≤ w0.rng.length ∧ Below W1.heap.size W1 W ∧ Hid (∀ j, j < m → ¬ CanP w0 (dipsL w0) [] 0 j) ∧ ∃ u : Nat → Value, a = ⟨List.toArray (u 0 :: .pointer (some ⟨w.heap.size, 0, none⟩) :: .int .i64 0 :: .slice Ad (dipsL w0).length cd :: .int .i64 (m : Int) :: u 5 :: u 6 :: u 7 :: u 8 :: u 9 :: u 10 :: u 11 :: u 12 :: u 13 :: u 14 :: u 15 :: u 16 :: u 17 :: u 18 :: []), []⟩) a W)
    (fun a _ => w0.rng.length - (intOf (a.tmps.getD 4 undef)).toNat) ⟨⟨0, by omega, Below.refl _ _, Lib.hid (fun j hj => absurd hj (by omega)), exFrame (by kernel_rfl)⟩⟩ ?_
  rintro a W ⟨⟨m, hm, hb, HJ, u, rfl⟩⟩
  have B_W := ex_trans B_W1 hb
  replace q0 := q0.below hb q0.lt
  have a0 : W.cell? ⟨w.heap.size, 0, none⟩ = some (.slice Ar w0.rng.length cr) := q0.cell 0
  have a1 : W.cell? ⟨w.heap.size, 1, none⟩ = some (.int .i64 w0.room) := q0.cell 1
  have a2 : W.cell? ⟨w.heap.size, 2, none⟩ = some (.int .i64 w0.steps) := q0.cell 2
  have l0 := q0.lt
  by_cases hlm : m < w0.rng.length
  rotate_left
  · obtain rfl : m = w0.rng.length := by omega
    go_wp2_with fail
    go_ret
    exact ⟨⟨-1, rfl, Lib.hid (.inl ⟨rfl, HJ.out⟩)⟩, B_W⟩
  go_wp2_with fail
  have hc := can_ref w0 Ar cr hw (dipsL w0) Ad cd rD qD (fun d h => dipsL_ok d h) hDl m (b := []) (Ab := none) (cb := 0) (rb := fun _ => none) (qb := fun _ => 0) (f := 0) W ((hr.below B_W).up B_W.size) (hD.below hb) ⟨fun h => absurd h (by simp), fun k hk => absurd hk (by simp)⟩ (fun d h => by cases h) (by simp; omega) (by omega)
  refine Calls.mono hc ?_
  rintro e Z ⟨rfl, hZ⟩
  have B_Z := ex_trans B_W hZ
  clear hc a0 a1 a2 l0
  by_cases hC : CanP w0 (dipsL w0) [] 0 m
  · rw [truB_iff.2 hC]
    have HV : Hid (BestIs w0 (m : Int)) := Lib.hid (.inr ⟨m, rfl, hlm, hC, HJ.out⟩)
    clear hC
    go_wp2_with fail
    go_ret
    exact ⟨⟨_, rfl, HV⟩, B_Z⟩
  rw [truB_false hC]
  have HN : Hid (∀ j, j < m + 1 → ¬ CanP w0 (dipsL w0) [] 0 j) := Lib.hid (fun j h1 => by
    rcases Nat.lt_or_ge j m with h | h
    · exact HJ.out j h
    · obtain rfl : j = m := by omega
      exact hC)
  clear hC
  go_wp2_with fail
  refine ⟨⟨m + 1, by omega, ex_trans hb hZ, HN, exFrame (by kernel_rfl)⟩, ?_⟩
  show w0.rng.length - (intOf (.int .i64 ((m : Int) + 1))).toNat < w0.rng.length - (intOf (.int .i64 (m : Int))).toNat
  simp [intOf]
  omega
end Go.Proofs.Ytnplefhigbkbbaa
end

section
namespace Go.Proofs.Ytnplefhigbkbbaa
open Go.RowKit
attribute [local go_sem] Ex.cell? Ex.frozen?

theorem plans_two {w : Wo} {r : List Dp} {ev v : Int} (hw : WoOk w) (h : PlanV w r ev) (hv : BestIs w v) : Hid (ev = 9 ∧ r = [] ∧ v = -1 ∨ ev = 0 ∧ MinPl w r ∧ v = (r.length : Int)) := by
  rcases h with ⟨h, _⟩ | ⟨_, h, e, e2⟩ | ⟨_, hm, e⟩
  · exact absurd (woOk_iff.2 hw) h
  · exact Lib.hid (.inl ⟨e, e2, hv.none h⟩)
  · exact Lib.hid (.inr ⟨e, hm, hv.min hw hm⟩)
set_option maxRecDepth 100000 in
set_option maxHeartbeats 25600000 in
theorem PlansLaw_any (w0 : Wo) (Ar : Option Addr) (cr : Nat) (p : List Dp) (Ap : Option Addr) (cp : Nat) (rA : Nat → Option Addr) (rc : Nat → Nat) (many : Int) (w : World) (hr : SlAt w w.heap.size 2 Ar w0.rng.length (fR w0.rng)) (hrl : w0.rng.length ≤ maxLen) (hp : PlIn w w.heap.size p Ap rA rc) (hpl : p.length ≤ maxLen) :
    Calls Try.prog 6 #[.agg #[.slice Ar w0.rng.length cr, .int .i64 w0.room, .int .i64 w0.steps], .slice Ap p.length cp, .int .i64 many] w fun e w' => e = .returned (.bool true) ∧ Below w.heap.size w w' := by
  have B_V := ex_alloc (Below.refl w.heap.size w) (.cells #[.slice Ar w0.rng.length cr, .int .i64 w0.room, .int .i64 w0.steps] 60)
  have q0 : Blk (w.alloc (.cells #[.slice Ar w0.rng.length cr, .int .i64 w0.room, .int .i64 w0.steps] 60)) w.heap.size 60 #[.slice Ar w0.rng.length cr, .int .i64 w0.room, .int .i64 w0.steps] := Blk.new _ _ _
  have hm : maxLen = 9223372036854775807 := rfl
  go_enter Try.func6, Try.ntmps6
  go_wp2_with fail
  generalize w.alloc (.cells #[.slice Ar w0.rng.length cr, .int .i64 w0.room, .int .i64 w0.steps] 60) = V at *
  have a0 : V.cell? ⟨w.heap.size, 0, none⟩ = some (.slice Ar w0.rng.length cr) := q0.cell 0
  have a1 : V.cell? ⟨w.heap.size, 1, none⟩ = some (.int .i64 w0.room) := q0.cell 1
  have a2 : V.cell? ⟨w.heap.size, 2, none⟩ = some (.int .i64 w0.steps) := q0.cell 2
  have l0 := q0.lt
  refine (short_law w0 Ar cr p Ap cp rA rc V (hp.below B_V) hpl hrl).mono ?_
  rintro e W1 ⟨⟨y, rfl, hx⟩, hW1⟩
  replace q0 := q0.below hW1 q0.lt
  have B_W1 := ex_trans B_V hW1
  clear a0 a1 a2 l0
  have a0 : W1.cell? ⟨w.heap.size, 0, none⟩ = some (.slice Ar w0.rng.length cr) := q0.cell 0
  have a1 : W1.cell? ⟨w.heap.size, 1, none⟩ = some (.int .i64 w0.room) := q0.cell 1
  have a2 : W1.cell? ⟨w.heap.size, 2, none⟩ = some (.int .i64 w0.steps) := q0.cell 2
  have l0 := q0.lt
  cases y
  · go_wp2_with fail
    refine (wakes_any _).mono ?_
    rintro e Wz ⟨rfl, hz⟩
    go_wp2
    go_ret
    exact ⟨rfl, ex_trans B_W1 hz⟩
  have HS := Lib.hid (hx.out rfl)
  clear hx
  have hn9 := HS.out.n
  have hp9 := HS.out.len
  have hsm : SmPl p := ⟨by omega, fun k hk => by have := HS.out.ins k hk; omega⟩
  have HSM := Lib.hid hsm
  clear hsm
  go_wp2_with fail
  refine (Works_law w0 Ar cr W1 ((hr.below B_W1).up B_W1.size) (by omega)).mono ?_
  rintro e W2 ⟨⟨A3, c3, rfl, s3⟩, hW2⟩
  replace q0 := q0.below hW2 q0.lt
  have B_W2 := ex_trans B_W1 hW2
  clear a0 a1 a2 l0
  have a0 : W2.cell? ⟨w.heap.size, 0, none⟩ = some (.slice Ar w0.rng.length cr) := q0.cell 0
  have a1 : W2.cell? ⟨w.heap.size, 1, none⟩ = some (.int .i64 w0.room) := q0.cell 1
  have a2 : W2.cell? ⟨w.heap.size, 2, none⟩ = some (.int .i64 w0.steps) := q0.cell 2
  have l0 := q0.lt
  go_wp2_with fail
  refine (planTo_law p Ap cp rA rc W2 (hp.below B_W2) HSM.out (by omega)).mono ?_
  rintro e W3 ⟨⟨Ap2, cp2, rA2, rc2, rfl, hp2⟩, hW3⟩
  replace q0 := q0.below hW3 q0.lt
  replace s3 := (s3.below hW3).up hW3.size
  have B_W3 := ex_trans B_W2 hW3
  clear a0 a1 a2 l0
  have a0 : W3.cell? ⟨w.heap.size, 0, none⟩ = some (.slice Ar w0.rng.length cr) := q0.cell 0
  have a1 : W3.cell? ⟨w.heap.size, 1, none⟩ = some (.int .i64 w0.room) := q0.cell 1
  have a2 : W3.cell? ⟨w.heap.size, 2, none⟩ = some (.int .i64 w0.steps) := q0.cell 2
  have l0 := q0.lt
  go_wp2_with fail
  refine (provePlan_any w0 A3 c3 p Ap2 cp2 rA2 rc2 W3 s3 (by omega) hp2 HSM.out many).mono ?_
  rintro e W4 ⟨isb, rfl, HIS, hW4⟩
  clear s3 hp2
  replace q0 := q0.below hW4 q0.lt
  have B_W4 := ex_trans B_W3 hW4
  clear a0 a1 a2 l0
  have a0 : W4.cell? ⟨w.heap.size, 0, none⟩ = some (.slice Ar w0.rng.length cr) := q0.cell 0
  have a1 : W4.cell? ⟨w.heap.size, 1, none⟩ = some (.int .i64 w0.room) := q0.cell 1
  have a2 : W4.cell? ⟨w.heap.size, 2, none⟩ = some (.int .i64 w0.steps) := q0.cell 2
  have l0 := q0.lt
  go_wp2_with fail
  refine (worksFault_any w0 Ar cr W4 ((hr.below B_W4).up B_W4.size) (by omega)).mono ?_
  rintro e W5 ⟨rfl, hW5⟩
  replace q0 := q0.below hW5 q0.lt
  have B_W5 := ex_trans B_W4 hW5
  clear a0 a1 a2 l0
  have a0 : W5.cell? ⟨w.heap.size, 0, none⟩ = some (.slice Ar w0.rng.length cr) := q0.cell 0
  have a1 : W5.cell? ⟨w.heap.size, 1, none⟩ = some (.int .i64 w0.room) := q0.cell 1
  have a2 : W5.cell? ⟨w.heap.size, 2, none⟩ = some (.int .i64 w0.steps) := q0.cell 2
  have l0 := q0.lt
  by_cases h0 : ckWo w0 = 0
  rotate_left
  · have hib : isb = false := by cases isb; rfl; exact absurd (HIS.out.1 rfl).1 h0
    subst hib
    have HPB : Hid (∀ r ev, PlanV w0 r ev → ev = ckWo w0 ∧ r = []) := Lib.hid (fun r ev h => by
      rcases h with ⟨_, e, e2⟩ | ⟨h, _⟩ | ⟨h, _⟩
      · exact ⟨e, e2⟩
      · exact absurd h h0
      · exact absurd h h0)
    clear HIS
    obtain ⟨ck, hck⟩ : ∃ ck, ckWo w0 = ck := ⟨_, rfl⟩
    rw [hck] at h0 HPB ⊢
    clear hck
    have e1 : (ck == 0) = false := by simp [h0]
    have e2 : (ck != 0) = true := by simp [h0]
    clear h0
    go_wp2_with fail
    refine (Works_law w0 Ar cr W5 ((hr.below B_W5).up B_W5.size) (by omega)).mono ?_
    rintro e W6 ⟨⟨A5, c5, rfl, s5⟩, hW6⟩
    replace q0 := q0.below hW6 q0.lt
    have B_W6 := ex_trans B_W5 hW6
    clear a0 a1 a2 l0
    have a0 : W6.cell? ⟨w.heap.size, 0, none⟩ = some (.slice Ar w0.rng.length cr) := q0.cell 0
    have a1 : W6.cell? ⟨w.heap.size, 1, none⟩ = some (.int .i64 w0.room) := q0.cell 1
    have a2 : W6.cell? ⟨w.heap.size, 2, none⟩ = some (.int .i64 w0.steps) := q0.cell 2
    have l0 := q0.lt
    go_wp2_with fail
    refine (Plan_any w0 A5 c5 W6 s5 (by omega)).mono ?_
    rintro e W7 ⟨⟨Aq, r, cq, rAq, rcq, ev, rfl, HPV, hr6, hpr⟩, hW7⟩
    replace q0 := q0.below hW7 q0.lt
    replace s5 := (s5.below hW7).up hW7.size
    have B_W7 := ex_trans B_W6 hW7
    clear a0 a1 a2 l0
    have a0 : W7.cell? ⟨w.heap.size, 0, none⟩ = some (.slice Ar w0.rng.length cr) := q0.cell 0
    have a1 : W7.cell? ⟨w.heap.size, 1, none⟩ = some (.int .i64 w0.room) := q0.cell 1
    have a2 : W7.cell? ⟨w.heap.size, 2, none⟩ = some (.int .i64 w0.steps) := q0.cell 2
    have l0 := q0.lt
    obtain ⟨he, hre⟩ := HPB.out r ev HPV.out
    subst he hre
    clear HPV hpr hr6 HPB s5
    go_wp2_with fail
    refine (wakes_any _).mono ?_
    rintro e Wz ⟨rfl, hz⟩
    go_wp2
    go_ret
    exact ⟨rfl, ex_trans B_W7 hz⟩
  rw [h0]
  have HOK : Hid (WoOk w0) := Lib.hid (woOk_iff.1 h0)
  have HIS2 : Hid (isb = true ↔ RightP w0 p ∧ (p.length : Int) ≤ many) := Lib.hid ⟨fun h => (HIS.out.1 h).2, fun h => HIS.out.2 ⟨h0, h⟩⟩
  clear h0 HIS
  go_upto_region 5 with fail
  refine wp_cut (fun a W => Rel (fun a W => Below W5.heap.size W5 W ∧ ∃ u : Nat → Value, a = ⟨List.toArray (u 0 :: u 1 :: u 2 :: .pointer (some ⟨w.heap.size, 0, none⟩) :: u 4 :: u 5 :: .bool false :: u 7 :: .int .i64 0 :: u 9 :: u 10 :: u 11 :: u 12 :: u 13 :: u 14 :: u 15 :: u 16 :: u 17 :: u 18 :: u 19 :: u 20 :: u 21 :: u 22 :: u 23 :: u 24 :: u 25 :: u 26 :: u 27 :: u 28 :: u 29 :: u 30 :: u 31 :: u 32 :: u 33 :: u 34 :: u 35 :: u 36 :: u 37 :: u 38 :: u 39 :: u 40 :: u 41 :: u 42 :: u 43 :: .bool false :: u 45 :: u 46 :: u 47 :: u 48 :: u 49 :: u 50 :: u 51 :: u 52 :: u 53 :: u 54 :: u 55 :: u 56 :: u 57 :: u 58 :: u 59 :: u 60 :: u 61 :: u 62 :: u 63 :: u 64 :: u 65 :: u 66 :: u 67 :: u 68 :: u 69 :: u 70 :: u 71 :: u 72 :: u 73 :: u 74 :: u 75 :: u 76 :: u 77 :: u 78 :: u 79 :: u 80 :: u 81 :: u 82 :: u 83 :: u 84 :: u 85 :: u 86 :: u 87 :: u 88 :: u 89 :: u 90 :: u 91 :: u 92 :: u 93 :: u 94 :: u 95 :: u 96 :: u 97 :: u 98 :: u 99 :: u 100 :: u 101 :: []), []⟩) a W) ?_ ?_
  rotate_left
  · intro J K' hJ hK
    go_wp2_with fail
    refine (isPlan_any w0 Ar cr p Ap cp rA rc W5 ((hr.below B_W5).up B_W5.size) (by omega) (hp.below B_W5) HSM.out).mono ?_
    rintro e X1 ⟨rfl, hX1⟩
    replace q0 := q0.below hX1 q0.lt
    have B_X1 := ex_trans B_W5 hX1
    clear a0 a1 a2 l0
    have a0 : X1.cell? ⟨w.heap.size, 0, none⟩ = some (.slice Ar w0.rng.length cr) := q0.cell 0
    have a1 : X1.cell? ⟨w.heap.size, 1, none⟩ = some (.int .i64 w0.room) := q0.cell 1
    have a2 : X1.cell? ⟨w.heap.size, 2, none⟩ = some (.int .i64 w0.steps) := q0.cell 2
    have l0 := q0.lt
    cases hB : planB w0 p
    · have hib : isb = false := by rw [← Bool.not_eq_true]; exact fun h => by have := planB_iff.2 (HIS2.out.1 h).1.dips; rw [hB] at this; cases this
      subst hib
      clear HIS2
      clear hB
      go_wp2_with fail
      refine Met.intro (hJ _ _ ⟨⟨hX1, exFrame (by kernel_rfl)⟩⟩)
    have HD := Lib.hid (planB_iff.1 hB)
    clear hB
    go_wp2_with fail
    refine (isRight_ref w0 Ar cr p Ap cp rA rc X1 ((hr.below B_X1).up B_X1.size) (hp.below B_X1) HSM.out HOK.out HD.out).mono ?_
    rintro e X2 ⟨rfl, hX2⟩
    replace q0 := q0.below hX2 q0.lt
    have B_X2 := ex_trans B_X1 hX2
    clear a0 a1 a2 l0
    have a0 : X2.cell? ⟨w.heap.size, 0, none⟩ = some (.slice Ar w0.rng.length cr) := q0.cell 0
    have a1 : X2.cell? ⟨w.heap.size, 1, none⟩ = some (.int .i64 w0.room) := q0.cell 1
    have a2 : X2.cell? ⟨w.heap.size, 2, none⟩ = some (.int .i64 w0.steps) := q0.cell 2
    have l0 := q0.lt
    have X12 := ex_trans hX1 hX2
    by_cases hR : RightP w0 p
    rotate_left
    · rw [truB_false hR]
      have hib : isb = false := by rw [← Bool.not_eq_true]; exact fun h => hR (HIS2.out.1 h).1
      subst hib
      clear HIS2
      clear hR
      go_wp2_with fail
      refine Met.intro (hJ _ _ ⟨⟨X12, exFrame (by kernel_rfl)⟩⟩)
    rw [truB_iff.2 hR]
    by_cases hle : (p.length : Int) ≤ many
    · have hib : isb = true := HIS2.out.2 ⟨hR, hle⟩
      subst hib
      have d1 : decide ((p.length : Int) ≤ many) = true := decide_eq_true hle
      clear HIS2 hR
      go_wp2_with fail
      refine Met.intro (hJ _ _ ⟨⟨X12, exFrame (by kernel_rfl)⟩⟩)
    have hib : isb = false := by rw [← Bool.not_eq_true]; exact fun h => hle (HIS2.out.1 h).2
    subst hib
    clear HIS2
    have d1 : decide ((p.length : Int) ≤ many) = false := decide_eq_false hle
    have d2 : decide (many < (p.length : Int)) = true := decide_eq_true (by omega)
    clear hR
    go_wp2_with fail
    refine Met.intro (hJ _ _ ⟨⟨X12, exFrame (by kernel_rfl)⟩⟩)
  rintro a' W6 ⟨⟨hW6, u, rfl⟩⟩
  clear a0 a1 a2 l0 HIS2
  replace q0 := q0.below hW6 q0.lt
  have B_W6 := ex_trans B_W5 hW6
  have a0 : W6.cell? ⟨w.heap.size, 0, none⟩ = some (.slice Ar w0.rng.length cr) := q0.cell 0
  have a1 : W6.cell? ⟨w.heap.size, 1, none⟩ = some (.int .i64 w0.room) := q0.cell 1
  have a2 : W6.cell? ⟨w.heap.size, 2, none⟩ = some (.int .i64 w0.steps) := q0.cell 2
  have l0 := q0.lt
  have hn := HOK.out.n
  by_cases h5 : w0.rng.length ≤ 5
  rotate_left
  · have d1 : decide ((5 : Int) < (w0.rng.length : Int)) = true := decide_eq_true (by omega)
    have d2 : decide (5 < w0.rng.length) = true := decide_eq_true (by omega)
    go_wp2_with fail
    refine (wakes_any _).mono ?_
    rintro e Wz ⟨rfl, hz⟩
    go_wp2
    go_ret
    exact ⟨rfl, ex_trans B_W6 hz⟩
  have d1 : decide ((5 : Int) < (w0.rng.length : Int)) = false := decide_eq_false (by omega)
  have d2 : decide (5 < w0.rng.length) = false := decide_eq_false (by omega)
  go_wp2_with fail
  refine (Works_law w0 Ar cr W6 ((hr.below B_W6).up B_W6.size) (by omega)).mono ?_
  rintro e W7 ⟨⟨A5, c5, rfl, s5⟩, hW7⟩
  replace q0 := q0.below hW7 q0.lt
  have B_W7 := ex_trans B_W6 hW7
  clear a0 a1 a2 l0
  have a0 : W7.cell? ⟨w.heap.size, 0, none⟩ = some (.slice Ar w0.rng.length cr) := q0.cell 0
  have a1 : W7.cell? ⟨w.heap.size, 1, none⟩ = some (.int .i64 w0.room) := q0.cell 1
  have a2 : W7.cell? ⟨w.heap.size, 2, none⟩ = some (.int .i64 w0.steps) := q0.cell 2
  have l0 := q0.lt
  go_wp2_with fail
  refine (Plan_any w0 A5 c5 W7 s5 (by omega)).mono ?_
  rintro e W8 ⟨⟨Aq, r, cq, rAq, rcq, ev, rfl, HPV, hr6, hpr⟩, hW8⟩
  replace q0 := q0.below hW8 q0.lt
  replace s5 := (s5.below hW8).up hW8.size
  have B_W8 := ex_trans B_W7 hW8
  clear a0 a1 a2 l0
  have a0 : W8.cell? ⟨w.heap.size, 0, none⟩ = some (.slice Ar w0.rng.length cr) := q0.cell 0
  have a1 : W8.cell? ⟨w.heap.size, 1, none⟩ = some (.int .i64 w0.room) := q0.cell 1
  have a2 : W8.cell? ⟨w.heap.size, 2, none⟩ = some (.int .i64 w0.steps) := q0.cell 2
  have l0 := q0.lt
  clear s5
  go_wp2_with fail
  refine (best_ref w0 Ar cr W8 ((hr.below B_W8).up B_W8.size) HOK.out).mono ?_
  rintro e W9 ⟨⟨v, rfl, HV⟩, hW9⟩
  replace q0 := q0.below hW9 q0.lt
  replace hpr := hpr.below hW9
  have B_W9 := ex_trans B_W8 hW9
  clear a0 a1 a2 l0
  have a0 : W9.cell? ⟨w.heap.size, 0, none⟩ = some (.slice Ar w0.rng.length cr) := q0.cell 0
  have a1 : W9.cell? ⟨w.heap.size, 1, none⟩ = some (.int .i64 w0.room) := q0.cell 1
  have a2 : W9.cell? ⟨w.heap.size, 2, none⟩ = some (.int .i64 w0.steps) := q0.cell 2
  have l0 := q0.lt
  rcases (plans_two HOK.out HPV.out HV.out).out with ⟨rfl, hre, rfl⟩ | ⟨rfl, hmin, rfl⟩
  all_goals clear HPV HV
  · subst hre
    clear hpr hr6
    go_wp2_with fail
    refine (wakes_any _).mono ?_
    rintro e Wz ⟨rfl, hz⟩
    go_wp2
    go_ret
    exact ⟨rfl, ex_trans B_W9 hz⟩
  have HMIN := Lib.hid hmin
  clear hmin
  have d3 : decide ((r.length : Int) < 0) = false := decide_eq_false (by omega)
  have HSR : Hid (SmPl r) := Lib.hid (dips_sm HOK.out (fun d hd => by
    obtain ⟨k, hk, rfl⟩ := mem_gDp hd
    exact HMIN.out.right.dips k hk) (by omega))
  have HPB : Hid (planB w0 r = true) := Lib.hid (planB_iff.2 HMIN.out.right.dips)
  have HRR : Hid (truB (RightP w0 r) = true) := Lib.hid (truB_iff.2 HMIN.out.right)
  go_wp2_with fail
  refine wp_region_ext_mix 23 ((false, 0) :: (false, 1) :: (false, 2) :: (false, 3) :: (false, 4) :: (false, 5) :: (false, 6) :: (false, 7) :: (false, 8) :: (false, 9) :: (false, 10) :: (true, 11) :: (true, 12) :: (false, 13) :: (false, 14) :: (false, 15) :: (false, 16) :: (true, 17) :: (true, 18) :: (false, 19) :: (false, 20) :: (true, 21) :: (false, 22) :: []) (by kernel_rfl) (by kernel_rfl) (by intro d _ _ _ _ h; cases d <;> exact h) ?_
  have X_D := (Below.refl W9.heap.size W9).drew
  have hpd := hpr.below X_D
  have BD := ex_trans B_W9 X_D
  repeat (refine mix_quiet rfl ?_; go_big_quiet_step (fail); refine wpQuiet_nil ?_)
  refine mix_loud rfl ?_
  go_wp2_with fail
  refine (planBack_law r Aq cq rAq rcq W9.drew hpd HSR.out (by omega)).mono ?_
  rintro e Z1 ⟨⟨Ab, cb, rAb, rcb, rfl, hpb⟩, hZ1⟩
  replace hpd := hpd.below hZ1
  have X_Z1 := ex_trans X_D hZ1
  have B_Z1 := ex_trans B_W9 X_Z1
  go_wp2_with fail
  refine ⟨inEx X_Z1, ?_⟩
  repeat (refine mix_quiet rfl ?_; go_big_quiet_step (fail); refine wpQuiet_nil ?_)
  refine mix_loud rfl ?_
  go_wp2_with fail
  refine (isPlan_any w0 Ar cr r Ab cb rAb rcb Z1 ((hr.below B_Z1).up B_Z1.size) (by omega) hpb HSR.out).mono ?_
  rintro e Z2 ⟨rfl, hZ2⟩
  replace hpd := hpd.below hZ2
  replace hpb := hpb.below hZ2
  have X_Z2 := ex_trans X_Z1 hZ2
  have B_Z2 := ex_trans B_W9 X_Z2
  rw [HPB.out]
  go_wp2_with fail
  refine ⟨inEx X_Z2, ?_⟩
  repeat (refine mix_quiet rfl ?_; go_big_quiet_step (fail); refine wpQuiet_nil ?_)
  refine mix_loud rfl ?_
  go_wp2_with fail
  refine (planBack_law r Aq cq rAq rcq Z2 hpd HSR.out (by omega)).mono ?_
  rintro e Z3 ⟨⟨Ab2, cb2, rAb2, rcb2, rfl, hpb2⟩, hZ3⟩
  replace hpd := hpd.below hZ3
  replace hpb := hpb.below hZ3
  have X_Z3 := ex_trans X_Z2 hZ3
  have B_Z3 := ex_trans B_W9 X_Z3
  go_wp2_with fail
  refine ⟨inEx X_Z3, ?_⟩
  repeat (refine mix_quiet rfl ?_; go_big_quiet_step (fail); refine wpQuiet_nil ?_)
  refine mix_loud rfl ?_
  go_wp2_with fail
  refine (isRight_ref w0 Ar cr r Ab2 cb2 rAb2 rcb2 Z3 ((hr.below B_Z3).up B_Z3.size) hpb2 HSR.out HOK.out HMIN.out.right.dips).mono ?_
  rintro e Z4 ⟨rfl, hZ4⟩
  replace hpd := hpd.below hZ4
  replace hpb := hpb.below hZ4
  replace hpb2 := hpb2.below hZ4
  have X_Z4 := ex_trans X_Z3 hZ4
  have B_Z4 := ex_trans B_W9 X_Z4
  rw [HRR.out]
  go_wp2_with fail
  refine ⟨inEx X_Z4, ?_⟩
  repeat (refine mix_quiet rfl ?_; go_big_quiet_step (fail); refine wpQuiet_nil ?_)
  refine mix_loud rfl ?_
  go_wp2_with fail
  refine (wakes_any _).mono ?_
  rintro e Z5 ⟨rfl, hZ5⟩
  replace hpd := hpd.below hZ5
  replace hpb := hpb.below hZ5
  replace hpb2 := hpb2.below hZ5
  have X_Z5 := ex_trans X_Z4 hZ5
  have B_Z5 := ex_trans B_W9 X_Z5
  go_wp2_with fail
  refine ⟨inEx X_Z5, ?_⟩
  repeat (refine mix_quiet rfl ?_; go_big_quiet_step (fail); refine wpQuiet_nil ?_)
  refine mix_nil rfl ?_
  go_wp2
  go_ret
  exact ⟨rfl, B_Z5⟩
end Go.Proofs.Ytnplefhigbkbbaa
end
