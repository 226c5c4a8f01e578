/- The law GlassPlays (walk). · The law GlassZeros (walk). · The row GlassZeros: the ranges of the zeros of any history, with any ices, and whether any truth is one of them, are as the document says, or the error is. -/
import Derived.WalkKit
import Derived.ProofKit
import Derived.OpenShut
import Derived.Test.YtlgmeofpkfliaaaGi
import Derived.Test.YtlgmeofpkfliaaaGh
import Derived.Test.YtlgmeofpkfliaaaGf
import Derived.Test.YtlgmeofpkfliaaaGm
import Derived.Test.YtlgmeofpkfliaaaGj
import Derived.Test.YtlgmeofpkfliaaaRows
set_option linter.unusedVariables false
set_option linter.unusedSimpArgs false
set_option linter.unusedSectionVars false
section
namespace Go.Proofs.Ytlgmeofpkfliaaa
open Go.RowKit
attribute [local go_sem] Ex.cell? Ex.frozen? Gx.cell?

theorem ints_self (l : List Int) : intsB l l = true := decide_eq_true rfl

set_option maxRecDepth 100000 in
set_option maxHeartbeats 1600000 in
theorem Plays_far (g : Gl) (Ab Ad Ah : Option Addr) (cb cd ch : Nat) (h : List Rg) (w : World) (A1 A2 A3 : Option Addr) (c1 c2 c3 : Nat) (t1 t2 t3 : List Int) (k1 : SlAt w w.heap.size 1 A1 t1.length (fI t1)) (k2 : SlAt w w.heap.size 1 A2 t2.length (fI t2)) (k3 : SlAt w w.heap.size 1 A3 t3.length (fI t3)) (hn : ¬ (thinB g.bands.length g.depths.length h.length 0 = true ∧ t1.length ≤ 22 ∧ t2.length ≤ 22 ∧ t3.length ≤ 22)) :
    Calls Try.prog 11 #[.agg #[.int .i64 g.base, .slice Ab g.bands.length cb, .slice Ad g.depths.length cd, .int .i64 g.blo, .int .i64 g.bhi], .slice Ah h.length ch, .agg #[.slice A1 t1.length c1, .slice A2 t2.length c2, .slice A3 t3.length c3]] w fun e w' => e = .returned (.bool true) ∧ Below w.heap.size w w' := by
  have hb1 := ex_alloc (ex_alloc (Below.refl w.heap.size w) (.cells #[.int .i64 g.base, .slice Ab g.bands.length cb, .slice Ad g.depths.length cd, .int .i64 g.blo, .int .i64 g.bhi] 27)) (.cells #[.slice A1 t1.length c1, .slice A2 t2.length c2, .slice A3 t3.length c3] 56)
  have q2 : Blk ((w.alloc (.cells #[.int .i64 g.base, .slice Ab g.bands.length cb, .slice Ad g.depths.length cd, .int .i64 g.blo, .int .i64 g.bhi] 27)).alloc (.cells #[.slice A1 t1.length c1, .slice A2 t2.length c2, .slice A3 t3.length c3] 56)) (w.heap.size + 1) 56 #[.slice A1 t1.length c1, .slice A2 t2.length c2, .slice A3 t3.length c3] := Blk.new' _ _ _ (by simp)
  have HN := Lib.hid hn
  clear hn
  cases hth : thinB g.bands.length g.depths.length h.length 0
  · have HTH := Lib.hid hth
    clear hth
    go_enter Try.func11, Try.ntmps11
    go_wp2_with fail
    refine (Thin_any _ _ _ _ _ _ _ _ _ _ 0 _ _ _ _ _).mono ?_
    rintro e w2 ⟨rfl, hb2⟩
    rw [HTH.out]
    go_wp2_with fail
    refine (awake_any _).mono ?_
    rintro e w3 ⟨rfl, hb3⟩
    go_wp2
    go_ret
    exact ⟨rfl, ex_trans (ex_trans hb1 hb2) hb3⟩
  have HTH := Lib.hid hth
  clear hth
  by_cases h1 : 22 < t1.length
  · have e1 : decide (22 < t1.length) = true := decide_eq_true h1
    have e1' : decide ((22 : Int) < (t1.length : Int)) = true := decide_eq_true (by omega)
    go_enter Try.func11, Try.ntmps11
    go_wp2_with fail
    refine (Thin_any _ _ _ _ _ _ _ _ _ _ 0 _ _ _ _ _).mono ?_
    rintro e w2 ⟨rfl, hb2⟩
    rw [HTH.out]
    have p2 := q2.below hb2 q2.lt
    have d0 : w2.cell? ⟨w.heap.size + 1, 0, none⟩ = some (.slice A1 t1.length c1) := p2.cell 0
    have l2 := p2.lt
    go_wp2_with fail
    refine (awake_any _).mono ?_
    rintro e w3 ⟨rfl, hb3⟩
    go_wp2
    go_ret
    exact ⟨rfl, ex_trans (ex_trans hb1 hb2) hb3⟩
  have e1 : decide (22 < t1.length) = false := decide_eq_false h1
  have e1' : decide ((22 : Int) < (t1.length : Int)) = false := decide_eq_false (by omega)
  by_cases h2 : 22 < t2.length
  · have e2 : decide (22 < t2.length) = true := decide_eq_true h2
    have e2' : decide ((22 : Int) < (t2.length : Int)) = true := decide_eq_true (by omega)
    go_enter Try.func11, Try.ntmps11
    go_wp2_with fail
    refine (Thin_any _ _ _ _ _ _ _ _ _ _ 0 _ _ _ _ _).mono ?_
    rintro e w2 ⟨rfl, hb2⟩
    rw [HTH.out]
    have p2 := q2.below hb2 q2.lt
    have d0 : w2.cell? ⟨w.heap.size + 1, 0, none⟩ = some (.slice A1 t1.length c1) := p2.cell 0
    have d1 : w2.cell? ⟨w.heap.size + 1, 1, none⟩ = some (.slice A2 t2.length c2) := p2.cell 1
    have l2 := p2.lt
    go_wp2_with fail
    refine (awake_any _).mono ?_
    rintro e w3 ⟨rfl, hb3⟩
    go_wp2
    go_ret
    exact ⟨rfl, ex_trans (ex_trans hb1 hb2) hb3⟩
  have e2 : decide (22 < t2.length) = false := decide_eq_false h2
  have e2' : decide ((22 : Int) < (t2.length : Int)) = false := decide_eq_false (by omega)
  have h3 : 22 < t3.length := by
    refine Classical.byContradiction fun h3 => HN.out ⟨HTH.out, by omega, by omega, by omega⟩
  have e3 : decide (22 < t3.length) = true := decide_eq_true h3
  have e3' : decide ((22 : Int) < (t3.length : Int)) = true := decide_eq_true (by omega)
  go_enter Try.func11, Try.ntmps11
  go_wp2_with fail
  refine (Thin_any _ _ _ _ _ _ _ _ _ _ 0 _ _ _ _ _).mono ?_
  rintro e w2 ⟨rfl, hb2⟩
  rw [HTH.out]
  have p2 := q2.below hb2 q2.lt
  have d0 : w2.cell? ⟨w.heap.size + 1, 0, none⟩ = some (.slice A1 t1.length c1) := p2.cell 0
  have d1 : w2.cell? ⟨w.heap.size + 1, 1, none⟩ = some (.slice A2 t2.length c2) := p2.cell 1
  have d2 : w2.cell? ⟨w.heap.size + 1, 2, none⟩ = some (.slice A3 t3.length c3) := p2.cell 2
  have l2 := p2.lt
  go_wp2_with fail
  refine (awake_any _).mono ?_
  rintro e w3 ⟨rfl, hb3⟩
  go_wp2
  go_ret
  exact ⟨rfl, ex_trans (ex_trans hb1 hb2) hb3⟩

end Go.Proofs.Ytlgmeofpkfliaaa
end

section
namespace Go.Proofs.Ytlgmeofpkfliaaa
open Go.RowKit
attribute [local go_sem] Ex.cell? Ex.frozen? Gx.cell?

theorem zAt_bd5 {g : Gl} {h : List Rg} {t1 t2 t3 : List Int} (hok : Ok g h) (ht : truthB g h t1 t2 t3 = true) {d : Nat} (hd : d < h.length) : -100000 ≤ zAt g t1 t2 t3 d ∧ zAt g t1 t2 t3 d ≤ 100000 := by
  have h1 := riseTo_bd hok (truthB_iff.1 ht).2 (d := d + 1) (by omega)
  have h2 := sinkTo_bd hok (truthB_iff.1 ht).2 (d := d + 1) (by omega)
  have h3 := hok.base
  have h4 := hok.nh
  unfold zAt
  omega

set_option maxRecDepth 100000 in
set_option maxHeartbeats 6400000 in
theorem ZerosLaw_far (g : Gl) (Ab Ad Ah Ai : Option Addr) (cb cd ch ci : Nat) (h : List Rg) (l : List Ic) (w : World) (hg : GlIn w w.heap.size g Ab Ad) (hh : SlAt w w.heap.size 2 Ah h.length (fR h)) (hi : SlAt w w.heap.size 3 Ai l.length (fC l)) (A1 A2 A3 : Option Addr) (c1 c2 c3 : Nat) (t1 t2 t3 : List Int) (k1 : SlAt w w.heap.size 1 A1 t1.length (fI t1)) (k2 : SlAt w w.heap.size 1 A2 t2.length (fI t2)) (k3 : SlAt w w.heap.size 1 A3 t3.length (fI t3)) (hth : thinB g.bands.length g.depths.length h.length l.length = false) :
    Calls Try.prog 14 #[.agg #[.int .i64 g.base, .slice Ab g.bands.length cb, .slice Ad g.depths.length cd, .int .i64 g.blo, .int .i64 g.bhi], .slice Ah h.length ch, .slice Ai l.length ci, .agg #[.slice A1 t1.length c1, .slice A2 t2.length c2, .slice A3 t3.length c3]] w fun e w' => e = .returned (.bool true) ∧ Below w.heap.size w w' := by
  have hb1 := ex_alloc (ex_alloc (Below.refl w.heap.size w) (.cells #[.int .i64 g.base, .slice Ab g.bands.length cb, .slice Ad g.depths.length cd, .int .i64 g.blo, .int .i64 g.bhi] 27)) (.cells #[.slice A1 t1.length c1, .slice A2 t2.length c2, .slice A3 t3.length c3] 56)
  have q1 : Blk ((w.alloc (.cells #[.int .i64 g.base, .slice Ab g.bands.length cb, .slice Ad g.depths.length cd, .int .i64 g.blo, .int .i64 g.bhi] 27)).alloc (.cells #[.slice A1 t1.length c1, .slice A2 t2.length c2, .slice A3 t3.length c3] 56)) w.heap.size 27 #[.int .i64 g.base, .slice Ab g.bands.length cb, .slice Ad g.depths.length cd, .int .i64 g.blo, .int .i64 g.bhi] := (Blk.new _ _ _).alloc _
  have q2 : Blk ((w.alloc (.cells #[.int .i64 g.base, .slice Ab g.bands.length cb, .slice Ad g.depths.length cd, .int .i64 g.blo, .int .i64 g.bhi] 27)).alloc (.cells #[.slice A1 t1.length c1, .slice A2 t2.length c2, .slice A3 t3.length c3] 56)) (w.heap.size + 1) 56 #[.slice A1 t1.length c1, .slice A2 t2.length c2, .slice A3 t3.length c3] := Blk.new' _ _ _ (by simp)
  have HTH := Lib.hid hth
  clear hth
  go_enter Try.func14, Try.ntmps14
  go_wp2_with fail
  refine (Thin_any _ _ _ _ _ _ _ _ _ _ _ _ _ _ _ _).mono ?_
  rintro e w2 ⟨rfl, hb2⟩
  have hB2 := ex_trans hb1 hb2
  rw [HTH.out]
  have p1 := q1.below hb2 q1.lt
  have p2 := q2.below hb2 q2.lt
  clear q1 q2
  go_wp2_with fail
  refine (awake_any _).mono ?_
  rintro e x1 ⟨rfl, hx1⟩
  go_wp2
  go_ret
  exact ⟨rfl, ex_trans hB2 hx1⟩

set_option maxRecDepth 100000 in
set_option maxHeartbeats 6400000 in
theorem ZerosLaw_far1 (g : Gl) (Ab Ad Ah Ai : Option Addr) (cb cd ch ci : Nat) (h : List Rg) (l : List Ic) (w : World) (hg : GlIn w w.heap.size g Ab Ad) (hh : SlAt w w.heap.size 2 Ah h.length (fR h)) (hi : SlAt w w.heap.size 3 Ai l.length (fC l)) (A1 A2 A3 : Option Addr) (c1 c2 c3 : Nat) (t1 t2 t3 : List Int) (k1 : SlAt w w.heap.size 1 A1 t1.length (fI t1)) (k2 : SlAt w w.heap.size 1 A2 t2.length (fI t2)) (k3 : SlAt w w.heap.size 1 A3 t3.length (fI t3)) (hth : thinB g.bands.length g.depths.length h.length l.length = true) (ht1 : ¬ t1.length ≤ 22) :
    Calls Try.prog 14 #[.agg #[.int .i64 g.base, .slice Ab g.bands.length cb, .slice Ad g.depths.length cd, .int .i64 g.blo, .int .i64 g.bhi], .slice Ah h.length ch, .slice Ai l.length ci, .agg #[.slice A1 t1.length c1, .slice A2 t2.length c2, .slice A3 t3.length c3]] w fun e w' => e = .returned (.bool true) ∧ Below w.heap.size w w' := by
  have hb1 := ex_alloc (ex_alloc (Below.refl w.heap.size w) (.cells #[.int .i64 g.base, .slice Ab g.bands.length cb, .slice Ad g.depths.length cd, .int .i64 g.blo, .int .i64 g.bhi] 27)) (.cells #[.slice A1 t1.length c1, .slice A2 t2.length c2, .slice A3 t3.length c3] 56)
  have q1 : Blk ((w.alloc (.cells #[.int .i64 g.base, .slice Ab g.bands.length cb, .slice Ad g.depths.length cd, .int .i64 g.blo, .int .i64 g.bhi] 27)).alloc (.cells #[.slice A1 t1.length c1, .slice A2 t2.length c2, .slice A3 t3.length c3] 56)) w.heap.size 27 #[.int .i64 g.base, .slice Ab g.bands.length cb, .slice Ad g.depths.length cd, .int .i64 g.blo, .int .i64 g.bhi] := (Blk.new _ _ _).alloc _
  have q2 : Blk ((w.alloc (.cells #[.int .i64 g.base, .slice Ab g.bands.length cb, .slice Ad g.depths.length cd, .int .i64 g.blo, .int .i64 g.bhi] 27)).alloc (.cells #[.slice A1 t1.length c1, .slice A2 t2.length c2, .slice A3 t3.length c3] 56)) (w.heap.size + 1) 56 #[.slice A1 t1.length c1, .slice A2 t2.length c2, .slice A3 t3.length c3] := Blk.new' _ _ _ (by simp)
  have e1 : decide (22 < t1.length) = true := decide_eq_true (by omega)
  have e1' : decide ((22 : Int) < (t1.length : Int)) = true := decide_eq_true (by omega)
  have HTH := Lib.hid hth
  clear hth
  go_enter Try.func14, Try.ntmps14
  go_wp2_with fail
  refine (Thin_any _ _ _ _ _ _ _ _ _ _ _ _ _ _ _ _).mono ?_
  rintro e w2 ⟨rfl, hb2⟩
  have hB2 := ex_trans hb1 hb2
  rw [HTH.out]
  have p1 := q1.below hb2 q1.lt
  have p2 := q2.below hb2 q2.lt
  clear q1 q2
  have d0 : w2.cell? ⟨w.heap.size + 1, 0, none⟩ = some (.slice A1 t1.length c1) := p2.cell 0
  have d1 : w2.cell? ⟨w.heap.size + 1, 1, none⟩ = some (.slice A2 t2.length c2) := p2.cell 1
  have d2 : w2.cell? ⟨w.heap.size + 1, 2, none⟩ = some (.slice A3 t3.length c3) := p2.cell 2
  have l2 := p2.lt
  go_wp2_with fail
  refine (awake_any _).mono ?_
  rintro e x1 ⟨rfl, hx1⟩
  go_wp2
  go_ret
  exact ⟨rfl, ex_trans hB2 hx1⟩

set_option maxRecDepth 100000 in
set_option maxHeartbeats 6400000 in
theorem ZerosLaw_far2 (g : Gl) (Ab Ad Ah Ai : Option Addr) (cb cd ch ci : Nat) (h : List Rg) (l : List Ic) (w : World) (hg : GlIn w w.heap.size g Ab Ad) (hh : SlAt w w.heap.size 2 Ah h.length (fR h)) (hi : SlAt w w.heap.size 3 Ai l.length (fC l)) (A1 A2 A3 : Option Addr) (c1 c2 c3 : Nat) (t1 t2 t3 : List Int) (k1 : SlAt w w.heap.size 1 A1 t1.length (fI t1)) (k2 : SlAt w w.heap.size 1 A2 t2.length (fI t2)) (k3 : SlAt w w.heap.size 1 A3 t3.length (fI t3)) (hth : thinB g.bands.length g.depths.length h.length l.length = true) (ht1 : t1.length ≤ 22) (ht2 : ¬ t2.length ≤ 22) :
    Calls Try.prog 14 #[.agg #[.int .i64 g.base, .slice Ab g.bands.length cb, .slice Ad g.depths.length cd, .int .i64 g.blo, .int .i64 g.bhi], .slice Ah h.length ch, .slice Ai l.length ci, .agg #[.slice A1 t1.length c1, .slice A2 t2.length c2, .slice A3 t3.length c3]] w fun e w' => e = .returned (.bool true) ∧ Below w.heap.size w w' := by
  have hb1 := ex_alloc (ex_alloc (Below.refl w.heap.size w) (.cells #[.int .i64 g.base, .slice Ab g.bands.length cb, .slice Ad g.depths.length cd, .int .i64 g.blo, .int .i64 g.bhi] 27)) (.cells #[.slice A1 t1.length c1, .slice A2 t2.length c2, .slice A3 t3.length c3] 56)
  have q1 : Blk ((w.alloc (.cells #[.int .i64 g.base, .slice Ab g.bands.length cb, .slice Ad g.depths.length cd, .int .i64 g.blo, .int .i64 g.bhi] 27)).alloc (.cells #[.slice A1 t1.length c1, .slice A2 t2.length c2, .slice A3 t3.length c3] 56)) w.heap.size 27 #[.int .i64 g.base, .slice Ab g.bands.length cb, .slice Ad g.depths.length cd, .int .i64 g.blo, .int .i64 g.bhi] := (Blk.new _ _ _).alloc _
  have q2 : Blk ((w.alloc (.cells #[.int .i64 g.base, .slice Ab g.bands.length cb, .slice Ad g.depths.length cd, .int .i64 g.blo, .int .i64 g.bhi] 27)).alloc (.cells #[.slice A1 t1.length c1, .slice A2 t2.length c2, .slice A3 t3.length c3] 56)) (w.heap.size + 1) 56 #[.slice A1 t1.length c1, .slice A2 t2.length c2, .slice A3 t3.length c3] := Blk.new' _ _ _ (by simp)
  have e1 : decide (22 < t1.length) = false := decide_eq_false (by omega)
  have e1' : decide ((22 : Int) < (t1.length : Int)) = false := decide_eq_false (by omega)
  have e2 : decide (22 < t2.length) = true := decide_eq_true (by omega)
  have e2' : decide ((22 : Int) < (t2.length : Int)) = true := decide_eq_true (by omega)
  have HTH := Lib.hid hth
  clear hth
  go_enter Try.func14, Try.ntmps14
  go_wp2_with fail
  refine (Thin_any _ _ _ _ _ _ _ _ _ _ _ _ _ _ _ _).mono ?_
  rintro e w2 ⟨rfl, hb2⟩
  have hB2 := ex_trans hb1 hb2
  rw [HTH.out]
  have p1 := q1.below hb2 q1.lt
  have p2 := q2.below hb2 q2.lt
  clear q1 q2
  have d0 : w2.cell? ⟨w.heap.size + 1, 0, none⟩ = some (.slice A1 t1.length c1) := p2.cell 0
  have d1 : w2.cell? ⟨w.heap.size + 1, 1, none⟩ = some (.slice A2 t2.length c2) := p2.cell 1
  have d2 : w2.cell? ⟨w.heap.size + 1, 2, none⟩ = some (.slice A3 t3.length c3) := p2.cell 2
  have l2 := p2.lt
  go_wp2_with fail
  refine (awake_any _).mono ?_
  rintro e x1 ⟨rfl, hx1⟩
  go_wp2
  go_ret
  exact ⟨rfl, ex_trans hB2 hx1⟩

set_option maxRecDepth 100000 in
set_option maxHeartbeats 6400000 in
theorem ZerosLaw_far3 (g : Gl) (Ab Ad Ah Ai : Option Addr) (cb cd ch ci : Nat) (h : List Rg) (l : List Ic) (w : World) (hg : GlIn w w.heap.size g Ab Ad) (hh : SlAt w w.heap.size 2 Ah h.length (fR h)) (hi : SlAt w w.heap.size 3 Ai l.length (fC l)) (A1 A2 A3 : Option Addr) (c1 c2 c3 : Nat) (t1 t2 t3 : List Int) (k1 : SlAt w w.heap.size 1 A1 t1.length (fI t1)) (k2 : SlAt w w.heap.size 1 A2 t2.length (fI t2)) (k3 : SlAt w w.heap.size 1 A3 t3.length (fI t3)) (hth : thinB g.bands.length g.depths.length h.length l.length = true) (ht1 : t1.length ≤ 22) (ht2 : t2.length ≤ 22) (ht3 : ¬ t3.length ≤ 22) :
    Calls Try.prog 14 #[.agg #[.int .i64 g.base, .slice Ab g.bands.length cb, .slice Ad g.depths.length cd, .int .i64 g.blo, .int .i64 g.bhi], .slice Ah h.length ch, .slice Ai l.length ci, .agg #[.slice A1 t1.length c1, .slice A2 t2.length c2, .slice A3 t3.length c3]] w fun e w' => e = .returned (.bool true) ∧ Below w.heap.size w w' := by
  have hb1 := ex_alloc (ex_alloc (Below.refl w.heap.size w) (.cells #[.int .i64 g.base, .slice Ab g.bands.length cb, .slice Ad g.depths.length cd, .int .i64 g.blo, .int .i64 g.bhi] 27)) (.cells #[.slice A1 t1.length c1, .slice A2 t2.length c2, .slice A3 t3.length c3] 56)
  have q1 : Blk ((w.alloc (.cells #[.int .i64 g.base, .slice Ab g.bands.length cb, .slice Ad g.depths.length cd, .int .i64 g.blo, .int .i64 g.bhi] 27)).alloc (.cells #[.slice A1 t1.length c1, .slice A2 t2.length c2, .slice A3 t3.length c3] 56)) w.heap.size 27 #[.int .i64 g.base, .slice Ab g.bands.length cb, .slice Ad g.depths.length cd, .int .i64 g.blo, .int .i64 g.bhi] := (Blk.new _ _ _).alloc _
  have q2 : Blk ((w.alloc (.cells #[.int .i64 g.base, .slice Ab g.bands.length cb, .slice Ad g.depths.length cd, .int .i64 g.blo, .int .i64 g.bhi] 27)).alloc (.cells #[.slice A1 t1.length c1, .slice A2 t2.length c2, .slice A3 t3.length c3] 56)) (w.heap.size + 1) 56 #[.slice A1 t1.length c1, .slice A2 t2.length c2, .slice A3 t3.length c3] := Blk.new' _ _ _ (by simp)
  have e1 : decide (22 < t1.length) = false := decide_eq_false (by omega)
  have e1' : decide ((22 : Int) < (t1.length : Int)) = false := decide_eq_false (by omega)
  have e2 : decide (22 < t2.length) = false := decide_eq_false (by omega)
  have e2' : decide ((22 : Int) < (t2.length : Int)) = false := decide_eq_false (by omega)
  have e3 : decide (22 < t3.length) = true := decide_eq_true (by omega)
  have e3' : decide ((22 : Int) < (t3.length : Int)) = true := decide_eq_true (by omega)
  have HTH := Lib.hid hth
  clear hth
  go_enter Try.func14, Try.ntmps14
  go_wp2_with fail
  refine (Thin_any _ _ _ _ _ _ _ _ _ _ _ _ _ _ _ _).mono ?_
  rintro e w2 ⟨rfl, hb2⟩
  have hB2 := ex_trans hb1 hb2
  rw [HTH.out]
  have p1 := q1.below hb2 q1.lt
  have p2 := q2.below hb2 q2.lt
  clear q1 q2
  have d0 : w2.cell? ⟨w.heap.size + 1, 0, none⟩ = some (.slice A1 t1.length c1) := p2.cell 0
  have d1 : w2.cell? ⟨w.heap.size + 1, 1, none⟩ = some (.slice A2 t2.length c2) := p2.cell 1
  have d2 : w2.cell? ⟨w.heap.size + 1, 2, none⟩ = some (.slice A3 t3.length c3) := p2.cell 2
  have l2 := p2.lt
  go_wp2_with fail
  refine (awake_any _).mono ?_
  rintro e x1 ⟨rfl, hx1⟩
  go_wp2
  go_ret
  exact ⟨rfl, ex_trans hB2 hx1⟩

set_option maxRecDepth 100000 in
set_option maxHeartbeats 6400000 in
theorem ZerosLaw_bad (g : Gl) (Ab Ad Ah Ai : Option Addr) (cb cd ch ci : Nat) (h : List Rg) (l : List Ic) (w : World) (hg : GlIn w w.heap.size g Ab Ad) (hh : SlAt w w.heap.size 2 Ah h.length (fR h)) (hi : SlAt w w.heap.size 3 Ai l.length (fC l)) (A1 A2 A3 : Option Addr) (c1 c2 c3 : Nat) (t1 t2 t3 : List Int) (k1 : SlAt w w.heap.size 1 A1 t1.length (fI t1)) (k2 : SlAt w w.heap.size 1 A2 t2.length (fI t2)) (k3 : SlAt w w.heap.size 1 A3 t3.length (fI t3)) (hth : thinB g.bands.length g.depths.length h.length l.length = true) (ht1 : t1.length ≤ 22) (ht2 : t2.length ≤ 22) (ht3 : t3.length ≤ 22) (hne : iced g h l ≠ 0) :
    Calls Try.prog 14 #[.agg #[.int .i64 g.base, .slice Ab g.bands.length cb, .slice Ad g.depths.length cd, .int .i64 g.blo, .int .i64 g.bhi], .slice Ah h.length ch, .slice Ai l.length ci, .agg #[.slice A1 t1.length c1, .slice A2 t2.length c2, .slice A3 t3.length c3]] w fun e w' => e = .returned (.bool true) ∧ Below w.heap.size w w' := by
  have hb1 := ex_alloc (ex_alloc (Below.refl w.heap.size w) (.cells #[.int .i64 g.base, .slice Ab g.bands.length cb, .slice Ad g.depths.length cd, .int .i64 g.blo, .int .i64 g.bhi] 27)) (.cells #[.slice A1 t1.length c1, .slice A2 t2.length c2, .slice A3 t3.length c3] 56)
  have q1 : Blk ((w.alloc (.cells #[.int .i64 g.base, .slice Ab g.bands.length cb, .slice Ad g.depths.length cd, .int .i64 g.blo, .int .i64 g.bhi] 27)).alloc (.cells #[.slice A1 t1.length c1, .slice A2 t2.length c2, .slice A3 t3.length c3] 56)) w.heap.size 27 #[.int .i64 g.base, .slice Ab g.bands.length cb, .slice Ad g.depths.length cd, .int .i64 g.blo, .int .i64 g.bhi] := (Blk.new _ _ _).alloc _
  have q2 : Blk ((w.alloc (.cells #[.int .i64 g.base, .slice Ab g.bands.length cb, .slice Ad g.depths.length cd, .int .i64 g.blo, .int .i64 g.bhi] 27)).alloc (.cells #[.slice A1 t1.length c1, .slice A2 t2.length c2, .slice A3 t3.length c3] 56)) (w.heap.size + 1) 56 #[.slice A1 t1.length c1, .slice A2 t2.length c2, .slice A3 t3.length c3] := Blk.new' _ _ _ (by simp)
  obtain ⟨hnb, hnd, hnh, hni⟩ := thinB_iff.1 hth
  have e1 : decide (22 < t1.length) = false := decide_eq_false (by omega)
  have e1' : decide ((22 : Int) < (t1.length : Int)) = false := decide_eq_false (by omega)
  have e2 : decide (22 < t2.length) = false := decide_eq_false (by omega)
  have e2' : decide ((22 : Int) < (t2.length : Int)) = false := decide_eq_false (by omega)
  have e3 : decide (22 < t3.length) = false := decide_eq_false (by omega)
  have e3' : decide ((22 : Int) < (t3.length : Int)) = false := decide_eq_false (by omega)
  have HTH := Lib.hid hth
  clear hth
  go_enter Try.func14, Try.ntmps14
  go_wp2_with fail
  refine (Thin_any _ _ _ _ _ _ _ _ _ _ _ _ _ _ _ _).mono ?_
  rintro e w2 ⟨rfl, hb2⟩
  have hB2 := ex_trans hb1 hb2
  rw [HTH.out]
  have p1 := q1.below hb2 q1.lt
  have p2 := q2.below hb2 q2.lt
  clear q1 q2
  have d0 : w2.cell? ⟨w.heap.size + 1, 0, none⟩ = some (.slice A1 t1.length c1) := p2.cell 0
  have d1 : w2.cell? ⟨w.heap.size + 1, 1, none⟩ = some (.slice A2 t2.length c2) := p2.cell 1
  have d2 : w2.cell? ⟨w.heap.size + 1, 2, none⟩ = some (.slice A3 t3.length c3) := p2.cell 2
  have l2 := p2.lt
  have HNE := Lib.hid hne
  have HP := Lib.hid (show proveB g h l t1 t2 t3 = false by unfold proveB; rw [decide_eq_false hne]; rfl)
  have n1 : (iced g h l == 0) = false := by simp [hne]
  have n2 : (iced g h l != 0) = true := by simp [hne]
  have n3 : (iced g h l == iced g h l) = true := by simp
  clear hne
  have a0 : w2.cell? ⟨w.heap.size, 0, none⟩ = some (.int .i64 g.base) := p1.cell 0
  have a1 : w2.cell? ⟨w.heap.size, 1, none⟩ = some (.slice Ab g.bands.length cb) := p1.cell 1
  have a2 : w2.cell? ⟨w.heap.size, 2, none⟩ = some (.slice Ad g.depths.length cd) := p1.cell 2
  have a3 : w2.cell? ⟨w.heap.size, 3, none⟩ = some (.int .i64 g.blo) := p1.cell 3
  have a4 : w2.cell? ⟨w.heap.size, 4, none⟩ = some (.int .i64 g.bhi) := p1.cell 4
  have l1 := p1.lt
  go_wp2_with fail
  refine (Glass_any g _ _ _ _ w2 ((hg.below hB2).up hB2.size) (by omega) (by omega)).mono ?_
  rintro e ya1 ⟨⟨Ab_ya1, Ad_ya1, cb_ya1, cd_ya1, rfl, hg_ya1⟩, hya1⟩
  have B_ya1 := ex_trans hB2 hya1
  go_wp2_with fail
  refine (History_any _ _ h ya1 (by omega) ((hh.below B_ya1).up B_ya1.size)).mono ?_
  rintro e ya2 ⟨⟨Ah_ya2, ch_ya2, rfl, _, _, hh_ya2⟩, hya2⟩
  have B_ya2 := ex_trans B_ya1 hya2
  have I_ya2 := ex_trans hB2 (ex_trans hya1 hya2)
  go_wp2_with fail
  refine (Ices_any _ _ l ya2 (by omega) ((hi.below I_ya2).up I_ya2.size)).mono ?_
  rintro e ya3 ⟨⟨Ai_ya3, ci_ya3, rfl, hc1_ya3, hc2_ya3, hi_ya3⟩, hya3⟩
  have B_ya3 := ex_trans B_ya2 hya3
  have I_ya3 := ex_trans I_ya2 hya3
  go_wp2_with fail
  refine (Zeros_bad g _ _ _ _ _ _ _ _ h l _ ((hg_ya1.below (ex_trans hya2 hya3)).up (ex_trans hya2 hya3).size) ((hh_ya2.below hya3).up hya3.size) hi_ya3 HNE.out).mono ?_
  rintro e ya4 ⟨rfl, hya4⟩
  have B_ya := ex_trans B_ya3 hya4
  have I_ya := ex_trans I_ya3 hya4
  have X_ya := ex_trans (ex_trans (ex_trans hya1 hya2) hya3) hya4
  clear hg_ya1 hh_ya2 hi_ya3
  replace p1 := p1.below X_ya l1
  clear a0 a1 a2 a3 a4 l1
  replace p2 := p2.below X_ya p2.lt
  clear d0 d1 d2 l2
  have a0 : ya4.cell? ⟨w.heap.size, 0, none⟩ = some (.int .i64 g.base) := p1.cell 0
  have a1 : ya4.cell? ⟨w.heap.size, 1, none⟩ = some (.slice Ab g.bands.length cb) := p1.cell 1
  have a2 : ya4.cell? ⟨w.heap.size, 2, none⟩ = some (.slice Ad g.depths.length cd) := p1.cell 2
  have a3 : ya4.cell? ⟨w.heap.size, 3, none⟩ = some (.int .i64 g.blo) := p1.cell 3
  have a4 : ya4.cell? ⟨w.heap.size, 4, none⟩ = some (.int .i64 g.bhi) := p1.cell 4
  have l1 := p1.lt
  have d0 : ya4.cell? ⟨w.heap.size + 1, 0, none⟩ = some (.slice A1 t1.length c1) := p2.cell 0
  have d1 : ya4.cell? ⟨w.heap.size + 1, 1, none⟩ = some (.slice A2 t2.length c2) := p2.cell 1
  have d2 : ya4.cell? ⟨w.heap.size + 1, 2, none⟩ = some (.slice A3 t3.length c3) := p2.cell 2
  have l2 := p2.lt
  go_wp2_with fail
  refine wp_region_ext_mix 9 [(false, 0), (false, 2), (false, 4), (false, 6), (true, 1), (true, 3), (true, 5), (true, 7), (true, 8)] (by kernel_rfl) (by kernel_rfl) (by intro d _ _ _ _ h; cases d <;> exact h) ?_
  have hW_yb := (Below.refl ya4.heap.size ya4).drew
  repeat (refine mix_quiet rfl ?_; go_big_quiet_step (fail); refine wpQuiet_nil ?_)
  refine mix_loud rfl ?_
  go_wp2_with fail
  refine (Glass_any g _ _ _ _ ya4.drew ((hg.below (ex_trans B_ya hW_yb)).up (ex_trans B_ya hW_yb).size) (by omega) (by omega)).mono ?_
  rintro e yb1 ⟨⟨Ab_yb, Ad_yb, cb_yb, cd_yb, rfl, hg_yb⟩, hyb1⟩
  have E_yb1 := ex_trans hW_yb hyb1
  go_wp2_with fail
  refine ⟨inEx E_yb1, ?_⟩
  refine mix_loud rfl ?_
  go_wp2_with fail
  refine (History_any _ _ h yb1 (by omega) ((hh.below (ex_trans B_ya E_yb1)).up (ex_trans B_ya E_yb1).size)).mono ?_
  rintro e yb2 ⟨⟨Ah_yb, ch_yb, rfl, _, _, hh_yb⟩, hyb2⟩
  have E_yb2 := ex_trans E_yb1 hyb2
  go_wp2_with fail
  refine ⟨inEx E_yb2, ?_⟩
  refine mix_loud rfl ?_
  go_wp2_with fail
  refine (Ices_any _ _ l yb2 (by omega) ((hi.below (ex_trans I_ya E_yb2)).up (ex_trans I_ya E_yb2).size)).mono ?_
  rintro e yb3 ⟨⟨Ai_yb, ci_yb, rfl, _, _, hi_yb⟩, hyb3⟩
  have E_yb3 := ex_trans E_yb2 hyb3
  go_wp2_with fail
  refine ⟨inEx E_yb3, ?_⟩
  refine mix_loud rfl ?_
  go_wp2_with fail
  have hT := ex_trans B_ya E_yb3
  refine (Truth_any yb3 _ _ _ _ _ _ t1 t2 t3 ((k1.below hT).up hT.size) ((k2.below hT).up hT.size) ((k3.below hT).up hT.size) (by omega) (by omega) (by omega)).mono ?_
  rintro e yb4 ⟨⟨C1, C2, C3, m1, m2, m3, rfl, s1, s2, s3⟩, hyb4⟩
  have E_yb4 := ex_trans E_yb3 hyb4
  go_wp2_with fail
  refine ⟨inEx E_yb4, ?_⟩
  refine mix_loud rfl ?_
  go_wp2_with fail
  have hx2 := ex_trans (ex_trans hyb2 hyb3) hyb4
  have hx3 := ex_trans hyb3 hyb4
  refine (Prove_any g _ _ _ _ _ _ _ _ h l _ ((hg_yb.below hx2).up hx2.size) ((hh_yb.below hx3).up hx3.size) ((hi_yb.below hyb4).up hyb4.size) _ _ _ _ _ _ t1 t2 t3 s1 s2 s3).mono ?_
  rintro e yb5 ⟨rfl, hyb5⟩
  have E_yb := ex_trans E_yb4 hyb5
  rw [HP.out]
  go_wp2_with fail
  refine ⟨inEx E_yb, ?_⟩
  refine mix_nil rfl ?_
  have B_yb := ex_trans B_ya E_yb
  replace p1 := p1.below E_yb l1
  replace p2 := p2.below E_yb l2
  clear hg_yb hh_yb hi_yb s1 s2 s3 a0 a1 a2 a3 a4 d0 d1 d2 l1 l2 hx2 hx3 hT
  have a0 : yb5.cell? ⟨w.heap.size, 0, none⟩ = some (.int .i64 g.base) := p1.cell 0
  have a1 : yb5.cell? ⟨w.heap.size, 1, none⟩ = some (.slice Ab g.bands.length cb) := p1.cell 1
  have a2 : yb5.cell? ⟨w.heap.size, 2, none⟩ = some (.slice Ad g.depths.length cd) := p1.cell 2
  have a3 : yb5.cell? ⟨w.heap.size, 3, none⟩ = some (.int .i64 g.blo) := p1.cell 3
  have a4 : yb5.cell? ⟨w.heap.size, 4, none⟩ = some (.int .i64 g.bhi) := p1.cell 4
  have l1 := p1.lt
  go_wp2_with fail
  refine (icedL_any g _ _ _ _ _ _ _ _ h l _ ((hg.below B_yb).up B_yb.size) ((hh.below B_yb).up B_yb.size) ((hi.below B_yb).up B_yb.size) (by omega)).mono ?_
  rintro e w6 ⟨rfl, hw6⟩
  have B_w6 := ex_trans B_yb hw6
  generalize iced g h l = lv at *
  go_wp2_with fail
  refine (awake_any _).mono ?_
  rintro e x1 ⟨rfl, hx1⟩
  go_wp2
  go_ret
  exact ⟨rfl, ex_trans B_w6 hx1⟩

set_option maxRecDepth 100000 in
set_option maxHeartbeats 6400000 in
theorem ZerosLaw_nt (g : Gl) (Ab Ad Ah Ai : Option Addr) (cb cd ch ci : Nat) (h : List Rg) (l : List Ic) (w : World) (hg : GlIn w w.heap.size g Ab Ad) (hh : SlAt w w.heap.size 2 Ah h.length (fR h)) (hi : SlAt w w.heap.size 3 Ai l.length (fC l)) (A1 A2 A3 : Option Addr) (c1 c2 c3 : Nat) (t1 t2 t3 : List Int) (k1 : SlAt w w.heap.size 1 A1 t1.length (fI t1)) (k2 : SlAt w w.heap.size 1 A2 t2.length (fI t2)) (k3 : SlAt w w.heap.size 1 A3 t3.length (fI t3)) (hth : thinB g.bands.length g.depths.length h.length l.length = true) (ht1 : t1.length ≤ 22) (ht2 : t2.length ≤ 22) (ht3 : t3.length ≤ 22) (heq : iced g h l = 0) (ht : truthB g h t1 t2 t3 = false) :
    Calls Try.prog 14 #[.agg #[.int .i64 g.base, .slice Ab g.bands.length cb, .slice Ad g.depths.length cd, .int .i64 g.blo, .int .i64 g.bhi], .slice Ah h.length ch, .slice Ai l.length ci, .agg #[.slice A1 t1.length c1, .slice A2 t2.length c2, .slice A3 t3.length c3]] w fun e w' => e = .returned (.bool true) ∧ Below w.heap.size w w' := by
  have hb1 := ex_alloc (ex_alloc (Below.refl w.heap.size w) (.cells #[.int .i64 g.base, .slice Ab g.bands.length cb, .slice Ad g.depths.length cd, .int .i64 g.blo, .int .i64 g.bhi] 27)) (.cells #[.slice A1 t1.length c1, .slice A2 t2.length c2, .slice A3 t3.length c3] 56)
  have q1 : Blk ((w.alloc (.cells #[.int .i64 g.base, .slice Ab g.bands.length cb, .slice Ad g.depths.length cd, .int .i64 g.blo, .int .i64 g.bhi] 27)).alloc (.cells #[.slice A1 t1.length c1, .slice A2 t2.length c2, .slice A3 t3.length c3] 56)) w.heap.size 27 #[.int .i64 g.base, .slice Ab g.bands.length cb, .slice Ad g.depths.length cd, .int .i64 g.blo, .int .i64 g.bhi] := (Blk.new _ _ _).alloc _
  have q2 : Blk ((w.alloc (.cells #[.int .i64 g.base, .slice Ab g.bands.length cb, .slice Ad g.depths.length cd, .int .i64 g.blo, .int .i64 g.bhi] 27)).alloc (.cells #[.slice A1 t1.length c1, .slice A2 t2.length c2, .slice A3 t3.length c3] 56)) (w.heap.size + 1) 56 #[.slice A1 t1.length c1, .slice A2 t2.length c2, .slice A3 t3.length c3] := Blk.new' _ _ _ (by simp)
  obtain ⟨hnb, hnd, hnh, hni⟩ := thinB_iff.1 hth
  have e1 : decide (22 < t1.length) = false := decide_eq_false (by omega)
  have e1' : decide ((22 : Int) < (t1.length : Int)) = false := decide_eq_false (by omega)
  have e2 : decide (22 < t2.length) = false := decide_eq_false (by omega)
  have e2' : decide ((22 : Int) < (t2.length : Int)) = false := decide_eq_false (by omega)
  have e3 : decide (22 < t3.length) = false := decide_eq_false (by omega)
  have e3' : decide ((22 : Int) < (t3.length : Int)) = false := decide_eq_false (by omega)
  have HTH := Lib.hid hth
  clear hth
  go_enter Try.func14, Try.ntmps14
  go_wp2_with fail
  refine (Thin_any _ _ _ _ _ _ _ _ _ _ _ _ _ _ _ _).mono ?_
  rintro e w2 ⟨rfl, hb2⟩
  have hB2 := ex_trans hb1 hb2
  rw [HTH.out]
  have p1 := q1.below hb2 q1.lt
  have p2 := q2.below hb2 q2.lt
  clear q1 q2
  have d0 : w2.cell? ⟨w.heap.size + 1, 0, none⟩ = some (.slice A1 t1.length c1) := p2.cell 0
  have d1 : w2.cell? ⟨w.heap.size + 1, 1, none⟩ = some (.slice A2 t2.length c2) := p2.cell 1
  have d2 : w2.cell? ⟨w.heap.size + 1, 2, none⟩ = some (.slice A3 t3.length c3) := p2.cell 2
  have l2 := p2.lt
  have HIC := Lib.hid heq
  have h8 := iced_len heq
  have hok := ok_of_iced heq
  have hb5 := hok.nb
  have hn16 := hok.nh
  have HK := Lib.hid hok
  have HBD := Lib.hid (iced_bd heq)
  have HT := Lib.hid ht
  have HP := Lib.hid (show proveB g h l t1 t2 t3 = false by unfold proveB; rw [ht, Bool.false_and, Bool.and_false])
  clear ht
  clear heq hok
  have a0 : w2.cell? ⟨w.heap.size, 0, none⟩ = some (.int .i64 g.base) := p1.cell 0
  have a1 : w2.cell? ⟨w.heap.size, 1, none⟩ = some (.slice Ab g.bands.length cb) := p1.cell 1
  have a2 : w2.cell? ⟨w.heap.size, 2, none⟩ = some (.slice Ad g.depths.length cd) := p1.cell 2
  have a3 : w2.cell? ⟨w.heap.size, 3, none⟩ = some (.int .i64 g.blo) := p1.cell 3
  have a4 : w2.cell? ⟨w.heap.size, 4, none⟩ = some (.int .i64 g.bhi) := p1.cell 4
  have l1 := p1.lt
  go_wp2_with fail
  refine (Glass_any g _ _ _ _ w2 ((hg.below hB2).up hB2.size) (by omega) (by omega)).mono ?_
  rintro e ya1 ⟨⟨Ab_ya1, Ad_ya1, cb_ya1, cd_ya1, rfl, hg_ya1⟩, hya1⟩
  have B_ya1 := ex_trans hB2 hya1
  go_wp2_with fail
  refine (History_any _ _ h ya1 (by omega) ((hh.below B_ya1).up B_ya1.size)).mono ?_
  rintro e ya2 ⟨⟨Ah_ya2, ch_ya2, rfl, _, _, hh_ya2⟩, hya2⟩
  have B_ya2 := ex_trans B_ya1 hya2
  have I_ya2 := ex_trans hB2 (ex_trans hya1 hya2)
  go_wp2_with fail
  refine (Ices_any _ _ l ya2 (by omega) ((hi.below I_ya2).up I_ya2.size)).mono ?_
  rintro e ya3 ⟨⟨Ai_ya3, ci_ya3, rfl, hc1_ya3, hc2_ya3, hi_ya3⟩, hya3⟩
  have B_ya3 := ex_trans B_ya2 hya3
  have I_ya3 := ex_trans I_ya2 hya3
  go_wp2_with fail
  refine (Zeros_v g _ _ _ _ _ _ _ _ h l _ ((hg_ya1.below (ex_trans hya2 hya3)).up (ex_trans hya2 hya3).size) ((hh_ya2.below hya3).up hya3.size) hi_ya3 HIC.out).mono ?_
  rintro e ya4 ⟨⟨Az1, n1, ev1, zs1, rfl, HZ1, sz1⟩, hya4⟩
  have B_ya := ex_trans B_ya3 hya4
  have I_ya := ex_trans I_ya3 hya4
  have X_ya := ex_trans (ex_trans (ex_trans hya1 hya2) hya3) hya4
  clear hg_ya1 hh_ya2 hi_ya3
  replace p1 := p1.below X_ya l1
  clear a0 a1 a2 a3 a4 l1
  replace p2 := p2.below X_ya p2.lt
  clear d0 d1 d2 l2
  have a0 : ya4.cell? ⟨w.heap.size, 0, none⟩ = some (.int .i64 g.base) := p1.cell 0
  have a1 : ya4.cell? ⟨w.heap.size, 1, none⟩ = some (.slice Ab g.bands.length cb) := p1.cell 1
  have a2 : ya4.cell? ⟨w.heap.size, 2, none⟩ = some (.slice Ad g.depths.length cd) := p1.cell 2
  have a3 : ya4.cell? ⟨w.heap.size, 3, none⟩ = some (.int .i64 g.blo) := p1.cell 3
  have a4 : ya4.cell? ⟨w.heap.size, 4, none⟩ = some (.int .i64 g.bhi) := p1.cell 4
  have l1 := p1.lt
  have d0 : ya4.cell? ⟨w.heap.size + 1, 0, none⟩ = some (.slice A1 t1.length c1) := p2.cell 0
  have d1 : ya4.cell? ⟨w.heap.size + 1, 1, none⟩ = some (.slice A2 t2.length c2) := p2.cell 1
  have d2 : ya4.cell? ⟨w.heap.size + 1, 2, none⟩ = some (.slice A3 t3.length c3) := p2.cell 2
  have l2 := p2.lt
  go_wp2_with fail
  refine wp_region_ext_mix 9 [(false, 0), (false, 2), (false, 4), (false, 6), (true, 1), (true, 3), (true, 5), (true, 7), (true, 8)] (by kernel_rfl) (by kernel_rfl) (by intro d _ _ _ _ h; cases d <;> exact h) ?_
  have hW_yb := (Below.refl ya4.heap.size ya4).drew
  repeat (refine mix_quiet rfl ?_; go_big_quiet_step (fail); refine wpQuiet_nil ?_)
  refine mix_loud rfl ?_
  go_wp2_with fail
  refine (Glass_any g _ _ _ _ ya4.drew ((hg.below (ex_trans B_ya hW_yb)).up (ex_trans B_ya hW_yb).size) (by omega) (by omega)).mono ?_
  rintro e yb1 ⟨⟨Ab_yb, Ad_yb, cb_yb, cd_yb, rfl, hg_yb⟩, hyb1⟩
  have E_yb1 := ex_trans hW_yb hyb1
  go_wp2_with fail
  refine ⟨inEx E_yb1, ?_⟩
  refine mix_loud rfl ?_
  go_wp2_with fail
  refine (History_any _ _ h yb1 (by omega) ((hh.below (ex_trans B_ya E_yb1)).up (ex_trans B_ya E_yb1).size)).mono ?_
  rintro e yb2 ⟨⟨Ah_yb, ch_yb, rfl, _, _, hh_yb⟩, hyb2⟩
  have E_yb2 := ex_trans E_yb1 hyb2
  go_wp2_with fail
  refine ⟨inEx E_yb2, ?_⟩
  refine mix_loud rfl ?_
  go_wp2_with fail
  refine (Ices_any _ _ l yb2 (by omega) ((hi.below (ex_trans I_ya E_yb2)).up (ex_trans I_ya E_yb2).size)).mono ?_
  rintro e yb3 ⟨⟨Ai_yb, ci_yb, rfl, _, _, hi_yb⟩, hyb3⟩
  have E_yb3 := ex_trans E_yb2 hyb3
  go_wp2_with fail
  refine ⟨inEx E_yb3, ?_⟩
  refine mix_loud rfl ?_
  go_wp2_with fail
  have hT := ex_trans B_ya E_yb3
  refine (Truth_any yb3 _ _ _ _ _ _ t1 t2 t3 ((k1.below hT).up hT.size) ((k2.below hT).up hT.size) ((k3.below hT).up hT.size) (by omega) (by omega) (by omega)).mono ?_
  rintro e yb4 ⟨⟨C1, C2, C3, m1, m2, m3, rfl, s1, s2, s3⟩, hyb4⟩
  have E_yb4 := ex_trans E_yb3 hyb4
  go_wp2_with fail
  refine ⟨inEx E_yb4, ?_⟩
  refine mix_loud rfl ?_
  go_wp2_with fail
  have hx2 := ex_trans (ex_trans hyb2 hyb3) hyb4
  have hx3 := ex_trans hyb3 hyb4
  refine (Prove_any g _ _ _ _ _ _ _ _ h l _ ((hg_yb.below hx2).up hx2.size) ((hh_yb.below hx3).up hx3.size) ((hi_yb.below hyb4).up hyb4.size) _ _ _ _ _ _ t1 t2 t3 s1 s2 s3).mono ?_
  rintro e yb5 ⟨rfl, hyb5⟩
  have E_yb := ex_trans E_yb4 hyb5
  rw [HP.out]
  go_wp2_with fail
  refine ⟨inEx E_yb, ?_⟩
  refine mix_nil rfl ?_
  have B_yb := ex_trans B_ya E_yb
  replace p1 := p1.below E_yb l1
  replace p2 := p2.below E_yb l2
  clear hg_yb hh_yb hi_yb s1 s2 s3 a0 a1 a2 a3 a4 d0 d1 d2 l1 l2 hx2 hx3 hT
  have a0 : yb5.cell? ⟨w.heap.size, 0, none⟩ = some (.int .i64 g.base) := p1.cell 0
  have a1 : yb5.cell? ⟨w.heap.size, 1, none⟩ = some (.slice Ab g.bands.length cb) := p1.cell 1
  have a2 : yb5.cell? ⟨w.heap.size, 2, none⟩ = some (.slice Ad g.depths.length cd) := p1.cell 2
  have a3 : yb5.cell? ⟨w.heap.size, 3, none⟩ = some (.int .i64 g.blo) := p1.cell 3
  have a4 : yb5.cell? ⟨w.heap.size, 4, none⟩ = some (.int .i64 g.bhi) := p1.cell 4
  have l1 := p1.lt
  have d0 : yb5.cell? ⟨w.heap.size + 1, 0, none⟩ = some (.slice A1 t1.length c1) := p2.cell 0
  have d1 : yb5.cell? ⟨w.heap.size + 1, 1, none⟩ = some (.slice A2 t2.length c2) := p2.cell 1
  have d2 : yb5.cell? ⟨w.heap.size + 1, 2, none⟩ = some (.slice A3 t3.length c3) := p2.cell 2
  have l2 := p2.lt
  go_wp2_with fail
  refine (icedL_any g _ _ _ _ _ _ _ _ h l _ ((hg.below B_yb).up B_yb.size) ((hh.below B_yb).up B_yb.size) ((hi.below B_yb).up B_yb.size) (by omega)).mono ?_
  rintro e w6 ⟨rfl, hw6⟩
  have B_w6 := ex_trans B_yb hw6
  rw [HIC.out]
  replace p1 := p1.below hw6 l1
  replace p2 := p2.below hw6 l2
  clear a0 a1 a2 a3 a4 d0 d1 d2 l1 l2
  have a0 : w6.cell? ⟨w.heap.size, 0, none⟩ = some (.int .i64 g.base) := p1.cell 0
  have a1 : w6.cell? ⟨w.heap.size, 1, none⟩ = some (.slice Ab g.bands.length cb) := p1.cell 1
  have a2 : w6.cell? ⟨w.heap.size, 2, none⟩ = some (.slice Ad g.depths.length cd) := p1.cell 2
  have a3 : w6.cell? ⟨w.heap.size, 3, none⟩ = some (.int .i64 g.blo) := p1.cell 3
  have a4 : w6.cell? ⟨w.heap.size, 4, none⟩ = some (.int .i64 g.bhi) := p1.cell 4
  have l1 := p1.lt
  have d0 : w6.cell? ⟨w.heap.size + 1, 0, none⟩ = some (.slice A1 t1.length c1) := p2.cell 0
  have d1 : w6.cell? ⟨w.heap.size + 1, 1, none⟩ = some (.slice A2 t2.length c2) := p2.cell 1
  have d2 : w6.cell? ⟨w.heap.size + 1, 2, none⟩ = some (.slice A3 t3.length c3) := p2.cell 2
  have l2 := p2.lt
  go_wp2_with fail
  refine (IsTruth_any g _ _ _ _ _ _ h _ ((hg.below B_w6).up B_w6.size) ((hh.below B_w6).up B_w6.size) _ _ _ _ _ _ t1 t2 t3 ((k1.below B_w6).up B_w6.size) ((k2.below B_w6).up B_w6.size) ((k3.below B_w6).up B_w6.size) (by omega) (by omega)).mono ?_
  rintro e w8 ⟨rfl, hb8⟩
  have B_w8 := ex_trans B_w6 hb8
  rw [HT.out]
  have sz8 := (sz1.below (ex_trans (ex_trans E_yb hw6) hb8)).up (ex_trans (ex_trans E_yb hw6) hb8).size
  clear sz1
  replace p1 := p1.below hb8 l1
  replace p2 := p2.below hb8 l2
  clear a0 a1 a2 a3 a4 d0 d1 d2 l1 l2
  have a0 : w8.cell? ⟨w.heap.size, 0, none⟩ = some (.int .i64 g.base) := p1.cell 0
  have a1 : w8.cell? ⟨w.heap.size, 1, none⟩ = some (.slice Ab g.bands.length cb) := p1.cell 1
  have a2 : w8.cell? ⟨w.heap.size, 2, none⟩ = some (.slice Ad g.depths.length cd) := p1.cell 2
  have a3 : w8.cell? ⟨w.heap.size, 3, none⟩ = some (.int .i64 g.blo) := p1.cell 3
  have a4 : w8.cell? ⟨w.heap.size, 4, none⟩ = some (.int .i64 g.bhi) := p1.cell 4
  have l1 := p1.lt
  have d0 : w8.cell? ⟨w.heap.size + 1, 0, none⟩ = some (.slice A1 t1.length c1) := p2.cell 0
  have d1 : w8.cell? ⟨w.heap.size + 1, 1, none⟩ = some (.slice A2 t2.length c2) := p2.cell 1
  have d2 : w8.cell? ⟨w.heap.size + 1, 2, none⟩ = some (.slice A3 t3.length c3) := p2.cell 2
  have l2 := p2.lt
  clear d0 d1 d2 l2
  clear a0 a1 a2 a3 a4 l1
  have a0 : w8.cell? ⟨w.heap.size, 0, none⟩ = some (.int .i64 g.base) := p1.cell 0
  have a1 : w8.cell? ⟨w.heap.size, 1, none⟩ = some (.slice Ab g.bands.length cb) := p1.cell 1
  have a2 : w8.cell? ⟨w.heap.size, 2, none⟩ = some (.slice Ad g.depths.length cd) := p1.cell 2
  have a3 : w8.cell? ⟨w.heap.size, 3, none⟩ = some (.int .i64 g.blo) := p1.cell 3
  have a4 : w8.cell? ⟨w.heap.size, 4, none⟩ = some (.int .i64 g.bhi) := p1.cell 4
  have l1 := p1.lt
  go_wp2_with fail
  refine (ZerosR_nil g _ _ _ _ _ _ _ _ h l w8 ((hg.below B_w8).up B_w8.size) ((hh.below B_w8).up B_w8.size) ((hi.below B_w8).up B_w8.size) HK.out HBD.out (by omega)).mono ?_
  rintro e z7 ⟨⟨Az, zs, is, rfl, HZ, hz⟩, hz7⟩
  have B_z7 := ex_trans B_w8 hz7
  have hzl := HZ.out.1
  clear a0 a1 a2 a3 a4 l1 p1
  have sz9 := (sz8.below hz7).up hz7.size
  cases his : is
  · rw [his] at HZ
    have hE : n1 = 0 ∧ ev1 = 9 := by
      rcases HZ1.out with ⟨_, h1, h2⟩ | ⟨h1, _⟩
      · exact ⟨h2, h1⟩
      · rw [← HZ.out.2.1] at h1; cases h1
    obtain ⟨rfl, rfl⟩ := hE
    clear sz9
    go_wp2_with fail
    refine (awake_any _).mono ?_
    rintro e x1 ⟨rfl, hx1⟩
    go_wp2
    go_ret
    exact ⟨rfl, ex_trans B_z7 hx1⟩
  · rw [his] at HZ
    have hE : n1 = h.length ∧ ev1 = 0 ∧ zs = zs1 := by
      rcases HZ1.out with ⟨h1, _⟩ | ⟨_, h1, h2, h3⟩
      · rw [← HZ.out.2.1] at h1; cases h1
      · exact ⟨h2, h1, (HZ.out.2.2 rfl).uniq h3⟩
    obtain ⟨rfl, rfl, rfl⟩ := hE
    rw [hzl] at hz
    go_wp2_with fail
    refine (ranges_n h.length _ _ _ _ zs z7 hzl (by omega) sz9 hz).mono ?_
    rintro e z8 ⟨rfl, hz8⟩
    go_wp2_with fail
    refine (awake_any _).mono ?_
    rintro e x1 ⟨rfl, hx1⟩
    go_wp2
    go_ret
    exact ⟨rfl, ex_trans (ex_trans B_z7 hz8) hx1⟩

set_option maxRecDepth 100000 in
set_option maxHeartbeats 6400000 in
theorem ZerosLaw_ok (g : Gl) (Ab Ad Ah Ai : Option Addr) (cb cd ch ci : Nat) (h : List Rg) (l : List Ic) (w : World) (hg : GlIn w w.heap.size g Ab Ad) (hh : SlAt w w.heap.size 2 Ah h.length (fR h)) (hi : SlAt w w.heap.size 3 Ai l.length (fC l)) (A1 A2 A3 : Option Addr) (c1 c2 c3 : Nat) (t1 t2 t3 : List Int) (k1 : SlAt w w.heap.size 1 A1 t1.length (fI t1)) (k2 : SlAt w w.heap.size 1 A2 t2.length (fI t2)) (k3 : SlAt w w.heap.size 1 A3 t3.length (fI t3)) (hth : thinB g.bands.length g.depths.length h.length l.length = true) (ht1 : t1.length ≤ 22) (ht2 : t2.length ≤ 22) (ht3 : t3.length ≤ 22) (heq : iced g h l = 0) (ht : truthB g h t1 t2 t3 = true) :
    Calls Try.prog 14 #[.agg #[.int .i64 g.base, .slice Ab g.bands.length cb, .slice Ad g.depths.length cd, .int .i64 g.blo, .int .i64 g.bhi], .slice Ah h.length ch, .slice Ai l.length ci, .agg #[.slice A1 t1.length c1, .slice A2 t2.length c2, .slice A3 t3.length c3]] w fun e w' => e = .returned (.bool true) ∧ Below w.heap.size w w' := by
  have hb1 := ex_alloc (ex_alloc (Below.refl w.heap.size w) (.cells #[.int .i64 g.base, .slice Ab g.bands.length cb, .slice Ad g.depths.length cd, .int .i64 g.blo, .int .i64 g.bhi] 27)) (.cells #[.slice A1 t1.length c1, .slice A2 t2.length c2, .slice A3 t3.length c3] 56)
  have q1 : Blk ((w.alloc (.cells #[.int .i64 g.base, .slice Ab g.bands.length cb, .slice Ad g.depths.length cd, .int .i64 g.blo, .int .i64 g.bhi] 27)).alloc (.cells #[.slice A1 t1.length c1, .slice A2 t2.length c2, .slice A3 t3.length c3] 56)) w.heap.size 27 #[.int .i64 g.base, .slice Ab g.bands.length cb, .slice Ad g.depths.length cd, .int .i64 g.blo, .int .i64 g.bhi] := (Blk.new _ _ _).alloc _
  have q2 : Blk ((w.alloc (.cells #[.int .i64 g.base, .slice Ab g.bands.length cb, .slice Ad g.depths.length cd, .int .i64 g.blo, .int .i64 g.bhi] 27)).alloc (.cells #[.slice A1 t1.length c1, .slice A2 t2.length c2, .slice A3 t3.length c3] 56)) (w.heap.size + 1) 56 #[.slice A1 t1.length c1, .slice A2 t2.length c2, .slice A3 t3.length c3] := Blk.new' _ _ _ (by simp)
  obtain ⟨hnb, hnd, hnh, hni⟩ := thinB_iff.1 hth
  have e1 : decide (22 < t1.length) = false := decide_eq_false (by omega)
  have e1' : decide ((22 : Int) < (t1.length : Int)) = false := decide_eq_false (by omega)
  have e2 : decide (22 < t2.length) = false := decide_eq_false (by omega)
  have e2' : decide ((22 : Int) < (t2.length : Int)) = false := decide_eq_false (by omega)
  have e3 : decide (22 < t3.length) = false := decide_eq_false (by omega)
  have e3' : decide ((22 : Int) < (t3.length : Int)) = false := decide_eq_false (by omega)
  have HTH := Lib.hid hth
  clear hth
  go_enter Try.func14, Try.ntmps14
  go_wp2_with fail
  refine (Thin_any _ _ _ _ _ _ _ _ _ _ _ _ _ _ _ _).mono ?_
  rintro e w2 ⟨rfl, hb2⟩
  have hB2 := ex_trans hb1 hb2
  rw [HTH.out]
  have p1 := q1.below hb2 q1.lt
  have p2 := q2.below hb2 q2.lt
  clear q1 q2
  have d0 : w2.cell? ⟨w.heap.size + 1, 0, none⟩ = some (.slice A1 t1.length c1) := p2.cell 0
  have d1 : w2.cell? ⟨w.heap.size + 1, 1, none⟩ = some (.slice A2 t2.length c2) := p2.cell 1
  have d2 : w2.cell? ⟨w.heap.size + 1, 2, none⟩ = some (.slice A3 t3.length c3) := p2.cell 2
  have l2 := p2.lt
  have HIC := Lib.hid heq
  have h8 := iced_len heq
  have hok := ok_of_iced heq
  have hb5 := hok.nb
  have hn16 := hok.nh
  have HK := Lib.hid hok
  have HBD := Lib.hid (iced_bd heq)
  have HT := Lib.hid ht
  have HP := Lib.hid (show proveB g h l t1 t2 t3 = allTo (fun d => fitsB l off0 (d : Int) (zAt g t1 t2 t3 d)) h.length by unfold proveB; rw [ht, decide_eq_true heq, Bool.true_and, Bool.true_and])
  clear ht
  clear heq hok
  have a0 : w2.cell? ⟨w.heap.size, 0, none⟩ = some (.int .i64 g.base) := p1.cell 0
  have a1 : w2.cell? ⟨w.heap.size, 1, none⟩ = some (.slice Ab g.bands.length cb) := p1.cell 1
  have a2 : w2.cell? ⟨w.heap.size, 2, none⟩ = some (.slice Ad g.depths.length cd) := p1.cell 2
  have a3 : w2.cell? ⟨w.heap.size, 3, none⟩ = some (.int .i64 g.blo) := p1.cell 3
  have a4 : w2.cell? ⟨w.heap.size, 4, none⟩ = some (.int .i64 g.bhi) := p1.cell 4
  have l1 := p1.lt
  go_wp2_with fail
  refine (Glass_any g _ _ _ _ w2 ((hg.below hB2).up hB2.size) (by omega) (by omega)).mono ?_
  rintro e ya1 ⟨⟨Ab_ya1, Ad_ya1, cb_ya1, cd_ya1, rfl, hg_ya1⟩, hya1⟩
  have B_ya1 := ex_trans hB2 hya1
  go_wp2_with fail
  refine (History_any _ _ h ya1 (by omega) ((hh.below B_ya1).up B_ya1.size)).mono ?_
  rintro e ya2 ⟨⟨Ah_ya2, ch_ya2, rfl, _, _, hh_ya2⟩, hya2⟩
  have B_ya2 := ex_trans B_ya1 hya2
  have I_ya2 := ex_trans hB2 (ex_trans hya1 hya2)
  go_wp2_with fail
  refine (Ices_any _ _ l ya2 (by omega) ((hi.below I_ya2).up I_ya2.size)).mono ?_
  rintro e ya3 ⟨⟨Ai_ya3, ci_ya3, rfl, hc1_ya3, hc2_ya3, hi_ya3⟩, hya3⟩
  have B_ya3 := ex_trans B_ya2 hya3
  have I_ya3 := ex_trans I_ya2 hya3
  go_wp2_with fail
  refine (Zeros_v g _ _ _ _ _ _ _ _ h l _ ((hg_ya1.below (ex_trans hya2 hya3)).up (ex_trans hya2 hya3).size) ((hh_ya2.below hya3).up hya3.size) hi_ya3 HIC.out).mono ?_
  rintro e ya4 ⟨⟨Az1, n1, ev1, zs1, rfl, HZ1, sz1⟩, hya4⟩
  have B_ya := ex_trans B_ya3 hya4
  have I_ya := ex_trans I_ya3 hya4
  have X_ya := ex_trans (ex_trans (ex_trans hya1 hya2) hya3) hya4
  clear hg_ya1 hh_ya2 hi_ya3
  replace p1 := p1.below X_ya l1
  clear a0 a1 a2 a3 a4 l1
  replace p2 := p2.below X_ya p2.lt
  clear d0 d1 d2 l2
  have a0 : ya4.cell? ⟨w.heap.size, 0, none⟩ = some (.int .i64 g.base) := p1.cell 0
  have a1 : ya4.cell? ⟨w.heap.size, 1, none⟩ = some (.slice Ab g.bands.length cb) := p1.cell 1
  have a2 : ya4.cell? ⟨w.heap.size, 2, none⟩ = some (.slice Ad g.depths.length cd) := p1.cell 2
  have a3 : ya4.cell? ⟨w.heap.size, 3, none⟩ = some (.int .i64 g.blo) := p1.cell 3
  have a4 : ya4.cell? ⟨w.heap.size, 4, none⟩ = some (.int .i64 g.bhi) := p1.cell 4
  have l1 := p1.lt
  have d0 : ya4.cell? ⟨w.heap.size + 1, 0, none⟩ = some (.slice A1 t1.length c1) := p2.cell 0
  have d1 : ya4.cell? ⟨w.heap.size + 1, 1, none⟩ = some (.slice A2 t2.length c2) := p2.cell 1
  have d2 : ya4.cell? ⟨w.heap.size + 1, 2, none⟩ = some (.slice A3 t3.length c3) := p2.cell 2
  have l2 := p2.lt
  go_wp2_with fail
  refine wp_region_ext_mix 9 [(false, 0), (false, 2), (false, 4), (false, 6), (true, 1), (true, 3), (true, 5), (true, 7), (true, 8)] (by kernel_rfl) (by kernel_rfl) (by intro d _ _ _ _ h; cases d <;> exact h) ?_
  have hW_yb := (Below.refl ya4.heap.size ya4).drew
  repeat (refine mix_quiet rfl ?_; go_big_quiet_step (fail); refine wpQuiet_nil ?_)
  refine mix_loud rfl ?_
  go_wp2_with fail
  refine (Glass_any g _ _ _ _ ya4.drew ((hg.below (ex_trans B_ya hW_yb)).up (ex_trans B_ya hW_yb).size) (by omega) (by omega)).mono ?_
  rintro e yb1 ⟨⟨Ab_yb, Ad_yb, cb_yb, cd_yb, rfl, hg_yb⟩, hyb1⟩
  have E_yb1 := ex_trans hW_yb hyb1
  go_wp2_with fail
  refine ⟨inEx E_yb1, ?_⟩
  refine mix_loud rfl ?_
  go_wp2_with fail
  refine (History_any _ _ h yb1 (by omega) ((hh.below (ex_trans B_ya E_yb1)).up (ex_trans B_ya E_yb1).size)).mono ?_
  rintro e yb2 ⟨⟨Ah_yb, ch_yb, rfl, _, _, hh_yb⟩, hyb2⟩
  have E_yb2 := ex_trans E_yb1 hyb2
  go_wp2_with fail
  refine ⟨inEx E_yb2, ?_⟩
  refine mix_loud rfl ?_
  go_wp2_with fail
  refine (Ices_any _ _ l yb2 (by omega) ((hi.below (ex_trans I_ya E_yb2)).up (ex_trans I_ya E_yb2).size)).mono ?_
  rintro e yb3 ⟨⟨Ai_yb, ci_yb, rfl, _, _, hi_yb⟩, hyb3⟩
  have E_yb3 := ex_trans E_yb2 hyb3
  go_wp2_with fail
  refine ⟨inEx E_yb3, ?_⟩
  refine mix_loud rfl ?_
  go_wp2_with fail
  have hT := ex_trans B_ya E_yb3
  refine (Truth_any yb3 _ _ _ _ _ _ t1 t2 t3 ((k1.below hT).up hT.size) ((k2.below hT).up hT.size) ((k3.below hT).up hT.size) (by omega) (by omega) (by omega)).mono ?_
  rintro e yb4 ⟨⟨C1, C2, C3, m1, m2, m3, rfl, s1, s2, s3⟩, hyb4⟩
  have E_yb4 := ex_trans E_yb3 hyb4
  go_wp2_with fail
  refine ⟨inEx E_yb4, ?_⟩
  refine mix_loud rfl ?_
  go_wp2_with fail
  have hx2 := ex_trans (ex_trans hyb2 hyb3) hyb4
  have hx3 := ex_trans hyb3 hyb4
  refine (Prove_any g _ _ _ _ _ _ _ _ h l _ ((hg_yb.below hx2).up hx2.size) ((hh_yb.below hx3).up hx3.size) ((hi_yb.below hyb4).up hyb4.size) _ _ _ _ _ _ t1 t2 t3 s1 s2 s3).mono ?_
  rintro e yb5 ⟨rfl, hyb5⟩
  have E_yb := ex_trans E_yb4 hyb5
  rw [HP.out]
  go_wp2_with fail
  refine ⟨inEx E_yb, ?_⟩
  refine mix_nil rfl ?_
  have B_yb := ex_trans B_ya E_yb
  replace p1 := p1.below E_yb l1
  replace p2 := p2.below E_yb l2
  clear hg_yb hh_yb hi_yb s1 s2 s3 a0 a1 a2 a3 a4 d0 d1 d2 l1 l2 hx2 hx3 hT
  have a0 : yb5.cell? ⟨w.heap.size, 0, none⟩ = some (.int .i64 g.base) := p1.cell 0
  have a1 : yb5.cell? ⟨w.heap.size, 1, none⟩ = some (.slice Ab g.bands.length cb) := p1.cell 1
  have a2 : yb5.cell? ⟨w.heap.size, 2, none⟩ = some (.slice Ad g.depths.length cd) := p1.cell 2
  have a3 : yb5.cell? ⟨w.heap.size, 3, none⟩ = some (.int .i64 g.blo) := p1.cell 3
  have a4 : yb5.cell? ⟨w.heap.size, 4, none⟩ = some (.int .i64 g.bhi) := p1.cell 4
  have l1 := p1.lt
  have d0 : yb5.cell? ⟨w.heap.size + 1, 0, none⟩ = some (.slice A1 t1.length c1) := p2.cell 0
  have d1 : yb5.cell? ⟨w.heap.size + 1, 1, none⟩ = some (.slice A2 t2.length c2) := p2.cell 1
  have d2 : yb5.cell? ⟨w.heap.size + 1, 2, none⟩ = some (.slice A3 t3.length c3) := p2.cell 2
  have l2 := p2.lt
  go_wp2_with fail
  refine (icedL_any g _ _ _ _ _ _ _ _ h l _ ((hg.below B_yb).up B_yb.size) ((hh.below B_yb).up B_yb.size) ((hi.below B_yb).up B_yb.size) (by omega)).mono ?_
  rintro e w6 ⟨rfl, hw6⟩
  have B_w6 := ex_trans B_yb hw6
  rw [HIC.out]
  replace p1 := p1.below hw6 l1
  replace p2 := p2.below hw6 l2
  clear a0 a1 a2 a3 a4 d0 d1 d2 l1 l2
  have a0 : w6.cell? ⟨w.heap.size, 0, none⟩ = some (.int .i64 g.base) := p1.cell 0
  have a1 : w6.cell? ⟨w.heap.size, 1, none⟩ = some (.slice Ab g.bands.length cb) := p1.cell 1
  have a2 : w6.cell? ⟨w.heap.size, 2, none⟩ = some (.slice Ad g.depths.length cd) := p1.cell 2
  have a3 : w6.cell? ⟨w.heap.size, 3, none⟩ = some (.int .i64 g.blo) := p1.cell 3
  have a4 : w6.cell? ⟨w.heap.size, 4, none⟩ = some (.int .i64 g.bhi) := p1.cell 4
  have l1 := p1.lt
  have d0 : w6.cell? ⟨w.heap.size + 1, 0, none⟩ = some (.slice A1 t1.length c1) := p2.cell 0
  have d1 : w6.cell? ⟨w.heap.size + 1, 1, none⟩ = some (.slice A2 t2.length c2) := p2.cell 1
  have d2 : w6.cell? ⟨w.heap.size + 1, 2, none⟩ = some (.slice A3 t3.length c3) := p2.cell 2
  have l2 := p2.lt
  go_wp2_with fail
  refine (IsTruth_any g _ _ _ _ _ _ h _ ((hg.below B_w6).up B_w6.size) ((hh.below B_w6).up B_w6.size) _ _ _ _ _ _ t1 t2 t3 ((k1.below B_w6).up B_w6.size) ((k2.below B_w6).up B_w6.size) ((k3.below B_w6).up B_w6.size) (by omega) (by omega)).mono ?_
  rintro e w8 ⟨rfl, hb8⟩
  have B_w8 := ex_trans B_w6 hb8
  rw [HT.out]
  have sz8 := (sz1.below (ex_trans (ex_trans E_yb hw6) hb8)).up (ex_trans (ex_trans E_yb hw6) hb8).size
  clear sz1
  replace p1 := p1.below hb8 l1
  replace p2 := p2.below hb8 l2
  clear a0 a1 a2 a3 a4 d0 d1 d2 l1 l2
  have a0 : w8.cell? ⟨w.heap.size, 0, none⟩ = some (.int .i64 g.base) := p1.cell 0
  have a1 : w8.cell? ⟨w.heap.size, 1, none⟩ = some (.slice Ab g.bands.length cb) := p1.cell 1
  have a2 : w8.cell? ⟨w.heap.size, 2, none⟩ = some (.slice Ad g.depths.length cd) := p1.cell 2
  have a3 : w8.cell? ⟨w.heap.size, 3, none⟩ = some (.int .i64 g.blo) := p1.cell 3
  have a4 : w8.cell? ⟨w.heap.size, 4, none⟩ = some (.int .i64 g.bhi) := p1.cell 4
  have l1 := p1.lt
  have d0 : w8.cell? ⟨w.heap.size + 1, 0, none⟩ = some (.slice A1 t1.length c1) := p2.cell 0
  have d1 : w8.cell? ⟨w.heap.size + 1, 1, none⟩ = some (.slice A2 t2.length c2) := p2.cell 1
  have d2 : w8.cell? ⟨w.heap.size + 1, 2, none⟩ = some (.slice A3 t3.length c3) := p2.cell 2
  have l2 := p2.lt
  go_wp2_with fail
  refine (PlayR_any g _ _ _ _ h _ ((hg.below B_w8).up B_w8.size) _ _ _ _ _ _ t1 t2 t3 ((k1.below B_w8).up B_w8.size) ((k2.below B_w8).up B_w8.size) ((k3.below B_w8).up B_w8.size) HK.out HT.out).mono ?_
  rintro e w9 ⟨⟨v2, rfl, hv2⟩, hb9⟩
  obtain ⟨Aw, cw, rfl, _, hsw⟩ := own_sl hv2
  have B_w9 := ex_trans B_w8 hb9
  have sz9 := (sz8.below hb9).up hb9.size
  clear sz8 hv2
  replace p1 := p1.below hb9 l1
  clear a0 a1 a2 a3 a4 d0 d1 d2 l1 l2 p2
  have HPL := Lib.hid (playTo_len (g := g) (t1 := t1) (t2 := t2) (t3 := t3) (n := h.length))
  rw [playTo_len]
  have HF : Hid (∀ d, d < h.length → (-100000 ≤ zAt g t1 t2 t3 d ∧ zAt g t1 t2 t3 d ≤ 100000) ∧ gI (playTo g t1 t2 t3 h.length) d = zAt g t1 t2 t3 d) := Lib.hid (fun d hd => ⟨zAt_bd5 HK.out HT.out hd, gI_play hd⟩)
  generalize playTo g t1 t2 t3 h.length = pl at *
  obtain ⟨zf, hzf⟩ : ∃ zf, zAt g t1 t2 t3 = zf := ⟨_, rfl⟩
  rw [hzf] at HF HP
  simp only [hzf]
  obtain ⟨Fa, hFa⟩ : ∃ Fa : Nat → Bool, Fa = allTo (fun d => fitsB l off0 (d : Int) (zf d)) := ⟨_, rfl⟩
  rw [← hFa]
  have HFA := Lib.hid hFa
  clear hFa hzf
  have hn16' : h.length ≤ 16 := hn16.2
  have FA0 : Fa 0 = true := by rw [HFA.out]; rfl
  go_wp2_with fail
  refine wp_loop (fun a W => Rel (fun a W => ∃ k : Nat, k ≤ h.length ∧ Below w9.heap.size w9 W ∧ ∃ u : Nat → Value, a = ⟨List.toArray (u 0 :: .slice Ah h.length ch :: .slice Ai l.length ci :: u 3 :: .pointer (some ⟨w.heap.size, 0, none⟩) :: u 5 :: u 6 :: u 7 :: u 8 :: .slice Az1 n1 n1 :: .int .i64 ev1 :: .bool (Fa h.length) :: .int .i64 0 :: .bool (Fa k) :: .slice Aw h.length cw :: .int .i64 (k : Int) :: u 16 :: u 17 :: u 18 :: u 19 :: u 20 :: u 21 :: u 22 :: u 23 :: u 24 :: u 25 :: u 26 :: u 27 :: u 28 :: u 29 :: u 30 :: u 31 :: u 32 :: u 33 :: u 34 :: u 35 :: u 36 :: u 37 :: u 38 :: u 39 :: u 40 :: u 41 :: u 42 :: u 43 :: u 44 :: u 45 :: u 46 :: u 47 :: u 48 :: u 49 :: u 50 :: u 51 :: u 52 :: u 53 :: u 54 :: u 55 :: u 56 :: u 57 :: u 58 :: u 59 :: u 60 :: u 61 :: u 62 :: u 63 :: u 64 :: u 65 :: u 66 :: u 67 :: u 68 :: u 69 :: u 70 :: u 71 :: u 72 :: u 73 :: u 74 :: u 75 :: u 76 :: u 77 :: u 78 :: u 79 :: u 80 :: u 81 :: u 82 :: u 83 :: u 84 :: u 85 :: u 86 :: u 87 :: u 88 :: u 89 :: u 90 :: u 91 :: u 92 :: u 93 :: u 94 :: u 95 :: u 96 :: u 97 :: u 98 :: u 99 :: u 100 :: u 101 :: u 102 :: u 103 :: u 104 :: u 105 :: u 106 :: u 107 :: u 108 :: u 109 :: u 110 :: u 111 :: u 112 :: u 113 :: u 114 :: u 115 :: u 116 :: u 117 :: u 118 :: u 119 :: u 120 :: u 121 :: u 122 :: u 123 :: u 124 :: u 125 :: u 126 :: u 127 :: u 128 :: u 129 :: u 130 :: u 131 :: u 132 :: u 133 :: u 134 :: u 135 :: u 136 :: u 137 :: []), []⟩) a W)
    (fun a _ => h.length - (intOf (a.tmps.getD 15 undef)).toNat) ⟨⟨0, by omega, Below.refl _ _, by rw [FA0]; exact exFrame (by kernel_rfl)⟩⟩ ?_
  rintro a wr ⟨⟨k, hk, hbl, u, rfl⟩⟩
  by_cases hlt : k < h.length
  · obtain ⟨hzb, hzk⟩ := HF.out k hlt
    have FS : Hid (Fa (k + 1) = (Fa k && fitsB l off0 (k : Int) (zf k))) := Lib.hid (by rw [HFA.out]; rfl)
    have hbw := ex_trans B_w9 hbl
    have hws := hbl.size
    obtain ⟨bi, oi, rfl, hbi, g0⟩ := IsInts.at_ ((hsw.below hbl).up hbl.size) (by rw [HPL.out]; exact hlt)
    rw [hzk] at g0
    cases hFk : Fa k
    · have FS2 := Lib.hid (show Fa (k + 1) = false by rw [FS.out, hFk]; rfl)
      have HFK := Lib.hid hFk
      clear FS hFk
      go_wp2_with fail
      refine ⟨⟨⟨k + 1, by omega, hbl, by rw [FS2.out]; exact exFrame (by kernel_rfl)⟩⟩, ?_⟩
      show h.length - (intOf (.int .i64 ((k : Int) + 1))).toNat < h.length - (intOf (.int .i64 (k : Int))).toNat
      simp [intOf]
      omega
    · have FS2 := Lib.hid (show Fa (k + 1) = fitsB l off0 (k : Int) (zf k) by rw [FS.out, hFk]; rfl)
      clear FS
      go_wp2_with fail
      refine (Fits_any _ none _ 0 l [] (k : Int) (zf k) wr (by omega) (by simp) ((hi.below hbw).up hbw.size) (fun h => absurd h (by simp)) HBD.out hzb).mono ?_
      rintro e wh ⟨rfl, hwh⟩
      have HFF : Hid (fitsB l (fun j => hasB [] (j : Int)) (k : Int) (zf k) = Fa (k + 1)) := Lib.hid FS2.out.symm
      rw [HFF.out]
      have hbh := ex_trans hbl hwh
      go_wp2_with fail
      refine ⟨⟨⟨k + 1, by omega, hbh, exFrame (by kernel_rfl)⟩⟩, ?_⟩
      show h.length - (intOf (.int .i64 ((k : Int) + 1))).toNat < h.length - (intOf (.int .i64 (k : Int))).toNat
      simp [intOf]
      omega
  · have hkE : k = h.length := by omega
    subst hkE
    have sz8 := (sz9.below hbl).up hbl.size
    have B_wr := ex_trans B_w9 hbl
    replace p1 := p1.below hbl p1.lt
    clear sz9 FA0
    have a0 : wr.cell? ⟨w.heap.size, 0, none⟩ = some (.int .i64 g.base) := p1.cell 0
    have a1 : wr.cell? ⟨w.heap.size, 1, none⟩ = some (.slice Ab g.bands.length cb) := p1.cell 1
    have a2 : wr.cell? ⟨w.heap.size, 2, none⟩ = some (.slice Ad g.depths.length cd) := p1.cell 2
    have a3 : wr.cell? ⟨w.heap.size, 3, none⟩ = some (.int .i64 g.blo) := p1.cell 3
    have a4 : wr.cell? ⟨w.heap.size, 4, none⟩ = some (.int .i64 g.bhi) := p1.cell 4
    have l1 := p1.lt
    go_wp2_with fail
    refine (ZerosR_nil g _ _ _ _ _ _ _ _ h l wr ((hg.below B_wr).up B_wr.size) ((hh.below B_wr).up B_wr.size) ((hi.below B_wr).up B_wr.size) HK.out HBD.out (by omega)).mono ?_
    rintro e z7 ⟨⟨Az, zs, is, rfl, HZ, hz⟩, hz7⟩
    have B_z7 := ex_trans B_wr hz7
    have hzl := HZ.out.1
    clear a0 a1 a2 a3 a4 l1 p1
    have sz9 := (sz8.below hz7).up hz7.size
    cases his : is
    · rw [his] at HZ
      have hE : n1 = 0 ∧ ev1 = 9 := by
        rcases HZ1.out with ⟨_, h1, h2⟩ | ⟨h1, _⟩
        · exact ⟨h2, h1⟩
        · rw [← HZ.out.2.1] at h1; cases h1
      obtain ⟨rfl, rfl⟩ := hE
      clear sz9
      go_wp2_with fail
      refine (awake_any _).mono ?_
      rintro e x1 ⟨rfl, hx1⟩
      go_wp2
      go_ret
      exact ⟨rfl, ex_trans B_z7 hx1⟩
    · rw [his] at HZ
      have hE : n1 = h.length ∧ ev1 = 0 ∧ zs = zs1 := by
        rcases HZ1.out with ⟨h1, _⟩ | ⟨_, h1, h2, h3⟩
        · rw [← HZ.out.2.1] at h1; cases h1
        · exact ⟨h2, h1, (HZ.out.2.2 rfl).uniq h3⟩
      obtain ⟨rfl, rfl, rfl⟩ := hE
      rw [hzl] at hz
      go_wp2_with fail
      refine (ranges_n h.length _ _ _ _ zs z7 hzl (by omega) sz9 hz).mono ?_
      rintro e z8 ⟨rfl, hz8⟩
      go_wp2_with fail
      refine (awake_any _).mono ?_
      rintro e x1 ⟨rfl, hx1⟩
      go_wp2
      go_ret
      exact ⟨rfl, ex_trans (ex_trans B_z7 hz8) hx1⟩

set_option maxRecDepth 100000 in
set_option maxHeartbeats 6400000 in
theorem ZerosLaw_any (g : Gl) (Ab Ad Ah Ai : Option Addr) (cb cd ch ci : Nat) (h : List Rg) (l : List Ic) (w : World) (hg : GlIn w w.heap.size g Ab Ad) (hh : SlAt w w.heap.size 2 Ah h.length (fR h)) (hi : SlAt w w.heap.size 3 Ai l.length (fC l)) (A1 A2 A3 : Option Addr) (c1 c2 c3 : Nat) (t1 t2 t3 : List Int) (k1 : SlAt w w.heap.size 1 A1 t1.length (fI t1)) (k2 : SlAt w w.heap.size 1 A2 t2.length (fI t2)) (k3 : SlAt w w.heap.size 1 A3 t3.length (fI t3)) :
    Calls Try.prog 14 #[.agg #[.int .i64 g.base, .slice Ab g.bands.length cb, .slice Ad g.depths.length cd, .int .i64 g.blo, .int .i64 g.bhi], .slice Ah h.length ch, .slice Ai l.length ci, .agg #[.slice A1 t1.length c1, .slice A2 t2.length c2, .slice A3 t3.length c3]] w fun e w' => e = .returned (.bool true) ∧ Below w.heap.size w w' := by
  cases hth : thinB g.bands.length g.depths.length h.length l.length
  · exact ZerosLaw_far g Ab Ad Ah Ai cb cd ch ci h l w hg hh hi A1 A2 A3 c1 c2 c3 t1 t2 t3 k1 k2 k3 hth
  by_cases h1 : t1.length ≤ 22
  rotate_left
  · exact ZerosLaw_far1 g Ab Ad Ah Ai cb cd ch ci h l w hg hh hi A1 A2 A3 c1 c2 c3 t1 t2 t3 k1 k2 k3 hth h1
  by_cases h2 : t2.length ≤ 22
  rotate_left
  · exact ZerosLaw_far2 g Ab Ad Ah Ai cb cd ch ci h l w hg hh hi A1 A2 A3 c1 c2 c3 t1 t2 t3 k1 k2 k3 hth h1 h2
  by_cases h3 : t3.length ≤ 22
  rotate_left
  · exact ZerosLaw_far3 g Ab Ad Ah Ai cb cd ch ci h l w hg hh hi A1 A2 A3 c1 c2 c3 t1 t2 t3 k1 k2 k3 hth h1 h2 h3
  by_cases heq : iced g h l = 0
  · cases ht : truthB g h t1 t2 t3
    · exact ZerosLaw_nt g Ab Ad Ah Ai cb cd ch ci h l w hg hh hi A1 A2 A3 c1 c2 c3 t1 t2 t3 k1 k2 k3 hth h1 h2 h3 heq ht
    · exact ZerosLaw_ok g Ab Ad Ah Ai cb cd ch ci h l w hg hh hi A1 A2 A3 c1 c2 c3 t1 t2 t3 k1 k2 k3 hth h1 h2 h3 heq ht
  · exact ZerosLaw_bad g Ab Ad Ah Ai cb cd ch ci h l w hg hh hi A1 A2 A3 c1 c2 c3 t1 t2 t3 k1 k2 k3 hth h1 h2 h3 heq
end Go.Proofs.Ytlgmeofpkfliaaa
end

section
namespace Go.Proofs.Ytlgmeofpkfliaaa.glassZeros
open Go.ChangeShapes Go.WideShapes Go.ChangeAt Go.RowKit
set_option linter.unusedVariables false

set_option maxRecDepth 100000 in
theorem lifted (os : Os) (started : os.Started) (H : Type) (enc : TypeId × Value → H) :
    ReturnsInHanded {} Try.checked os 14 .any (Rows.glassZerosSpec.pre6 enc Try.prog Try.f14 Rows.glassZerosRow.domain false) (Rows.glassZerosSpec.post enc Try.prog Try.f14 false true false false) := by
  refine returnsInHanded_of_change (C := Try.checked) own started (by kernel_rfl) Try.func14
    (ChangeSpec.witness6 (enc := enc) (C := Try.checked) false ⟨#[], #[.agg #[.int .i64 0, .slice none 0 0, .slice none 0 0, .int .i64 0, .int .i64 0], .slice none 0 0, .slice none 0 0, .agg #[.slice none 0 0, .slice none 0 0, .slice none 0 0]], []⟩ 8 (by kernel_rfl) (by kernel_rfl) (by kernel_rfl) (by kernel_rfl)) ?_
  intro W base args ds gs before hval0 hW hcnd _
  have hval : ∀ (j : Nat) t v, Try.f14.params[j]? = some t → args[j]? = some v → Value.okWide Try.prog W .any base t v := hval0
  have hW0 := hW
  obtain ⟨p, q, hA0, hV, rfl, hfz, hnd⟩ := hW
  have hA : DataW.TrodAll enc Try.prog W 0 (fun _ => true) true Try.f14.params.toList args.toList ds p := hA0
  rw [Try.params14] at hA hval
  obtain ⟨v0, vs0, d0, ds0, p0, q0, ea0, ed0, ep0, h0, hA0⟩ := trodAll_cons hA
  obtain ⟨v1, vs1, d1, ds1, p1, q1, ea1, ed1, ep1, h1, hA1⟩ := trodAll_cons hA0
  obtain ⟨v2, vs2, d2, ds2, p2, q2, ea2, ed2, ep2, h2, hA2⟩ := trodAll_cons hA1
  obtain ⟨v3, vs3, d3, ds3, p3, q3, ea3, ed3, ep3, h3, hA3⟩ := trodAll_cons hA2
  obtain ⟨ea, ed, ep⟩ := trodAll_nil hA3
  have eargs : args = #[v0, v1, v2, v3] := by rw [← Array.toArray_toList (xs := args), ea0, ea1, ea2, ea3, ea]
  have eds : ds = [d0, d1, d2, d3] := by rw [ed0, ed1, ed2, ed3, ed]
  subst eargs eds
  obtain ⟨rfl, rfl⟩ := trodVars_none hV
  obtain ⟨g, Ab, Ad, cb, cd, rfl, _, hg⟩ := open_glass (hval 0 _ _ rfl rfl) h0
  obtain ⟨Ah, h, ch, rfl, _, _, hh⟩ := open_rgs (hval 1 _ _ rfl rfl) h1
  obtain ⟨Ai, l, ci, rfl, hci1, hci2, hi⟩ := open_ics (hval 2 _ _ rfl rfl) h2
  obtain ⟨t1, t2, t3, A1, A2, A3, c1, c2, c3, rfl, _, k1, k2, k3⟩ := open_truth (hval 3 _ _ rfl rfl) h3
  refine (ZerosLaw_any g Ab Ad Ah Ai cb cd ch ci h l W hg hh hi A1 A2 A3 c1 c2 c3 t1 t2 t3 k1 k2 k3).mono fun e W' he => ?_
  obtain ⟨rfl, hb⟩ := he
  exact ⟨_, rfl, post_law rfl hW0 rfl rfl ⟨⟨by kernel_rfl, of_decide_eq_true (by kernel_rfl)⟩, ⟨by kernel_rfl, of_decide_eq_true (by kernel_rfl)⟩, ⟨by kernel_rfl, of_decide_eq_true (by kernel_rfl)⟩, ⟨by kernel_rfl, of_decide_eq_true (by kernel_rfl)⟩, trivial⟩ hb⟩

theorem over : Rows.glassZerosRow.holds Try.pinned (OpenSpec.ofChange Rows.glassZerosSpec) :=
  OpenClaim.holds_of_wide 14 Try.f14 rfl rfl rfl rfl rfl rfl rfl ⟨rfl, rfl, rfl, rfl, rfl⟩ rfl rfl rfl rfl rfl (by kernel_rfl) Try.func14 (by kernel_rfl)
    (of_decide_eq_true (by kernel_rfl)) (by unfold Func.isWrapper; first | (rw [if_pos (by decide +kernel)]; kernel_rfl) | (rw [if_neg (by decide +kernel)]; exact ⟨rfl, rfl⟩))
    (fun os started H enc _ => lifted os started H enc)

/-- the statement. -/
theorem proved : Rows.GlassZerosSaid :=
  over
#print axioms proved
end Go.Proofs.Ytlgmeofpkfliaaa.glassZeros
end
