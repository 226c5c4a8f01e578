/- The example of GlassNames: what each call tells. · The law GlassNames (walk): the example. · The row GlassNames: the chapter's examples, and the errors. -/
import Derived.WalkKit
import Derived.ProofKit
import Derived.OpenShut
import Derived.Test.YtlgmeofpkfliaaaGf
import Derived.Test.YtlgmeofpkfliaaaGj
import Derived.Test.YtlgmeofpkfliaaaGg
import Derived.Test.YtlgmeofpkfliaaaGMemory
import Derived.Test.YtlgmeofpkfliaaaRows
import Derived.Test.YtlgmeofpkfliaaaGi
set_option linter.unusedVariables false
set_option linter.unusedSimpArgs false
set_option linter.unusedSectionVars false
section
namespace Go.Proofs.Ytlgmeofpkfliaaa
open Go.RowKit
attribute [local go_sem] Ex.cell? Ex.frozen?

set_option maxRecDepth 100000 in
set_option maxHeartbeats 3200000 in
theorem tube_blk (w : World) : Calls Try.prog 51 #[] w fun e w' => ∃ p q, e = .returned (.agg #[.int .i64 0, .slice (some ⟨p, 0, none⟩) 2 2, .slice (some ⟨q, 0, none⟩) 2 2, .int .i64 2, .int .i64 4]) ∧ w.heap.size ≤ p ∧ w.heap.size ≤ q ∧ p ≠ q ∧ Blk w' p 97 #[.int .i64 0, .int .i64 1, .int .i64 2, .int .i64 3, .int .i64 0, .int .i64 1] ∧ Blk w' q 99 #[.int .i64 100, .int .i64 10, .int .i64 300, .int .i64 25] ∧ Below w.heap.size w w' := by
  go_enter Try.func51, Try.ntmps51
  go_wp2_with fail
  refine (between_any _ _ _).mono ?_
  rintro e w1 ⟨rfl, hb1⟩
  go_wp2_with fail
  refine (between_any _ _ _).mono ?_
  rintro e w2 ⟨rfl, hb2⟩
  have q0 : Blk (w.alloc (.cells #[.int .i64 0, .slice none 0 0, .slice none 0 0, .int .i64 0, .int .i64 0] 39)) w.heap.size 39 #[.int .i64 0, .slice none 0 0, .slice none 0 0, .int .i64 0, .int .i64 0] := Blk.new _ _ _
  have q2 := ((q0.below hb1 q0.lt).below hb2 (q0.below hb1 q0.lt).lt)
  have qb : Blk ((w2.alloc (.cells #[.int .i64 0, .int .i64 1, .int .i64 2, .int .i64 3, .int .i64 0, .int .i64 1] 97)).alloc (.cells #[.int .i64 100, .int .i64 10, .int .i64 300, .int .i64 25] 99)) w2.heap.size 97 #[.int .i64 0, .int .i64 1, .int .i64 2, .int .i64 3, .int .i64 0, .int .i64 1] := (Blk.new _ _ _).alloc _
  have qd : Blk ((w2.alloc (.cells #[.int .i64 0, .int .i64 1, .int .i64 2, .int .i64 3, .int .i64 0, .int .i64 1] 97)).alloc (.cells #[.int .i64 100, .int .i64 10, .int .i64 300, .int .i64 25] 99)) (w2.heap.size + 1) 99 #[.int .i64 100, .int .i64 10, .int .i64 300, .int .i64 25] := Blk.new' _ _ _ (by simp)
  have q3 := (q2.alloc (.cells #[.int .i64 0, .int .i64 1, .int .i64 2, .int .i64 3, .int .i64 0, .int .i64 1] 97)).alloc (.cells #[.int .i64 100, .int .i64 10, .int .i64 300, .int .i64 25] 99)
  go_wp2_with fail
  refine (between_any _ _ _).mono ?_
  rintro e w3 ⟨rfl, hb3⟩
  have r0 := q3.below hb3 q3.lt
  have rb := qb.below hb3 qb.lt
  have rd := qd.below hb3 qd.lt
  have a0 := r0.cell 0
  have a1 := r0.cell 1
  have a2 := r0.cell 2
  have a3 := r0.cell 3
  have a4 := r0.cell 4
  have f0 := r0.frozen 0
  have f1 := r0.frozen 1
  have f2 := r0.frozen 2
  have f3 := r0.frozen 3
  have f4 := r0.frozen 4
  have l0 := r0.lt
  simp at a0 a1 a2 a3 a4
  have hn1 : w2.heap.size ≠ w.heap.size := by have := q2.lt; omega
  have hn2 : w2.heap.size + 1 ≠ w.heap.size := by have := q2.lt; omega
  have hf : Fr (fun b => b = w.heap.size) w3 (((((w3.setCell ⟨w.heap.size, 0, none⟩ (.int .i64 0)).setCell ⟨w.heap.size, 1, none⟩ (.slice (some ⟨w2.heap.size, 0, none⟩) 2 2)).setCell ⟨w.heap.size, 2, none⟩ (.slice (some ⟨w2.heap.size + 1, 0, none⟩) 2 2)).setCell ⟨w.heap.size, 3, none⟩ (.int .i64 2)).setCell ⟨w.heap.size, 4, none⟩ (.int .i64 4)) :=
    (((((Fr.refl (fun b => b = w.heap.size) w3).andSet rfl).andSet rfl).andSet rfl).andSet rfl).andSet rfl
  have hB : Below w.heap.size w w3 := ex_trans (ex_alloc (ex_alloc (ex_trans (ex_trans (ex_alloc (Below.refl _ _) _) hb1) hb2) _) _) hb3
  have r5 := ((((r0.set_ 0 (.int .i64 0)).set_ 1 (.slice (some ⟨w2.heap.size, 0, none⟩) 2 2)).set_ 2 (.slice (some ⟨w2.heap.size + 1, 0, none⟩) 2 2)).set_ 3 (.int .i64 2)).set_ 4 (.int .i64 4)
  simp only [List.setIfInBounds_toArray, List.set_cons_zero, List.set_cons_succ] at r5
  go_wp2
  have sb := rb.fr hf hn1
  have sd := rd.fr hf hn2
  refine bodyPost_ret (results_cell_row rfl _ _ w.heap.size 39 #[.int .i64 0, .slice (some ⟨w2.heap.size, 0, none⟩) 2 2, .slice (some ⟨w2.heap.size + 1, 0, none⟩) 2 2, .int .i64 2, .int .i64 4] (0, 0) _ rfl r5 rfl rfl rfl) rfl ?_
  exact ⟨w2.heap.size, w2.heap.size + 1, rfl, by have := hb1.size; have := hb2.size; simp at *; omega, by have := hb1.size; have := hb2.size; simp at *; omega, by omega, sb, sd, hf.toBelow hB hB.size (fun x hx => by rw [hx]; exact Nat.le_refl _)⟩

/-- a glass of two bands and two depths, of blocks known whole. -/
theorem glIn_blk {w : World} {p q : Nat} {a0 a1 a2 a3 a4 a5 d0 d1 d2 d3 : Int} (b lo hi : Int) (hb : Blk w p 97 #[.int .i64 a0, .int .i64 a1, .int .i64 a2, .int .i64 a3, .int .i64 a4, .int .i64 a5]) (hd : Blk w q 99 #[.int .i64 d0, .int .i64 d1, .int .i64 d2, .int .i64 d3]) :
    GlIn w w.heap.size ⟨b, [⟨a0, a1, a2⟩, ⟨a3, a4, a5⟩], [⟨d0, d1⟩, ⟨d2, d3⟩], lo, hi⟩ (some ⟨p, 0, none⟩) (some ⟨q, 0, none⟩) := by
  refine ⟨fun _ => ⟨p, 0, rfl, hb.lt, fun k j hk hj => ?_⟩, fun _ => ⟨q, 0, rfl, hd.lt, fun k j hk hj => ?_⟩⟩
  · rw [hb.cell]
    have hk' : k < 2 := hk
    match k, hk', j, hj with
    | 0, _, 0, _ => rfl
    | 0, _, 1, _ => rfl
    | 0, _, 2, _ => rfl
    | 1, _, 0, _ => rfl
    | 1, _, 1, _ => rfl
    | 1, _, 2, _ => rfl
  · rw [hd.cell]
    have hk' : k < 2 := hk
    match k, hk', j, hj with
    | 0, _, 0, _ => rfl
    | 0, _, 1, _ => rfl
    | 1, _, 0, _ => rfl
    | 1, _, 1, _ => rfl
/-- four numbers of a block known whole. -/
theorem ints4 {w : World} {p : Nat} {a b c d : Int} (h : Blk w p 3 #[.int .i64 a, .int .i64 b, .int .i64 c, .int .i64 d]) : SlAt w w.heap.size 1 (some ⟨p, 0, none⟩) 4 (fI [a, b, c, d]) := fun _ => ⟨p, 0, rfl, h.lt, fun k j hk hj => by
  rw [h.cell]
  obtain rfl : j = 0 := by omega
  match k, hk with
  | 0, _ => rfl
  | 1, _ => rfl
  | 2, _ => rfl
  | 3, _ => rfl⟩
theorem ice1 {w : World} {p : Nat} {a b c : Int} (h : Blk w p 95 #[.int .i64 a, .int .i64 b, .int .i64 c]) : SlAt w w.heap.size 3 (some ⟨p, 0, none⟩) 1 (fC [⟨a, b, c⟩]) := fun _ => ⟨p, 0, rfl, h.lt, fun k j hk hj => by
  rw [h.cell]
  obtain rfl : k = 0 := by omega
  match j, hj with
  | 0, _ => rfl
  | 1, _ => rfl
  | 2, _ => rfl⟩

theorem pt1 : truthB tubeG springH [0, 150, 0, 320] [1, 2, 2, 0] [2, 2, 3, 4] = true := by decide +kernel
theorem pt2 : truthB tubeG springH [0, 150, 0, 320] [1, 2, 2, 2] [2, 2, 3, 4] = false := by decide +kernel
theorem lv0 : lived tubeG springH = 0 := by decide +kernel
theorem pl1 : playTo tubeG [0, 150, 0, 320] [1, 2, 2, 0] [2, 2, 3, 4] springH.length = [1, -7, -2, -20] := by decide +kernel
theorem N_play (Ab Ad Ah Ai A1 A2 A3 : Option Addr) (w : World) (hg : GlIn w w.heap.size tubeG Ab Ad) (hh : SlAt w w.heap.size 2 Ah springH.length (fR springH)) (k1 : SlAt w w.heap.size 1 A1 4 (fI [0, 150, 0, 320])) (k2 : SlAt w w.heap.size 1 A2 4 (fI [1, 2, 2, 0])) (k3 : SlAt w w.heap.size 1 A3 4 (fI [2, 2, 3, 4])) :
    Calls Try.prog 41 #[.agg #[.int .i64 0, .slice Ab 2 2, .slice Ad 2 2, .int .i64 2, .int .i64 4], .slice Ah 4 4, .agg #[.slice A1 4 4, .slice A2 4 4, .slice A3 4 4]] w fun e w' => (∃ A c, e = .returned (.tuple #[.slice A 4 c, .int .i64 0]) ∧ SlAt w' w'.heap.size 1 A 4 (fI [1, -7, -2, -20])) ∧ Below w.heap.size w w' := by
  refine (Play_ok tubeG Ab Ad Ah A1 A2 A3 2 2 4 4 4 4 springH [0, 150, 0, 320] [1, 2, 2, 0] [2, 2, 3, 4] w hg hh k1 k2 k3 lv0 pt1).mono ?_
  rintro e w' ⟨⟨v, rfl, hv⟩, hb⟩
  rw [pl1] at hv
  obtain ⟨A, c, rfl, _, hs⟩ := own_sl hv
  exact ⟨⟨A, c, rfl, hs⟩, hb⟩
theorem N_play2 (Ab Ad Ah Ai A1 A2 A3 : Option Addr) (w : World) (hg : GlIn w w.heap.size tubeG Ab Ad) (hh : SlAt w w.heap.size 2 Ah springH.length (fR springH)) (k1 : SlAt w w.heap.size 1 A1 4 (fI [0, 150, 0, 320])) (k2 : SlAt w w.heap.size 1 A2 4 (fI [1, 2, 2, 2])) (k3 : SlAt w w.heap.size 1 A3 4 (fI [2, 2, 3, 4])) :
    Calls Try.prog 41 #[.agg #[.int .i64 0, .slice Ab 2 2, .slice Ad 2 2, .int .i64 2, .int .i64 4], .slice Ah 4 4, .agg #[.slice A1 4 4, .slice A2 4 4, .slice A3 4 4]] w fun e w' => e = .returned (.tuple #[.slice none 0 0, .int .i64 2]) ∧ Below w.heap.size w w' :=
  Play_nt tubeG Ab Ad Ah A1 A2 A3 2 2 4 4 4 4 springH [0, 150, 0, 320] [1, 2, 2, 2] [2, 2, 3, 4] w hg hh k1 k2 k3 lv0 pt2
theorem N_zeros0 (Ab Ad Ah Ai A1 A2 A3 : Option Addr) (w : World) (hg : GlIn w w.heap.size tubeG Ab Ad) (hh : SlAt w w.heap.size 2 Ah springH.length (fR springH)) :
    Calls Try.prog 31 #[.agg #[.int .i64 0, .slice Ab 2 2, .slice Ad 2 2, .int .i64 2, .int .i64 4], .slice Ah 4 4, .slice none 0 0] w fun e w' => (∃ A, e = .returned (.tuple #[.slice A 4 4, .int .i64 0]) ∧ SlAt w' w'.heap.size 2 A 4 (fR [⟨1, 2⟩, ⟨-8, -6⟩, ⟨-5, 0⟩, ⟨-22, 5⟩])) ∧ Below w.heap.size w w' := by
  refine (Zeros_ok tubeG Ab Ad Ah none 2 2 4 0 springH [] w hg hh (fun h => absurd h (by simp)) iced0).mono ?_
  rintro e w' ⟨⟨hno, rfl⟩ | ⟨_, A, zs, rfl, hz, hs⟩, hb⟩
  · exact absurd can0 hno
  · obtain rfl := hz.uniq zs0
    exact ⟨⟨A, rfl, hs⟩, hb⟩
theorem bl1 : agreeC tubeG springH threeC off0 = false := by decide +kernel
theorem bl2 : (pickL (agreeC tubeG springH threeC) 1 threeC.length [] off0 0).length ≠ 1 := by decide +kernel
theorem N_blame (Ab Ad Ah Ai A1 A2 A3 : Option Addr) (w : World) (hg : GlIn w w.heap.size tubeG Ab Ad) (hh : SlAt w w.heap.size 2 Ah springH.length (fR springH)) (hi : SlAt w w.heap.size 3 Ai threeC.length (fC threeC)) :
    Calls Try.prog 36 #[.agg #[.int .i64 0, .slice Ab 2 2, .slice Ad 2 2, .int .i64 2, .int .i64 4], .slice Ah 4 4, .slice Ai 3 3] w fun e w' => e = .returned (.tuple #[.int .i64 0, .int .i64 7]) ∧ Below w.heap.size w w' := by
  refine (Blame_good tubeG Ab Ad Ah Ai 2 2 4 3 springH threeC w hg hh hi iced3).mono ?_
  rintro e w' ⟨⟨_, rfl⟩ | ⟨_, x, hx, _⟩, hb⟩
  · exact ⟨rfl, hb⟩
  · exfalso
    have e : agreeB tubeG springH threeC = agreeC tubeG springH threeC := funext fun o => agreeB_eq _ _ _ o
    unfold listsL at hx
    rw [e] at hx
    exact bl2 (by rw [hx]; rfl)
theorem pv1 : proveB tubeG springH [⟨3, -19, 1⟩] [0, 150, 0, 320] [1, 2, 2, 0] [2, 2, 3, 4] = true := by decide +kernel
theorem pv2 : proveB tubeG springH [⟨3, -18, 1⟩] [0, 150, 0, 320] [1, 2, 2, 0] [2, 2, 3, 4] = false := by decide +kernel
theorem N_prove1 (Ab Ad Ah Ai A1 A2 A3 : Option Addr) (w : World) (hg : GlIn w w.heap.size tubeG Ab Ad) (hh : SlAt w w.heap.size 2 Ah springH.length (fR springH)) (hi : SlAt w w.heap.size 3 Ai 1 (fC [⟨3, -19, 1⟩])) (k1 : SlAt w w.heap.size 1 A1 4 (fI [0, 150, 0, 320])) (k2 : SlAt w w.heap.size 1 A2 4 (fI [1, 2, 2, 0])) (k3 : SlAt w w.heap.size 1 A3 4 (fI [2, 2, 3, 4])) :
    Calls Try.prog 48 #[.agg #[.int .i64 0, .slice Ab 2 2, .slice Ad 2 2, .int .i64 2, .int .i64 4], .slice Ah 4 4, .slice Ai 1 1, .agg #[.slice A1 4 4, .slice A2 4 4, .slice A3 4 4]] w fun e w' => e = .returned (.bool true) ∧ Below w.heap.size w w' := by
  have := Prove_any tubeG Ab Ad Ah Ai 2 2 4 1 springH [⟨3, -19, 1⟩] w hg hh hi A1 A2 A3 4 4 4 [0, 150, 0, 320] [1, 2, 2, 0] [2, 2, 3, 4] k1 k2 k3
  rw [pv1] at this
  exact this
theorem N_prove2 (Ab Ad Ah Ai A1 A2 A3 : Option Addr) (w : World) (hg : GlIn w w.heap.size tubeG Ab Ad) (hh : SlAt w w.heap.size 2 Ah springH.length (fR springH)) (hi : SlAt w w.heap.size 3 Ai 1 (fC [⟨3, -18, 1⟩])) (k1 : SlAt w w.heap.size 1 A1 4 (fI [0, 150, 0, 320])) (k2 : SlAt w w.heap.size 1 A2 4 (fI [1, 2, 2, 0])) (k3 : SlAt w w.heap.size 1 A3 4 (fI [2, 2, 3, 4])) :
    Calls Try.prog 48 #[.agg #[.int .i64 0, .slice Ab 2 2, .slice Ad 2 2, .int .i64 2, .int .i64 4], .slice Ah 4 4, .slice Ai 1 1, .agg #[.slice A1 4 4, .slice A2 4 4, .slice A3 4 4]] w fun e w' => e = .returned (.bool false) ∧ Below w.heap.size w w' := by
  have := Prove_any tubeG Ab Ad Ah Ai 2 2 4 1 springH [⟨3, -18, 1⟩] w hg hh hi A1 A2 A3 4 4 4 [0, 150, 0, 320] [1, 2, 2, 0] [2, 2, 3, 4] k1 k2 k3
  rw [pv2] at this
  exact this
theorem can3 : ¬ ∃ s, Can tubeG springH threeC off0 springH.length s := fun h => by
  have h1 := agreeB_iff.2 h
  rw [agreeB_eq, bl1] at h1; cases h1
theorem N_zeros3 (Ab Ad Ah Ai A1 A2 A3 : Option Addr) (w : World) (hg : GlIn w w.heap.size tubeG Ab Ad) (hh : SlAt w w.heap.size 2 Ah springH.length (fR springH)) (hi : SlAt w w.heap.size 3 Ai threeC.length (fC threeC)) :
    Calls Try.prog 31 #[.agg #[.int .i64 0, .slice Ab 2 2, .slice Ad 2 2, .int .i64 2, .int .i64 4], .slice Ah 4 4, .slice Ai 3 3] w fun e w' => e = .returned (.tuple #[.slice none 0 0, .int .i64 9]) ∧ Below w.heap.size w w' := by
  refine (Zeros_ok tubeG Ab Ad Ah Ai 2 2 4 3 springH threeC w hg hh hi iced3).mono ?_
  rintro e w' ⟨⟨_, rfl⟩ | ⟨hyes, _⟩, hb⟩
  · exact ⟨rfl, hb⟩
  · exact absurd hyes can3
theorem iced2' : iced tubeG springH (threeC.take 2) = 0 := by decide +kernel
theorem ag21 : agreeC tubeG springH ((threeC.take 2).take 1) off0 = true := by decide +kernel
theorem ag22 : agreeC tubeG springH ((threeC.take 2).take 2) off0 = true := by decide +kernel
theorem N_shows2 (Ab Ad Ah Ai A1 A2 A3 : Option Addr) (w : World) (hg : GlIn w w.heap.size tubeG Ab Ad) (hh : SlAt w w.heap.size 2 Ah springH.length (fR springH)) (hi : SlAt w w.heap.size 3 Ai threeC.length (fC threeC)) :
    Calls Try.prog 19 #[.agg #[.int .i64 0, .slice Ab 2 2, .slice Ad 2 2, .int .i64 2, .int .i64 4], .slice Ah 4 4, .slice Ai 2 3] w fun e w' => e = .returned (.tuple #[.int .i64 0, .int .i64 7]) ∧ Below w.heap.size w w' := by
  refine (Shows_good tubeG Ab Ad Ah Ai 2 2 4 3 springH (threeC.take 2) w hg hh (hi.take (by decide)) (by decide) (by decide) iced2').mono ?_
  rintro e w' ⟨⟨k, hk, _, h2, _⟩ | ⟨_, rfl⟩, hb⟩
  · exfalso
    have hk' : k < 2 := hk
    have h3 : agreeB tubeG springH ((threeC.take 2).take (k + 1)) off0 = false := h2
    rw [agreeB_eq] at h3
    rcases (show k = 0 ∨ k = 1 by omega) with rfl | rfl
    · exact absurd (ag21.symm.trans h3) (by simp)
    · exact absurd (ag22.symm.trans h3) (by simp)
  · exact ⟨rfl, hb⟩
theorem N_zerosE (Ab Ad Ah Ai A1 A2 A3 : Option Addr) (w : World) (hg : GlIn w w.heap.size tubeG Ab Ad) :
    Calls Try.prog 31 #[.agg #[.int .i64 0, .slice Ab 2 2, .slice Ad 2 2, .int .i64 2, .int .i64 4], .slice none 0 0, .slice none 0 0] w fun e w' => e = .returned (.tuple #[.slice none 0 0, .int .i64 2]) ∧ Below w.heap.size w w' :=
  Zeros_bad tubeG Ab Ad none none 2 2 0 0 [] [] w hg (fun h => absurd h (by simp)) (fun h => absurd h (by simp)) (by decide +kernel)
theorem N_zeros17 (Ab Ad Ah Ai A1 A2 A3 : Option Addr) (w : World) (hg : GlIn w w.heap.size tubeG Ab Ad) (hh : SlAt w w.heap.size 2 Ah 17 (fR (List.replicate 17 ⟨0, 0⟩))) :
    Calls Try.prog 31 #[.agg #[.int .i64 0, .slice Ab 2 2, .slice Ad 2 2, .int .i64 2, .int .i64 4], .slice Ah 17 17, .slice none 0 0] w fun e w' => e = .returned (.tuple #[.slice none 0 0, .int .i64 3]) ∧ Below w.heap.size w w' :=
  Zeros_bad tubeG Ab Ad Ah none 2 2 17 0 (List.replicate 17 ⟨0, 0⟩) [] w hg hh (fun h => absurd h (by simp)) (by decide +kernel)
theorem N_zeros4 (Ab Ad Ah Ai A1 A2 A3 : Option Addr) (w : World) (hg : GlIn w w.heap.size tubeG Ab Ad) (hh : SlAt w w.heap.size 2 Ah springH.length (fR springH)) (hi : SlAt w w.heap.size 3 Ai 1 (fC [⟨4, 0, 0⟩])) :
    Calls Try.prog 31 #[.agg #[.int .i64 0, .slice Ab 2 2, .slice Ad 2 2, .int .i64 2, .int .i64 4], .slice Ah 4 4, .slice Ai 1 1] w fun e w' => e = .returned (.tuple #[.slice none 0 0, .int .i64 2]) ∧ Below w.heap.size w w' :=
  Zeros_bad tubeG Ab Ad Ah Ai 2 2 4 1 springH [⟨4, 0, 0⟩] w hg hh hi (by decide +kernel)
theorem N_holdsA (Ab Ad Ah Ai A1 A2 A3 : Option Addr) (w : World) (hg : GlIn w w.heap.size tubeG Ab Ad) (hh : SlAt w w.heap.size 2 Ah springH.length (fR springH)) :
    Calls Try.prog 25 #[.agg #[.int .i64 0, .slice Ab 2 2, .slice Ad 2 2, .int .i64 2, .int .i64 4], .slice Ah 4 4, .slice none 0 0, .int .i64 5, .int .i64 4] w fun e w' => e = .returned (.tuple #[.int .i64 0, .int .i64 2]) ∧ Below w.heap.size w w' := by
  refine (Holds_good tubeG Ab Ad Ah none 2 2 4 0 springH [] w hg hh (fun h => absurd h (by simp)) 5 4 iced0).mono ?_
  rintro e w' ⟨⟨_, rfl⟩ | ⟨h1, _⟩ | ⟨h1, _⟩, hb⟩
  · exact ⟨rfl, hb⟩
  · omega
  · omega
theorem N_holdsB (Ab Ad Ah Ai A1 A2 A3 : Option Addr) (w : World) (hg : GlIn w w.heap.size tubeG Ab Ad) (hh : SlAt w w.heap.size 2 Ah springH.length (fR springH)) :
    Calls Try.prog 25 #[.agg #[.int .i64 0, .slice Ab 2 2, .slice Ad 2 2, .int .i64 2, .int .i64 4], .slice Ah 4 4, .slice none 0 0, .int .i64 2, .int .i64 9] w fun e w' => e = .returned (.tuple #[.int .i64 0, .int .i64 10]) ∧ Below w.heap.size w w' := by
  refine (Holds_good tubeG Ab Ad Ah none 2 2 4 0 springH [] w hg hh (fun h => absurd h (by simp)) 2 9 iced0).mono ?_
  rintro e w' ⟨⟨h1, _⟩ | ⟨_, h1, _⟩ | ⟨_, _, zs, hz, hh'⟩, hb⟩
  · omega
  · exact absurd can0 h1
  · obtain rfl := hz.uniq zs0
    obtain ⟨d, _, h2, _, ⟨_, rfl⟩ | ⟨h4, _⟩⟩ := hh'
    · exact ⟨rfl, hb⟩
    · have := h2 0 h4
      exact absurd this (by decide)
theorem N_holdsC (Ab Ad Ah Ai A1 A2 A3 : Option Addr) (w : World) (hg : GlIn w w.heap.size tubeG Ab Ad) (hh : SlAt w w.heap.size 2 Ah springH.length (fR springH)) (hi : SlAt w w.heap.size 3 Ai threeC.length (fC threeC)) :
    Calls Try.prog 25 #[.agg #[.int .i64 0, .slice Ab 2 2, .slice Ad 2 2, .int .i64 2, .int .i64 4], .slice Ah 4 4, .slice Ai 3 3, .int .i64 (-99), .int .i64 99] w fun e w' => e = .returned (.tuple #[.int .i64 0, .int .i64 9]) ∧ Below w.heap.size w w' := by
  refine (Holds_good tubeG Ab Ad Ah Ai 2 2 4 3 springH threeC w hg hh hi (-99) 99 iced3).mono ?_
  rintro e w' ⟨⟨h1, _⟩ | ⟨_, _, rfl⟩ | ⟨_, h1, _⟩, hb⟩
  · omega
  · exact ⟨rfl, hb⟩
  · exact absurd h1 can3
end Go.Proofs.Ytlgmeofpkfliaaa
end

section
namespace Go.Proofs.Ytlgmeofpkfliaaa
open Go.RowKit
attribute [local go_sem] Ex.cell? Ex.frozen? Gx.cell?

set_option maxRecDepth 100000 in
def NQ (w V : World) (e : Exit) (a' : Act) (W' : World) : Prop :=
  e = .normal ∧ Below V.heap.size V W' ∧ ∃ u : Nat → Value, a' = ⟨List.toArray (u 0 :: .pointer (some ⟨w.heap.size + 1 + 1 + 1, 0, none⟩) :: u 2 :: u 3 :: u 4 :: u 5 :: u 6 :: u 7 :: u 8 :: u 9 :: u 10 :: u 11 :: u 12 :: u 13 :: u 14 :: u 15 :: u 16 :: u 17 :: u 18 :: u 19 :: u 20 :: u 21 :: u 22 :: u 23 :: u 24 :: u 25 :: u 26 :: u 27 :: u 28 :: u 29 :: u 30 :: u 31 :: u 32 :: u 33 :: u 34 :: u 35 :: u 36 :: u 37 :: u 38 :: u 39 :: u 40 :: u 41 :: u 42 :: u 43 :: u 44 :: u 45 :: u 46 :: u 47 :: u 48 :: u 49 :: u 50 :: u 51 :: u 52 :: u 53 :: u 54 :: u 55 :: u 56 :: u 57 :: u 58 :: u 59 :: u 60 :: u 61 :: u 62 :: u 63 :: u 64 :: u 65 :: u 66 :: u 67 :: u 68 :: u 69 :: u 70 :: u 71 :: u 72 :: u 73 :: u 74 :: u 75 :: u 76 :: u 77 :: u 78 :: u 79 :: u 80 :: u 81 :: u 82 :: u 83 :: u 84 :: u 85 :: u 86 :: u 87 :: u 88 :: u 89 :: u 90 :: u 91 :: u 92 :: u 93 :: u 94 :: u 95 :: u 96 :: u 97 :: u 98 :: .bool false :: u 100 :: u 101 :: u 102 :: u 103 :: u 104 :: u 105 :: u 106 :: u 107 :: u 108 :: u 109 :: u 110 :: u 111 :: u 112 :: u 113 :: u 114 :: u 115 :: u 116 :: u 117 :: u 118 :: u 119 :: u 120 :: u 121 :: u 122 :: u 123 :: u 124 :: u 125 :: u 126 :: u 127 :: u 128 :: u 129 :: u 130 :: u 131 :: u 132 :: u 133 :: u 134 :: u 135 :: u 136 :: u 137 :: u 138 :: u 139 :: u 140 :: u 141 :: u 142 :: u 143 :: u 144 :: u 145 :: u 146 :: u 147 :: u 148 :: u 149 :: u 150 :: u 151 :: u 152 :: u 153 :: u 154 :: u 155 :: u 156 :: u 157 :: u 158 :: u 159 :: u 160 :: u 161 :: u 162 :: u 163 :: u 164 :: u 165 :: u 166 :: u 167 :: u 168 :: u 169 :: u 170 :: u 171 :: u 172 :: u 173 :: u 174 :: u 175 :: u 176 :: u 177 :: u 178 :: u 179 :: u 180 :: u 181 :: u 182 :: u 183 :: u 184 :: u 185 :: u 186 :: u 187 :: u 188 :: u 189 :: u 190 :: u 191 :: u 192 :: u 193 :: u 194 :: u 195 :: u 196 :: u 197 :: u 198 :: u 199 :: u 200 :: u 201 :: u 202 :: u 203 :: u 204 :: u 205 :: u 206 :: u 207 :: u 208 :: u 209 :: u 210 :: u 211 :: u 212 :: u 213 :: u 214 :: u 215 :: u 216 :: u 217 :: u 218 :: u 219 :: u 220 :: u 221 :: u 222 :: u 223 :: u 224 :: u 225 :: u 226 :: u 227 :: u 228 :: u 229 :: u 230 :: u 231 :: u 232 :: u 233 :: u 234 :: u 235 :: u 236 :: u 237 :: u 238 :: u 239 :: u 240 :: []), []⟩
set_option maxRecDepth 100000 in
def NQ2 (V : World) (e : Exit) (a' : Act) (W' : World) : Prop :=
  e = .normal ∧ Below V.heap.size V W' ∧ ∃ u : Nat → Value, a' = ⟨List.toArray (u 0 :: u 1 :: u 2 :: .int .i64 2 :: u 4 :: .int .i64 9 :: u 6 :: .int .i64 7 :: u 8 :: .int .i64 2 :: u 10 :: .int .i64 3 :: u 12 :: u 13 :: u 14 :: u 15 :: u 16 :: u 17 :: u 18 :: u 19 :: u 20 :: u 21 :: u 22 :: u 23 :: u 24 :: u 25 :: u 26 :: u 27 :: u 28 :: u 29 :: u 30 :: u 31 :: u 32 :: u 33 :: u 34 :: u 35 :: u 36 :: u 37 :: u 38 :: u 39 :: u 40 :: u 41 :: u 42 :: u 43 :: u 44 :: u 45 :: u 46 :: u 47 :: u 48 :: u 49 :: u 50 :: u 51 :: u 52 :: u 53 :: u 54 :: u 55 :: u 56 :: u 57 :: u 58 :: u 59 :: u 60 :: u 61 :: u 62 :: u 63 :: u 64 :: u 65 :: u 66 :: u 67 :: u 68 :: u 69 :: u 70 :: u 71 :: u 72 :: u 73 :: u 74 :: u 75 :: u 76 :: u 77 :: u 78 :: u 79 :: u 80 :: u 81 :: u 82 :: u 83 :: u 84 :: u 85 :: u 86 :: u 87 :: u 88 :: u 89 :: u 90 :: u 91 :: u 92 :: u 93 :: u 94 :: u 95 :: u 96 :: u 97 :: u 98 :: u 99 :: u 100 :: u 101 :: u 102 :: u 103 :: u 104 :: u 105 :: u 106 :: u 107 :: u 108 :: u 109 :: u 110 :: u 111 :: u 112 :: u 113 :: u 114 :: u 115 :: u 116 :: u 117 :: u 118 :: u 119 :: u 120 :: u 121 :: u 122 :: u 123 :: u 124 :: u 125 :: u 126 :: u 127 :: u 128 :: u 129 :: u 130 :: u 131 :: u 132 :: u 133 :: u 134 :: u 135 :: u 136 :: u 137 :: u 138 :: u 139 :: u 140 :: u 141 :: u 142 :: u 143 :: u 144 :: u 145 :: u 146 :: u 147 :: u 148 :: u 149 :: u 150 :: u 151 :: u 152 :: u 153 :: u 154 :: u 155 :: u 156 :: u 157 :: u 158 :: u 159 :: u 160 :: u 161 :: u 162 :: u 163 :: u 164 :: u 165 :: u 166 :: u 167 :: u 168 :: u 169 :: u 170 :: u 171 :: u 172 :: u 173 :: u 174 :: u 175 :: u 176 :: u 177 :: u 178 :: u 179 :: u 180 :: u 181 :: u 182 :: u 183 :: u 184 :: u 185 :: u 186 :: u 187 :: u 188 :: u 189 :: u 190 :: u 191 :: u 192 :: u 193 :: u 194 :: u 195 :: u 196 :: u 197 :: u 198 :: u 199 :: u 200 :: u 201 :: u 202 :: u 203 :: u 204 :: u 205 :: u 206 :: u 207 :: u 208 :: u 209 :: u 210 :: u 211 :: u 212 :: u 213 :: u 214 :: u 215 :: u 216 :: u 217 :: u 218 :: u 219 :: u 220 :: u 221 :: u 222 :: u 223 :: u 224 :: u 225 :: u 226 :: u 227 :: u 228 :: u 229 :: u 230 :: u 231 :: u 232 :: u 233 :: u 234 :: u 235 :: u 236 :: u 237 :: u 238 :: u 239 :: u 240 :: []), []⟩
theorem run_make17 : ∃ oc : Array Value, (∀ k, k < 34 → oc[k]? = some (.int .i64 0)) ∧ ∀ W : World, (Instr.makeSlice 41 (.int .i64 17) (.int .i64 17)).run Try.prog W = .ok (.slice (some ⟨W.heap.size, 0, none⟩) 17 17) (W.alloc (.cells oc 37)) := by
  obtain ⟨i0, hi0, hz0, hz1, hz2⟩ := info_parts range_info
  refine ⟨_, ?_, fun W => by
    have := run_makeSlice (P := Try.prog) (w := W) 41 37 i0 _ Try.underlying41 hi0 hz0 .i64 .i64 17 17 (by omega) (by omega) (by rw [hz1]; decide) (by rw [hz2]; decide) (by decide)
    rw [hz1] at this
    exact this⟩
  intro k hk
  have : k % 2 = 0 ∨ k % 2 = 1 := by omega
  simp only [madeCells]
  rcases this with h | h
  · simp [hk]
    show (#[Value.int .i64 0, .int .i64 0] : Array Value)[k % 2]! = _
    rw [h]; rfl
  · simp [hk]
    show (#[Value.int .i64 0, .int .i64 0] : Array Value)[k % 2]! = _
    rw [h]; rfl
theorem gR_rep {n k : Nat} (hk : k < n) : gR (List.replicate n ⟨0, 0⟩) k = ⟨0, 0⟩ := by simp [gR, hk]
theorem zer17 {oc : Array Value} (hoc : ∀ k, k < 34 → oc[k]? = some (.int .i64 0)) {w : World} {p : Nat} (h : Blk w p 37 oc) : SlAt w w.heap.size 2 (some ⟨p, 0, none⟩) 17 (fR (List.replicate 17 ⟨0, 0⟩)) := fun _ => ⟨p, 0, rfl, h.lt, fun k j hk hj => by
  rw [h.cell, hoc _ (by omega)]
  have e : gR (List.replicate 17 ⟨0, 0⟩) k = ⟨0, 0⟩ := gR_rep hk
  match j, hj with
  | 0, _ => show some (Value.int .i64 0) = some (Value.int .i64 (gR (List.replicate 17 ⟨0, 0⟩) k).lo); rw [e]
  | 1, _ => show some (Value.int .i64 0) = some (Value.int .i64 (gR (List.replicate 17 ⟨0, 0⟩) k).hi); rw [e]⟩
theorem run_make4 : ∃ oc : Array Value, (∀ k, k < 12 → oc[k]? = some (.int .i64 0)) ∧ ∀ W : World, (Instr.makeSlice 35 (.int .i64 4) (.int .i64 4)).run Try.prog W = .ok (.slice (some ⟨W.heap.size, 0, none⟩) 4 4) (W.alloc (.cells oc 97)) := by
  obtain ⟨i0, hi0, hz0, hz1, hz2⟩ := info_parts bdG_info
  refine ⟨_, ?_, fun W => by
    have := run_makeSlice (P := Try.prog) (w := W) 35 97 i0 _ Try.underlying35 hi0 hz0 .i64 .i64 4 4 (by omega) (by omega) (by rw [hz1]; decide) (by rw [hz2]; decide) (by decide)
    rw [hz1] at this
    exact this⟩
  intro k hk
  have : k % 3 = 0 ∨ k % 3 = 1 ∨ k % 3 = 2 := by omega
  simp only [madeCells]
  rcases this with h | h | h
  · simp [hk]
    show (#[Value.int .i64 0, .int .i64 0, .int .i64 0] : Array Value)[k % 3]! = _
    rw [h]; rfl
  · simp [hk]
    show (#[Value.int .i64 0, .int .i64 0, .int .i64 0] : Array Value)[k % 3]! = _
    rw [h]; rfl
  · simp [hk]
    show (#[Value.int .i64 0, .int .i64 0, .int .i64 0] : Array Value)[k % 3]! = _
    rw [h]; rfl
theorem zer4 {oc : Array Value} (hoc : ∀ k, k < 12 → oc[k]? = some (.int .i64 0)) {w : World} {p : Nat} (h : Blk w p 97 oc) : SlAt w w.heap.size 3 (some ⟨p, 0, none⟩) 4 (fB [⟨0, 0, 0⟩, ⟨0, 0, 0⟩, ⟨0, 0, 0⟩, ⟨0, 0, 0⟩]) := fun _ => ⟨p, 0, rfl, h.lt, fun k j hk hj => by
  rw [h.cell, hoc _ (by omega)]
  match k, hk, j, hj with
  | 0, _, 0, _ => rfl
  | 0, _, 1, _ => rfl
  | 0, _, 2, _ => rfl
  | 1, _, 0, _ => rfl
  | 1, _, 1, _ => rfl
  | 1, _, 2, _ => rfl
  | 2, _, 0, _ => rfl
  | 2, _, 1, _ => rfl
  | 2, _, 2, _ => rfl
  | 3, _, 0, _ => rfl
  | 3, _, 1, _ => rfl
  | 3, _, 2, _ => rfl⟩
theorem zints : intsB [1, -7, -2, -20] [1, -7, -2, -20] = true := by decide

set_option maxRecDepth 100000 in
set_option maxHeartbeats 6400000 in
theorem NamesLaw_any (w : World) : Calls Try.prog 16 #[] w fun e w' => e = .returned (.bool true) ∧ Below w.heap.size w w' := by
  have B0 := ex_alloc (ex_alloc (ex_alloc (ex_alloc (Below.refl w.heap.size w) (.cells #[.int .i64 0, .int .i64 150, .int .i64 0, .int .i64 320] 3)) (.cells #[.int .i64 1, .int .i64 2, .int .i64 2, .int .i64 0] 3)) (.cells #[.int .i64 2, .int .i64 2, .int .i64 3, .int .i64 4] 3)) (.cells #[.slice (some ⟨w.heap.size, 0, none⟩) 4 4, .slice (some ⟨w.heap.size + 1, 0, none⟩) 4 4, .slice (some ⟨w.heap.size + 1 + 1, 0, none⟩) 4 4] 79)
  have Qa : Blk ((((w.alloc (.cells #[.int .i64 0, .int .i64 150, .int .i64 0, .int .i64 320] 3)).alloc (.cells #[.int .i64 1, .int .i64 2, .int .i64 2, .int .i64 0] 3)).alloc (.cells #[.int .i64 2, .int .i64 2, .int .i64 3, .int .i64 4] 3)).alloc (.cells #[.slice (some ⟨w.heap.size, 0, none⟩) 4 4, .slice (some ⟨w.heap.size + 1, 0, none⟩) 4 4, .slice (some ⟨w.heap.size + 1 + 1, 0, none⟩) 4 4] 79)) w.heap.size 3 #[.int .i64 0, .int .i64 150, .int .i64 0, .int .i64 320] := (((Blk.new _ _ _).alloc _).alloc _).alloc _
  have Qb : Blk ((((w.alloc (.cells #[.int .i64 0, .int .i64 150, .int .i64 0, .int .i64 320] 3)).alloc (.cells #[.int .i64 1, .int .i64 2, .int .i64 2, .int .i64 0] 3)).alloc (.cells #[.int .i64 2, .int .i64 2, .int .i64 3, .int .i64 4] 3)).alloc (.cells #[.slice (some ⟨w.heap.size, 0, none⟩) 4 4, .slice (some ⟨w.heap.size + 1, 0, none⟩) 4 4, .slice (some ⟨w.heap.size + 1 + 1, 0, none⟩) 4 4] 79)) (w.heap.size + 1) 3 #[.int .i64 1, .int .i64 2, .int .i64 2, .int .i64 0] := ((Blk.new' _ _ _ (by simp)).alloc _).alloc _
  have Qc : Blk ((((w.alloc (.cells #[.int .i64 0, .int .i64 150, .int .i64 0, .int .i64 320] 3)).alloc (.cells #[.int .i64 1, .int .i64 2, .int .i64 2, .int .i64 0] 3)).alloc (.cells #[.int .i64 2, .int .i64 2, .int .i64 3, .int .i64 4] 3)).alloc (.cells #[.slice (some ⟨w.heap.size, 0, none⟩) 4 4, .slice (some ⟨w.heap.size + 1, 0, none⟩) 4 4, .slice (some ⟨w.heap.size + 1 + 1, 0, none⟩) 4 4] 79)) (w.heap.size + 1 + 1) 3 #[.int .i64 2, .int .i64 2, .int .i64 3, .int .i64 4] := (Blk.new' _ _ _ (by simp)).alloc _
  have Qt : Blk ((((w.alloc (.cells #[.int .i64 0, .int .i64 150, .int .i64 0, .int .i64 320] 3)).alloc (.cells #[.int .i64 1, .int .i64 2, .int .i64 2, .int .i64 0] 3)).alloc (.cells #[.int .i64 2, .int .i64 2, .int .i64 3, .int .i64 4] 3)).alloc (.cells #[.slice (some ⟨w.heap.size, 0, none⟩) 4 4, .slice (some ⟨w.heap.size + 1, 0, none⟩) 4 4, .slice (some ⟨w.heap.size + 1 + 1, 0, none⟩) 4 4] 79)) (w.heap.size + 1 + 1 + 1) 79 #[.slice (some ⟨w.heap.size, 0, none⟩) 4 4, .slice (some ⟨w.heap.size + 1, 0, none⟩) 4 4, .slice (some ⟨w.heap.size + 1 + 1, 0, none⟩) 4 4] := Blk.new' _ _ _ (by simp)
  go_enter Try.func16, Try.ntmps16
  go_wp2_with fail
  generalize (((w.alloc (.cells #[.int .i64 0, .int .i64 150, .int .i64 0, .int .i64 320] 3)).alloc (.cells #[.int .i64 1, .int .i64 2, .int .i64 2, .int .i64 0] 3)).alloc (.cells #[.int .i64 2, .int .i64 2, .int .i64 3, .int .i64 4] 3)).alloc (.cells #[.slice (some ⟨w.heap.size, 0, none⟩) 4 4, .slice (some ⟨w.heap.size + 1, 0, none⟩) 4 4, .slice (some ⟨w.heap.size + 1 + 1, 0, none⟩) 4 4] 79) = V0 at *
  have t0 := Qt.cell 0
  have t1 := Qt.cell 1
  have t2 := Qt.cell 2
  have tl := Qt.lt
  simp at t0 t1 t2
  go_wp2_with fail
  refine wp_region_ext_mix 8 [(false, 2), (true, 0), (true, 1), (true, 3), (false, 4), (false, 5), (false, 6), (false, 7)] (by kernel_rfl) (by kernel_rfl) (by intro d _ _ _ _ h; cases d <;> exact h) ?_
  have X1 := (Below.refl V0.heap.size V0).drew
  repeat (refine mix_quiet rfl ?_; go_big_quiet_step (fail); refine wpQuiet_nil ?_)
  have E2 := X1
  have B3 := ex_trans B0 X1
  have f4 := Qa.below X1 Qa.lt
  have f5 := Qb.below X1 Qb.lt
  have f6 := Qc.below X1 Qc.lt
  have f7 := Qt.below X1 Qt.lt
  refine mix_loud rfl ?_
  go_wp2_with fail
  refine (tube_any _).mono ?_
  rintro e x8 ⟨Ab9, Ad10, rfl, g11, h12⟩
  have B13 := ex_trans B3 h12
  have E14 := ex_trans E2 h12
  have f15 := f4.below h12 f4.lt
  have f16 := f5.below h12 f5.lt
  have f17 := f6.below h12 f6.lt
  have f18 := f7.below h12 f7.lt
  go_wp2_with fail
  refine ⟨inEx E14, ?_⟩
  refine mix_loud rfl ?_
  go_wp2_with fail
  refine (spring_any _).mono ?_
  rintro e x19 ⟨Ah20, rfl, g21, h22⟩
  have B23 := ex_trans B13 h22
  have E24 := ex_trans E14 h22
  have f25 := f15.below h22 f15.lt
  have f26 := f16.below h22 f16.lt
  have f27 := f17.below h22 f17.lt
  have f28 := f18.below h22 f18.lt
  have f29 := (g11.below h22).up h22.size
  go_wp2_with fail
  refine ⟨inEx E24, ?_⟩
  refine mix_loud rfl ?_
  go_wp2_with fail
  refine (N_play _ _ _ none _ _ _ _ f29 g21 (ints4 f25) (ints4 f26) (ints4 f27)).mono ?_
  rintro e x30 ⟨⟨Az, cz, rfl, HZ⟩, h31⟩
  have B32 := ex_trans B23 h31
  have E33 := ex_trans E24 h31
  have f34 := f25.below h31 f25.lt
  have f35 := f26.below h31 f26.lt
  have f36 := f27.below h31 f27.lt
  have f37 := f28.below h31 f28.lt
  go_wp2_with fail
  refine ⟨inEx E33, ?_⟩
  repeat (refine mix_quiet rfl ?_; go_big_quiet_step (fail); refine wpQuiet_nil ?_)
  refine mix_nil rfl ?_
  clear t0 t1 t2 tl
  go_wp2_with fail
  refine (tube_any _).mono ?_
  rintro e x38 ⟨Ab39, Ad40, rfl, g41, h42⟩
  have B43 := ex_trans B32 h42
  have f44 := f34.below h42 f34.lt
  have f45 := f35.below h42 f35.lt
  have f46 := f36.below h42 f36.lt
  have f47 := f37.below h42 f37.lt
  have f48 := (HZ.below h42).up h42.size
  go_wp2_with fail
  refine (spring_any _).mono ?_
  rintro e x49 ⟨Ah50, rfl, g51, h52⟩
  have B53 := ex_trans B43 h52
  have f54 := f44.below h52 f44.lt
  have f55 := f45.below h52 f45.lt
  have f56 := f46.below h52 f46.lt
  have f57 := f47.below h52 f47.lt
  have f58 := (f48.below h52).up h52.size
  have f59 := (g41.below h52).up h52.size
  go_wp2_with fail
  refine (N_zeros0 _ _ _ none none none none _ f59 g51).mono ?_
  rintro e x60 ⟨⟨Ax, rfl, HX⟩, h61⟩
  have B62 := ex_trans B53 h61
  have f63 := f54.below h61 f54.lt
  have f64 := f55.below h61 f55.lt
  have f65 := f56.below h61 f56.lt
  have f66 := f57.below h61 f57.lt
  have f67 := (f58.below h61).up h61.size
  go_wp2_with fail
  refine (tube_any _).mono ?_
  rintro e x68 ⟨Ab69, Ad70, rfl, g71, h72⟩
  have B73 := ex_trans B62 h72
  have f74 := f63.below h72 f63.lt
  have f75 := f64.below h72 f64.lt
  have f76 := f65.below h72 f65.lt
  have f77 := f66.below h72 f66.lt
  have f78 := (f67.below h72).up h72.size
  have f79 := (HX.below h72).up h72.size
  go_wp2_with fail
  refine (spring_any _).mono ?_
  rintro e x80 ⟨Ah81, rfl, g82, h83⟩
  have B84 := ex_trans B73 h83
  have f85 := f74.below h83 f74.lt
  have f86 := f75.below h83 f75.lt
  have f87 := f76.below h83 f76.lt
  have f88 := f77.below h83 f77.lt
  have f89 := (f78.below h83).up h83.size
  have f90 := (f79.below h83).up h83.size
  have f91 := (g71.below h83).up h83.size
  go_wp2_with fail
  refine (three_any _).mono ?_
  rintro e x92 ⟨Ai93, rfl, g94, h95⟩
  have B96 := ex_trans B84 h95
  have f97 := f85.below h95 f85.lt
  have f98 := f86.below h95 f86.lt
  have f99 := f87.below h95 f87.lt
  have f100 := f88.below h95 f88.lt
  have f101 := (f89.below h95).up h95.size
  have f102 := (f90.below h95).up h95.size
  have f103 := (f91.below h95).up h95.size
  have f104 := (g82.below h95).up h95.size
  go_wp2_with fail
  refine (N_blame _ _ _ _ none none none _ f103 f104 g94).mono ?_
  rintro e x105 ⟨rfl, h106⟩
  have B107 := ex_trans B96 h106
  have f108 := f97.below h106 f97.lt
  have f109 := f98.below h106 f98.lt
  have f110 := f99.below h106 f99.lt
  have f111 := f100.below h106 f100.lt
  have f112 := (f101.below h106).up h106.size
  have f113 := (f102.below h106).up h106.size
  go_wp2_with fail
  obtain ⟨bx, ox, rfl, hbx, hcx⟩ := f113 (by decide)
  have y4 : x105.cell? ⟨bx, ox + 4, none⟩ = some (.int .i64 (-5)) := hcx 2 0 (by omega) (by omega)
  have y5 : x105.cell? ⟨bx, ox + 5, none⟩ = some (.int .i64 0) := hcx 2 1 (by omega) (by omega)
  have y6 : x105.cell? ⟨bx, ox + 4 + 1, none⟩ = some (.int .i64 0) := hcx 2 1 (by omega) (by omega)
  have y7 : x105.cell? ⟨bx, ox + 6, none⟩ = some (.int .i64 (-22)) := hcx 3 0 (by omega) (by omega)
  have y8 : x105.cell? ⟨bx, ox + 7, none⟩ = some (.int .i64 5) := hcx 3 1 (by omega) (by omega)
  have y9 : x105.cell? ⟨bx, ox + 6 + 1, none⟩ = some (.int .i64 5) := hcx 3 1 (by omega) (by omega)
  clear hcx
  have t0 := f111.cell 0
  have t1 := f111.cell 1
  have t2 := f111.cell 2
  have tl := f111.lt
  simp at t0 t1 t2
  refine Code.wp_mono (Q := NQ w x105) ?_ ?_
  rotate_left
  · refine wp_region_ext_tq 51 (.quiet 0 (.quiet 1 (.quiet 2 (.quiet 3 (.loud 4 (.loud 5 (.quiet 6 (.quiet 7 (.quiet 8 (.quiet 9 (.quiet 10 (.quiet 11 (.quiet 12 (.quiet 13 (.quiet 14 (.quiet 15 (.quiet 16 (.quiet 17 (.quiet 18 (.quiet 19 (.quiet 20 (.loud 21 (.quiet 22 (.quiet 23 (.quiet 24 (.quiet 25 (.quiet 26 (.quiet 27 (.loud 28 (.quiet 29 (.quiet 30 (.quiet 31 (.quiet 32 (.quiet 33 (.quiet 34 (.quiet 35 (.quiet 38 (.quiet 40 (.fork 36 (.fork 37 (.loud 39 (.loud 41 (.quiet 42 (.quiet 43 (.quiet 44 (.quiet 47 (.quiet 49 (.fork 45 (.fork 46 (.loud 48 (.loud 50 .done)) 48 (.loud 46 (.loud 50 .done))) 48 (.loud 45 (.loud 46 (.loud 50 .done))))))))))) 39 (.loud 37 (.loud 41 (.quiet 42 (.quiet 43 (.quiet 44 (.quiet 47 (.quiet 49 (.fork 45 (.fork 46 (.loud 48 (.loud 50 .done)) 48 (.loud 46 (.loud 50 .done))) 48 (.loud 45 (.loud 46 (.loud 50 .done)))))))))))) 39 (.loud 36 (.loud 37 (.loud 41 (.quiet 42 (.quiet 43 (.quiet 44 (.quiet 47 (.quiet 49 (.fork 45 (.fork 46 (.loud 48 (.loud 50 .done)) 48 (.loud 46 (.loud 50 .done))) 48 (.loud 45 (.loud 46 (.loud 50 .done))))))))))))))))))))))))))))))))))))))))))))))))))) (by kernel_rfl) (by kernel_rfl) (by rintro d v c a w ⟨h, _⟩; cases h) ?_
    have X114 := (Below.refl x105.heap.size x105).drew
    have E115 := X114
    repeat (refine tq_quiet rfl ?_; go_big_quiet_step (fail); refine wpQuiet_nil ?_)
    have B116 := ex_trans B107 X114
    have f117 := f108.below X114 f108.lt
    have f118 := f109.below X114 f109.lt
    have f119 := f110.below X114 f110.lt
    have f120 := f111.below X114 f111.lt
    have f121 := (f112.below X114).up X114.size
    generalize x105.drew = D122 at *
    refine tq_loud rfl ?_
    have X123 := (Below.refl D122.heap.size D122).alloc (Nat.le_refl _) (.cells #[.int .i64 1, .int .i64 (-7), .int .i64 (-2), .int .i64 (-20)] 3)
    have q124 : Blk (D122.alloc (.cells #[.int .i64 1, .int .i64 (-7), .int .i64 (-2), .int .i64 (-20)] 3)) D122.heap.size 3 _ := Blk.new _ _ _
    have B126 := ex_trans B116 X123
    have E127 := ex_trans E115 X123
    have f128 := f117.below X123 f117.lt
    have f129 := f118.below X123 f118.lt
    have f130 := f119.below X123 f119.lt
    have f131 := f120.below X123 f120.lt
    have f132 := (f121.below X123).up X123.size
    go_wp2_with fail
    refine ⟨inEx E127, ?_⟩
    generalize D122.alloc (.cells #[.int .i64 1, .int .i64 (-7), .int .i64 (-2), .int .i64 (-20)] 3) = D125 at *
    refine tq_loud rfl ?_
    go_wp2_with fail
    refine (ints_any _ _ _ _ [1, -7, -2, -20] [1, -7, -2, -20] _ (by simp) f132 (ints4 q124) (by simp)).mono ?_
    rintro e y133 ⟨rfl, h134⟩
    rw [zints]
    have B135 := ex_trans B126 h134
    have E136 := ex_trans E127 h134
    have f137 := f128.below h134 f128.lt
    have f138 := f129.below h134 f129.lt
    have f139 := f130.below h134 f130.lt
    have f140 := f131.below h134 f131.lt
    go_wp2_with fail
    refine ⟨inEx E136, ?_⟩
    repeat (refine tq_quiet rfl ?_; go_big_quiet_step (fail); refine wpQuiet_nil ?_)
    refine tq_loud rfl ?_
    go_wp2_with fail
    refine (between_any (-5) 0 _).mono ?_
    rintro e y141 ⟨rfl, h142⟩
    have B143 := ex_trans B135 h142
    have E144 := ex_trans E136 h142
    have f145 := f137.below h142 f137.lt
    have f146 := f138.below h142 f138.lt
    have f147 := f139.below h142 f139.lt
    have f148 := f140.below h142 f140.lt
    go_wp2_with fail
    refine ⟨inEx E144, ?_⟩
    repeat (refine tq_quiet rfl ?_; go_big_quiet_step (fail); refine wpQuiet_nil ?_)
    refine tq_loud rfl ?_
    go_wp2_with fail
    refine (between_any (-22) 5 _).mono ?_
    rintro e y149 ⟨rfl, h150⟩
    have B151 := ex_trans B143 h150
    have E152 := ex_trans E144 h150
    have f153 := f145.below h150 f145.lt
    have f154 := f146.below h150 f146.lt
    have f155 := f147.below h150 f147.lt
    have f156 := f148.below h150 f148.lt
    go_wp2_with fail
    refine ⟨inEx E152, ?_⟩
    repeat (refine tq_quiet rfl ?_; go_big_quiet_step (fail); refine wpQuiet_nil ?_)
    refine tq_fork rfl rfl ?_ ?_
    · go_wp2_with fail
      refine (tube_any _).mono ?_
      rintro e x157 ⟨Ab158, Ad159, rfl, g160, h161⟩
      have B162 := ex_trans B151 h161
      have E163 := ex_trans E152 h161
      have f164 := f153.below h161 f153.lt
      have f165 := f154.below h161 f154.lt
      have f166 := f155.below h161 f155.lt
      have f167 := f156.below h161 f156.lt
      go_wp2_with fail
      refine ⟨inEx E163, ?_⟩
      refine tq_fork rfl rfl ?_ ?_
      · go_wp2_with fail
        refine (spring_any _).mono ?_
        rintro e x168 ⟨Ah169, rfl, g170, h171⟩
        have B172 := ex_trans B162 h171
        have E173 := ex_trans E163 h171
        have f174 := f164.below h171 f164.lt
        have f175 := f165.below h171 f165.lt
        have f176 := f166.below h171 f166.lt
        have f177 := f167.below h171 f167.lt
        have f178 := (g160.below h171).up h171.size
        go_wp2_with fail
        refine ⟨inEx E173, ?_⟩
        refine tq_loud rfl ?_
        have X179 := (Below.refl x168.heap.size x168).alloc (Nat.le_refl _) (.cells #[.int .i64 3, .int .i64 (-19), .int .i64 1] 95)
        have q180 : Blk (x168.alloc (.cells #[.int .i64 3, .int .i64 (-19), .int .i64 1] 95)) x168.heap.size 95 _ := Blk.new _ _ _
        have B182 := ex_trans B172 X179
        have E183 := ex_trans E173 X179
        have f184 := f174.below X179 f174.lt
        have f185 := f175.below X179 f175.lt
        have f186 := f176.below X179 f176.lt
        have f187 := f177.below X179 f177.lt
        have f188 := (f178.below X179).up X179.size
        have f189 := (g170.below X179).up X179.size
        go_wp2_with fail
        refine ⟨inEx E183, ?_⟩
        generalize x168.alloc (.cells #[.int .i64 3, .int .i64 (-19), .int .i64 1] 95) = D181 at *
        refine tq_loud rfl ?_
        go_wp2_with fail
        refine (N_prove1 _ _ _ _ _ _ _ _ f188 f189 (ice1 q180) (ints4 f184) (ints4 f185) (ints4 f186)).mono ?_
        rintro e x190 ⟨rfl, h191⟩
        have B192 := ex_trans B182 h191
        have E193 := ex_trans E183 h191
        have f194 := f184.below h191 f184.lt
        have f195 := f185.below h191 f185.lt
        have f196 := f186.below h191 f186.lt
        have f197 := f187.below h191 f187.lt
        have f198 := q180.below h191 q180.lt
        go_wp2_with fail
        refine ⟨inEx E193, ?_⟩
        repeat (refine tq_quiet rfl ?_; go_big_quiet_step (fail); refine wpQuiet_nil ?_)
        refine tq_fork rfl rfl ?_ ?_
        · go_wp2_with fail
          refine (tube_any _).mono ?_
          rintro e x199 ⟨Ab200, Ad201, rfl, g202, h203⟩
          have B204 := ex_trans B192 h203
          have E205 := ex_trans E193 h203
          have f206 := f194.below h203 f194.lt
          have f207 := f195.below h203 f195.lt
          have f208 := f196.below h203 f196.lt
          have f209 := f197.below h203 f197.lt
          go_wp2_with fail
          refine ⟨inEx E205, ?_⟩
          refine tq_fork rfl rfl ?_ ?_
          · go_wp2_with fail
            refine (spring_any _).mono ?_
            rintro e x210 ⟨Ah211, rfl, g212, h213⟩
            have B214 := ex_trans B204 h213
            have E215 := ex_trans E205 h213
            have f216 := f206.below h213 f206.lt
            have f217 := f207.below h213 f207.lt
            have f218 := f208.below h213 f208.lt
            have f219 := f209.below h213 f209.lt
            have f220 := (g202.below h213).up h213.size
            go_wp2_with fail
            refine ⟨inEx E215, ?_⟩
            refine tq_loud rfl ?_
            have X221 := (Below.refl x210.heap.size x210).alloc (Nat.le_refl _) (.cells #[.int .i64 3, .int .i64 (-18), .int .i64 1] 95)
            have q222 : Blk (x210.alloc (.cells #[.int .i64 3, .int .i64 (-18), .int .i64 1] 95)) x210.heap.size 95 _ := Blk.new _ _ _
            have B224 := ex_trans B214 X221
            have E225 := ex_trans E215 X221
            have f226 := f216.below X221 f216.lt
            have f227 := f217.below X221 f217.lt
            have f228 := f218.below X221 f218.lt
            have f229 := f219.below X221 f219.lt
            have f230 := (f220.below X221).up X221.size
            have f231 := (g212.below X221).up X221.size
            go_wp2_with fail
            refine ⟨inEx E225, ?_⟩
            generalize x210.alloc (.cells #[.int .i64 3, .int .i64 (-18), .int .i64 1] 95) = D223 at *
            refine tq_loud rfl ?_
            go_wp2_with fail
            refine (N_prove2 _ _ _ _ _ _ _ _ f230 f231 (ice1 q222) (ints4 f226) (ints4 f227) (ints4 f228)).mono ?_
            rintro e x232 ⟨rfl, h233⟩
            have B234 := ex_trans B224 h233
            have E235 := ex_trans E225 h233
            have f236 := f226.below h233 f226.lt
            have f237 := f227.below h233 f227.lt
            have f238 := f228.below h233 f228.lt
            have f239 := f229.below h233 f229.lt
            have f240 := q222.below h233 q222.lt
            go_wp2_with fail
            refine ⟨inEx E235, ?_⟩
            refine tq_done (r := [_]) rfl ?_
            go_wp2
            exact ⟨rfl, E235, exFrame' (by kernel_rfl)⟩
          · have X241 := (Below.refl x199.heap.size x199).alloc (Nat.le_refl _) (.cells #[.int .i64 3, .int .i64 (-18), .int .i64 1] 95)
            have q242 : Blk (x199.alloc (.cells #[.int .i64 3, .int .i64 (-18), .int .i64 1] 95)) x199.heap.size 95 _ := Blk.new _ _ _
            have B244 := ex_trans B204 X241
            have E245 := ex_trans E205 X241
            have f246 := f206.below X241 f206.lt
            have f247 := f207.below X241 f207.lt
            have f248 := f208.below X241 f208.lt
            have f249 := f209.below X241 f209.lt
            have f250 := (g202.below X241).up X241.size
            go_wp2_with fail
            refine ⟨inEx E245, ?_⟩
            generalize x199.alloc (.cells #[.int .i64 3, .int .i64 (-18), .int .i64 1] 95) = D243 at *
            refine tq_loud rfl ?_
            go_wp2_with fail
            refine (spring_any _).mono ?_
            rintro e x251 ⟨Ah252, rfl, g253, h254⟩
            have B255 := ex_trans B244 h254
            have E256 := ex_trans E245 h254
            have f257 := f246.below h254 f246.lt
            have f258 := f247.below h254 f247.lt
            have f259 := f248.below h254 f248.lt
            have f260 := f249.below h254 f249.lt
            have f261 := (f250.below h254).up h254.size
            have f262 := q242.below h254 q242.lt
            go_wp2_with fail
            refine ⟨inEx E256, ?_⟩
            refine tq_loud rfl ?_
            go_wp2_with fail
            refine (N_prove2 _ _ _ _ _ _ _ _ f261 g253 (ice1 f262) (ints4 f257) (ints4 f258) (ints4 f259)).mono ?_
            rintro e x263 ⟨rfl, h264⟩
            have B265 := ex_trans B255 h264
            have E266 := ex_trans E256 h264
            have f267 := f257.below h264 f257.lt
            have f268 := f258.below h264 f258.lt
            have f269 := f259.below h264 f259.lt
            have f270 := f260.below h264 f260.lt
            have f271 := f262.below h264 f262.lt
            go_wp2_with fail
            refine ⟨inEx E266, ?_⟩
            refine tq_done (r := [_]) rfl ?_
            go_wp2
            exact ⟨rfl, E266, exFrame' (by kernel_rfl)⟩
        · have X272 := (Below.refl x190.heap.size x190).alloc (Nat.le_refl _) (.cells #[.int .i64 3, .int .i64 (-18), .int .i64 1] 95)
          have q273 : Blk (x190.alloc (.cells #[.int .i64 3, .int .i64 (-18), .int .i64 1] 95)) x190.heap.size 95 _ := Blk.new _ _ _
          have B275 := ex_trans B192 X272
          have E276 := ex_trans E193 X272
          have f277 := f194.below X272 f194.lt
          have f278 := f195.below X272 f195.lt
          have f279 := f196.below X272 f196.lt
          have f280 := f197.below X272 f197.lt
          go_wp2_with fail
          refine ⟨inEx E276, ?_⟩
          generalize x190.alloc (.cells #[.int .i64 3, .int .i64 (-18), .int .i64 1] 95) = D274 at *
          refine tq_loud rfl ?_
          go_wp2_with fail
          refine (tube_any _).mono ?_
          rintro e x281 ⟨Ab282, Ad283, rfl, g284, h285⟩
          have B286 := ex_trans B275 h285
          have E287 := ex_trans E276 h285
          have f288 := f277.below h285 f277.lt
          have f289 := f278.below h285 f278.lt
          have f290 := f279.below h285 f279.lt
          have f291 := f280.below h285 f280.lt
          have f292 := q273.below h285 q273.lt
          go_wp2_with fail
          refine ⟨inEx E287, ?_⟩
          refine tq_loud rfl ?_
          go_wp2_with fail
          refine (spring_any _).mono ?_
          rintro e x293 ⟨Ah294, rfl, g295, h296⟩
          have B297 := ex_trans B286 h296
          have E298 := ex_trans E287 h296
          have f299 := f288.below h296 f288.lt
          have f300 := f289.below h296 f289.lt
          have f301 := f290.below h296 f290.lt
          have f302 := f291.below h296 f291.lt
          have f303 := f292.below h296 f292.lt
          have f304 := (g284.below h296).up h296.size
          go_wp2_with fail
          refine ⟨inEx E298, ?_⟩
          refine tq_loud rfl ?_
          go_wp2_with fail
          refine (N_prove2 _ _ _ _ _ _ _ _ f304 g295 (ice1 f303) (ints4 f299) (ints4 f300) (ints4 f301)).mono ?_
          rintro e x305 ⟨rfl, h306⟩
          have B307 := ex_trans B297 h306
          have E308 := ex_trans E298 h306
          have f309 := f299.below h306 f299.lt
          have f310 := f300.below h306 f300.lt
          have f311 := f301.below h306 f301.lt
          have f312 := f302.below h306 f302.lt
          have f313 := f303.below h306 f303.lt
          go_wp2_with fail
          refine ⟨inEx E308, ?_⟩
          refine tq_done (r := [_]) rfl ?_
          go_wp2
          exact ⟨rfl, E308, exFrame' (by kernel_rfl)⟩
      · have X314 := (Below.refl x157.heap.size x157).alloc (Nat.le_refl _) (.cells #[.int .i64 3, .int .i64 (-19), .int .i64 1] 95)
        have q315 : Blk (x157.alloc (.cells #[.int .i64 3, .int .i64 (-19), .int .i64 1] 95)) x157.heap.size 95 _ := Blk.new _ _ _
        have B317 := ex_trans B162 X314
        have E318 := ex_trans E163 X314
        have f319 := f164.below X314 f164.lt
        have f320 := f165.below X314 f165.lt
        have f321 := f166.below X314 f166.lt
        have f322 := f167.below X314 f167.lt
        have f323 := (g160.below X314).up X314.size
        go_wp2_with fail
        refine ⟨inEx E318, ?_⟩
        generalize x157.alloc (.cells #[.int .i64 3, .int .i64 (-19), .int .i64 1] 95) = D316 at *
        refine tq_loud rfl ?_
        go_wp2_with fail
        refine (spring_any _).mono ?_
        rintro e x324 ⟨Ah325, rfl, g326, h327⟩
        have B328 := ex_trans B317 h327
        have E329 := ex_trans E318 h327
        have f330 := f319.below h327 f319.lt
        have f331 := f320.below h327 f320.lt
        have f332 := f321.below h327 f321.lt
        have f333 := f322.below h327 f322.lt
        have f334 := (f323.below h327).up h327.size
        have f335 := q315.below h327 q315.lt
        go_wp2_with fail
        refine ⟨inEx E329, ?_⟩
        refine tq_loud rfl ?_
        go_wp2_with fail
        refine (N_prove1 _ _ _ _ _ _ _ _ f334 g326 (ice1 f335) (ints4 f330) (ints4 f331) (ints4 f332)).mono ?_
        rintro e x336 ⟨rfl, h337⟩
        have B338 := ex_trans B328 h337
        have E339 := ex_trans E329 h337
        have f340 := f330.below h337 f330.lt
        have f341 := f331.below h337 f331.lt
        have f342 := f332.below h337 f332.lt
        have f343 := f333.below h337 f333.lt
        have f344 := f335.below h337 f335.lt
        go_wp2_with fail
        refine ⟨inEx E339, ?_⟩
        repeat (refine tq_quiet rfl ?_; go_big_quiet_step (fail); refine wpQuiet_nil ?_)
        refine tq_fork rfl rfl ?_ ?_
        · go_wp2_with fail
          refine (tube_any _).mono ?_
          rintro e x345 ⟨Ab346, Ad347, rfl, g348, h349⟩
          have B350 := ex_trans B338 h349
          have E351 := ex_trans E339 h349
          have f352 := f340.below h349 f340.lt
          have f353 := f341.below h349 f341.lt
          have f354 := f342.below h349 f342.lt
          have f355 := f343.below h349 f343.lt
          go_wp2_with fail
          refine ⟨inEx E351, ?_⟩
          refine tq_fork rfl rfl ?_ ?_
          · go_wp2_with fail
            refine (spring_any _).mono ?_
            rintro e x356 ⟨Ah357, rfl, g358, h359⟩
            have B360 := ex_trans B350 h359
            have E361 := ex_trans E351 h359
            have f362 := f352.below h359 f352.lt
            have f363 := f353.below h359 f353.lt
            have f364 := f354.below h359 f354.lt
            have f365 := f355.below h359 f355.lt
            have f366 := (g348.below h359).up h359.size
            go_wp2_with fail
            refine ⟨inEx E361, ?_⟩
            refine tq_loud rfl ?_
            have X367 := (Below.refl x356.heap.size x356).alloc (Nat.le_refl _) (.cells #[.int .i64 3, .int .i64 (-18), .int .i64 1] 95)
            have q368 : Blk (x356.alloc (.cells #[.int .i64 3, .int .i64 (-18), .int .i64 1] 95)) x356.heap.size 95 _ := Blk.new _ _ _
            have B370 := ex_trans B360 X367
            have E371 := ex_trans E361 X367
            have f372 := f362.below X367 f362.lt
            have f373 := f363.below X367 f363.lt
            have f374 := f364.below X367 f364.lt
            have f375 := f365.below X367 f365.lt
            have f376 := (f366.below X367).up X367.size
            have f377 := (g358.below X367).up X367.size
            go_wp2_with fail
            refine ⟨inEx E371, ?_⟩
            generalize x356.alloc (.cells #[.int .i64 3, .int .i64 (-18), .int .i64 1] 95) = D369 at *
            refine tq_loud rfl ?_
            go_wp2_with fail
            refine (N_prove2 _ _ _ _ _ _ _ _ f376 f377 (ice1 q368) (ints4 f372) (ints4 f373) (ints4 f374)).mono ?_
            rintro e x378 ⟨rfl, h379⟩
            have B380 := ex_trans B370 h379
            have E381 := ex_trans E371 h379
            have f382 := f372.below h379 f372.lt
            have f383 := f373.below h379 f373.lt
            have f384 := f374.below h379 f374.lt
            have f385 := f375.below h379 f375.lt
            have f386 := q368.below h379 q368.lt
            go_wp2_with fail
            refine ⟨inEx E381, ?_⟩
            refine tq_done (r := [_]) rfl ?_
            go_wp2
            exact ⟨rfl, E381, exFrame' (by kernel_rfl)⟩
          · have X387 := (Below.refl x345.heap.size x345).alloc (Nat.le_refl _) (.cells #[.int .i64 3, .int .i64 (-18), .int .i64 1] 95)
            have q388 : Blk (x345.alloc (.cells #[.int .i64 3, .int .i64 (-18), .int .i64 1] 95)) x345.heap.size 95 _ := Blk.new _ _ _
            have B390 := ex_trans B350 X387
            have E391 := ex_trans E351 X387
            have f392 := f352.below X387 f352.lt
            have f393 := f353.below X387 f353.lt
            have f394 := f354.below X387 f354.lt
            have f395 := f355.below X387 f355.lt
            have f396 := (g348.below X387).up X387.size
            go_wp2_with fail
            refine ⟨inEx E391, ?_⟩
            generalize x345.alloc (.cells #[.int .i64 3, .int .i64 (-18), .int .i64 1] 95) = D389 at *
            refine tq_loud rfl ?_
            go_wp2_with fail
            refine (spring_any _).mono ?_
            rintro e x397 ⟨Ah398, rfl, g399, h400⟩
            have B401 := ex_trans B390 h400
            have E402 := ex_trans E391 h400
            have f403 := f392.below h400 f392.lt
            have f404 := f393.below h400 f393.lt
            have f405 := f394.below h400 f394.lt
            have f406 := f395.below h400 f395.lt
            have f407 := (f396.below h400).up h400.size
            have f408 := q388.below h400 q388.lt
            go_wp2_with fail
            refine ⟨inEx E402, ?_⟩
            refine tq_loud rfl ?_
            go_wp2_with fail
            refine (N_prove2 _ _ _ _ _ _ _ _ f407 g399 (ice1 f408) (ints4 f403) (ints4 f404) (ints4 f405)).mono ?_
            rintro e x409 ⟨rfl, h410⟩
            have B411 := ex_trans B401 h410
            have E412 := ex_trans E402 h410
            have f413 := f403.below h410 f403.lt
            have f414 := f404.below h410 f404.lt
            have f415 := f405.below h410 f405.lt
            have f416 := f406.below h410 f406.lt
            have f417 := f408.below h410 f408.lt
            go_wp2_with fail
            refine ⟨inEx E412, ?_⟩
            refine tq_done (r := [_]) rfl ?_
            go_wp2
            exact ⟨rfl, E412, exFrame' (by kernel_rfl)⟩
        · have X418 := (Below.refl x336.heap.size x336).alloc (Nat.le_refl _) (.cells #[.int .i64 3, .int .i64 (-18), .int .i64 1] 95)
          have q419 : Blk (x336.alloc (.cells #[.int .i64 3, .int .i64 (-18), .int .i64 1] 95)) x336.heap.size 95 _ := Blk.new _ _ _
          have B421 := ex_trans B338 X418
          have E422 := ex_trans E339 X418
          have f423 := f340.below X418 f340.lt
          have f424 := f341.below X418 f341.lt
          have f425 := f342.below X418 f342.lt
          have f426 := f343.below X418 f343.lt
          go_wp2_with fail
          refine ⟨inEx E422, ?_⟩
          generalize x336.alloc (.cells #[.int .i64 3, .int .i64 (-18), .int .i64 1] 95) = D420 at *
          refine tq_loud rfl ?_
          go_wp2_with fail
          refine (tube_any _).mono ?_
          rintro e x427 ⟨Ab428, Ad429, rfl, g430, h431⟩
          have B432 := ex_trans B421 h431
          have E433 := ex_trans E422 h431
          have f434 := f423.below h431 f423.lt
          have f435 := f424.below h431 f424.lt
          have f436 := f425.below h431 f425.lt
          have f437 := f426.below h431 f426.lt
          have f438 := q419.below h431 q419.lt
          go_wp2_with fail
          refine ⟨inEx E433, ?_⟩
          refine tq_loud rfl ?_
          go_wp2_with fail
          refine (spring_any _).mono ?_
          rintro e x439 ⟨Ah440, rfl, g441, h442⟩
          have B443 := ex_trans B432 h442
          have E444 := ex_trans E433 h442
          have f445 := f434.below h442 f434.lt
          have f446 := f435.below h442 f435.lt
          have f447 := f436.below h442 f436.lt
          have f448 := f437.below h442 f437.lt
          have f449 := f438.below h442 f438.lt
          have f450 := (g430.below h442).up h442.size
          go_wp2_with fail
          refine ⟨inEx E444, ?_⟩
          refine tq_loud rfl ?_
          go_wp2_with fail
          refine (N_prove2 _ _ _ _ _ _ _ _ f450 g441 (ice1 f449) (ints4 f445) (ints4 f446) (ints4 f447)).mono ?_
          rintro e x451 ⟨rfl, h452⟩
          have B453 := ex_trans B443 h452
          have E454 := ex_trans E444 h452
          have f455 := f445.below h452 f445.lt
          have f456 := f446.below h452 f446.lt
          have f457 := f447.below h452 f447.lt
          have f458 := f448.below h452 f448.lt
          have f459 := f449.below h452 f449.lt
          go_wp2_with fail
          refine ⟨inEx E454, ?_⟩
          refine tq_done (r := [_]) rfl ?_
          go_wp2
          exact ⟨rfl, E454, exFrame' (by kernel_rfl)⟩
    · have X460 := (Below.refl y149.heap.size y149).alloc (Nat.le_refl _) (.cells #[.int .i64 3, .int .i64 (-19), .int .i64 1] 95)
      have q461 : Blk (y149.alloc (.cells #[.int .i64 3, .int .i64 (-19), .int .i64 1] 95)) y149.heap.size 95 _ := Blk.new _ _ _
      have B463 := ex_trans B151 X460
      have E464 := ex_trans E152 X460
      have f465 := f153.below X460 f153.lt
      have f466 := f154.below X460 f154.lt
      have f467 := f155.below X460 f155.lt
      have f468 := f156.below X460 f156.lt
      go_wp2_with fail
      refine ⟨inEx E464, ?_⟩
      generalize y149.alloc (.cells #[.int .i64 3, .int .i64 (-19), .int .i64 1] 95) = D462 at *
      refine tq_loud rfl ?_
      go_wp2_with fail
      refine (tube_any _).mono ?_
      rintro e x469 ⟨Ab470, Ad471, rfl, g472, h473⟩
      have B474 := ex_trans B463 h473
      have E475 := ex_trans E464 h473
      have f476 := f465.below h473 f465.lt
      have f477 := f466.below h473 f466.lt
      have f478 := f467.below h473 f467.lt
      have f479 := f468.below h473 f468.lt
      have f480 := q461.below h473 q461.lt
      go_wp2_with fail
      refine ⟨inEx E475, ?_⟩
      refine tq_loud rfl ?_
      go_wp2_with fail
      refine (spring_any _).mono ?_
      rintro e x481 ⟨Ah482, rfl, g483, h484⟩
      have B485 := ex_trans B474 h484
      have E486 := ex_trans E475 h484
      have f487 := f476.below h484 f476.lt
      have f488 := f477.below h484 f477.lt
      have f489 := f478.below h484 f478.lt
      have f490 := f479.below h484 f479.lt
      have f491 := f480.below h484 f480.lt
      have f492 := (g472.below h484).up h484.size
      go_wp2_with fail
      refine ⟨inEx E486, ?_⟩
      refine tq_loud rfl ?_
      go_wp2_with fail
      refine (N_prove1 _ _ _ _ _ _ _ _ f492 g483 (ice1 f491) (ints4 f487) (ints4 f488) (ints4 f489)).mono ?_
      rintro e x493 ⟨rfl, h494⟩
      have B495 := ex_trans B485 h494
      have E496 := ex_trans E486 h494
      have f497 := f487.below h494 f487.lt
      have f498 := f488.below h494 f488.lt
      have f499 := f489.below h494 f489.lt
      have f500 := f490.below h494 f490.lt
      have f501 := f491.below h494 f491.lt
      go_wp2_with fail
      refine ⟨inEx E496, ?_⟩
      repeat (refine tq_quiet rfl ?_; go_big_quiet_step (fail); refine wpQuiet_nil ?_)
      refine tq_fork rfl rfl ?_ ?_
      · go_wp2_with fail
        refine (tube_any _).mono ?_
        rintro e x502 ⟨Ab503, Ad504, rfl, g505, h506⟩
        have B507 := ex_trans B495 h506
        have E508 := ex_trans E496 h506
        have f509 := f497.below h506 f497.lt
        have f510 := f498.below h506 f498.lt
        have f511 := f499.below h506 f499.lt
        have f512 := f500.below h506 f500.lt
        go_wp2_with fail
        refine ⟨inEx E508, ?_⟩
        refine tq_fork rfl rfl ?_ ?_
        · go_wp2_with fail
          refine (spring_any _).mono ?_
          rintro e x513 ⟨Ah514, rfl, g515, h516⟩
          have B517 := ex_trans B507 h516
          have E518 := ex_trans E508 h516
          have f519 := f509.below h516 f509.lt
          have f520 := f510.below h516 f510.lt
          have f521 := f511.below h516 f511.lt
          have f522 := f512.below h516 f512.lt
          have f523 := (g505.below h516).up h516.size
          go_wp2_with fail
          refine ⟨inEx E518, ?_⟩
          refine tq_loud rfl ?_
          have X524 := (Below.refl x513.heap.size x513).alloc (Nat.le_refl _) (.cells #[.int .i64 3, .int .i64 (-18), .int .i64 1] 95)
          have q525 : Blk (x513.alloc (.cells #[.int .i64 3, .int .i64 (-18), .int .i64 1] 95)) x513.heap.size 95 _ := Blk.new _ _ _
          have B527 := ex_trans B517 X524
          have E528 := ex_trans E518 X524
          have f529 := f519.below X524 f519.lt
          have f530 := f520.below X524 f520.lt
          have f531 := f521.below X524 f521.lt
          have f532 := f522.below X524 f522.lt
          have f533 := (f523.below X524).up X524.size
          have f534 := (g515.below X524).up X524.size
          go_wp2_with fail
          refine ⟨inEx E528, ?_⟩
          generalize x513.alloc (.cells #[.int .i64 3, .int .i64 (-18), .int .i64 1] 95) = D526 at *
          refine tq_loud rfl ?_
          go_wp2_with fail
          refine (N_prove2 _ _ _ _ _ _ _ _ f533 f534 (ice1 q525) (ints4 f529) (ints4 f530) (ints4 f531)).mono ?_
          rintro e x535 ⟨rfl, h536⟩
          have B537 := ex_trans B527 h536
          have E538 := ex_trans E528 h536
          have f539 := f529.below h536 f529.lt
          have f540 := f530.below h536 f530.lt
          have f541 := f531.below h536 f531.lt
          have f542 := f532.below h536 f532.lt
          have f543 := q525.below h536 q525.lt
          go_wp2_with fail
          refine ⟨inEx E538, ?_⟩
          refine tq_done (r := [_]) rfl ?_
          go_wp2
          exact ⟨rfl, E538, exFrame' (by kernel_rfl)⟩
        · have X544 := (Below.refl x502.heap.size x502).alloc (Nat.le_refl _) (.cells #[.int .i64 3, .int .i64 (-18), .int .i64 1] 95)
          have q545 : Blk (x502.alloc (.cells #[.int .i64 3, .int .i64 (-18), .int .i64 1] 95)) x502.heap.size 95 _ := Blk.new _ _ _
          have B547 := ex_trans B507 X544
          have E548 := ex_trans E508 X544
          have f549 := f509.below X544 f509.lt
          have f550 := f510.below X544 f510.lt
          have f551 := f511.below X544 f511.lt
          have f552 := f512.below X544 f512.lt
          have f553 := (g505.below X544).up X544.size
          go_wp2_with fail
          refine ⟨inEx E548, ?_⟩
          generalize x502.alloc (.cells #[.int .i64 3, .int .i64 (-18), .int .i64 1] 95) = D546 at *
          refine tq_loud rfl ?_
          go_wp2_with fail
          refine (spring_any _).mono ?_
          rintro e x554 ⟨Ah555, rfl, g556, h557⟩
          have B558 := ex_trans B547 h557
          have E559 := ex_trans E548 h557
          have f560 := f549.below h557 f549.lt
          have f561 := f550.below h557 f550.lt
          have f562 := f551.below h557 f551.lt
          have f563 := f552.below h557 f552.lt
          have f564 := (f553.below h557).up h557.size
          have f565 := q545.below h557 q545.lt
          go_wp2_with fail
          refine ⟨inEx E559, ?_⟩
          refine tq_loud rfl ?_
          go_wp2_with fail
          refine (N_prove2 _ _ _ _ _ _ _ _ f564 g556 (ice1 f565) (ints4 f560) (ints4 f561) (ints4 f562)).mono ?_
          rintro e x566 ⟨rfl, h567⟩
          have B568 := ex_trans B558 h567
          have E569 := ex_trans E559 h567
          have f570 := f560.below h567 f560.lt
          have f571 := f561.below h567 f561.lt
          have f572 := f562.below h567 f562.lt
          have f573 := f563.below h567 f563.lt
          have f574 := f565.below h567 f565.lt
          go_wp2_with fail
          refine ⟨inEx E569, ?_⟩
          refine tq_done (r := [_]) rfl ?_
          go_wp2
          exact ⟨rfl, E569, exFrame' (by kernel_rfl)⟩
      · have X575 := (Below.refl x493.heap.size x493).alloc (Nat.le_refl _) (.cells #[.int .i64 3, .int .i64 (-18), .int .i64 1] 95)
        have q576 : Blk (x493.alloc (.cells #[.int .i64 3, .int .i64 (-18), .int .i64 1] 95)) x493.heap.size 95 _ := Blk.new _ _ _
        have B578 := ex_trans B495 X575
        have E579 := ex_trans E496 X575
        have f580 := f497.below X575 f497.lt
        have f581 := f498.below X575 f498.lt
        have f582 := f499.below X575 f499.lt
        have f583 := f500.below X575 f500.lt
        go_wp2_with fail
        refine ⟨inEx E579, ?_⟩
        generalize x493.alloc (.cells #[.int .i64 3, .int .i64 (-18), .int .i64 1] 95) = D577 at *
        refine tq_loud rfl ?_
        go_wp2_with fail
        refine (tube_any _).mono ?_
        rintro e x584 ⟨Ab585, Ad586, rfl, g587, h588⟩
        have B589 := ex_trans B578 h588
        have E590 := ex_trans E579 h588
        have f591 := f580.below h588 f580.lt
        have f592 := f581.below h588 f581.lt
        have f593 := f582.below h588 f582.lt
        have f594 := f583.below h588 f583.lt
        have f595 := q576.below h588 q576.lt
        go_wp2_with fail
        refine ⟨inEx E590, ?_⟩
        refine tq_loud rfl ?_
        go_wp2_with fail
        refine (spring_any _).mono ?_
        rintro e x596 ⟨Ah597, rfl, g598, h599⟩
        have B600 := ex_trans B589 h599
        have E601 := ex_trans E590 h599
        have f602 := f591.below h599 f591.lt
        have f603 := f592.below h599 f592.lt
        have f604 := f593.below h599 f593.lt
        have f605 := f594.below h599 f594.lt
        have f606 := f595.below h599 f595.lt
        have f607 := (g587.below h599).up h599.size
        go_wp2_with fail
        refine ⟨inEx E601, ?_⟩
        refine tq_loud rfl ?_
        go_wp2_with fail
        refine (N_prove2 _ _ _ _ _ _ _ _ f607 g598 (ice1 f606) (ints4 f602) (ints4 f603) (ints4 f604)).mono ?_
        rintro e x608 ⟨rfl, h609⟩
        have B610 := ex_trans B600 h609
        have E611 := ex_trans E601 h609
        have f612 := f602.below h609 f602.lt
        have f613 := f603.below h609 f603.lt
        have f614 := f604.below h609 f604.lt
        have f615 := f605.below h609 f605.lt
        have f616 := f606.below h609 f606.lt
        go_wp2_with fail
        refine ⟨inEx E611, ?_⟩
        refine tq_done (r := [_]) rfl ?_
        go_wp2
        exact ⟨rfl, E611, exFrame' (by kernel_rfl)⟩
  rintro e a' W617 ⟨rfl, h618, u, rfl⟩
  clear y4 y5 y6 y7 y8 y9
  clear t0 t1 t2 tl
  have B619 := ex_trans B107 h618
  have f620 := f108.below h618 f108.lt
  have f621 := f109.below h618 f109.lt
  have f622 := f110.below h618 f110.lt
  have f623 := f111.below h618 f111.lt
  have t0 := f623.cell 0
  have t1 := f623.cell 1
  have t2 := f623.cell 2
  have tl := f623.lt
  simp at t0 t1 t2
  have gb3 := f621.cell 3
  have gf3 := f621.frozen 3
  have gbl := f621.lt
  simp at gb3
  go_wp2_with fail
  have B625 : Below w.heap.size w (W617.setCell ⟨w.heap.size + 1, 3, none⟩ (.int .i64 2)) := ex_set B619 (by show w.heap.size ≤ w.heap.size + 1; omega) _
  have f626 : Blk (W617.setCell ⟨w.heap.size + 1, 3, none⟩ (.int .i64 2)) w.heap.size 3 #[.int .i64 0, .int .i64 150, .int .i64 0, .int .i64 320] := f620.far (by simp) _
  have f627 : Blk (W617.setCell ⟨w.heap.size + 1, 3, none⟩ (.int .i64 2)) (w.heap.size + 1) 3 #[.int .i64 1, .int .i64 2, .int .i64 2, .int .i64 2] := by
    have := f621.set_ 3 (.int .i64 2)
    simp only [List.setIfInBounds_toArray, List.set_cons_zero, List.set_cons_succ] at this
    exact this
  have f628 : Blk (W617.setCell ⟨w.heap.size + 1, 3, none⟩ (.int .i64 2)) (w.heap.size + 1 + 1) 3 #[.int .i64 2, .int .i64 2, .int .i64 3, .int .i64 4] := f622.far (by simp) _
  have f629 : Blk (W617.setCell ⟨w.heap.size + 1, 3, none⟩ (.int .i64 2)) (w.heap.size + 1 + 1 + 1) 79 #[.slice (some ⟨w.heap.size, 0, none⟩) 4 4, .slice (some ⟨w.heap.size + 1, 0, none⟩) 4 4, .slice (some ⟨w.heap.size + 1 + 1, 0, none⟩) 4 4] := f623.far (by simp; omega) _
  clear t0 t1 t2 tl
  clear gb3 gf3 gbl
  generalize W617.setCell ⟨w.heap.size + 1, 3, none⟩ (.int .i64 2) = V624 at *
  have t0 := f629.cell 0
  have t1 := f629.cell 1
  have t2 := f629.cell 2
  have tl := f629.lt
  simp at t0 t1 t2
  go_wp2_with fail
  refine wp_region_ext_mix 7 [(false, 2), (true, 0), (true, 1), (true, 3), (false, 4), (false, 5), (false, 6)] (by kernel_rfl) (by kernel_rfl) (by intro d _ _ _ _ h; cases d <;> exact h) ?_
  have X630 := (Below.refl V624.heap.size V624).drew
  repeat (refine mix_quiet rfl ?_; go_big_quiet_step (fail); refine wpQuiet_nil ?_)
  have E631 := X630
  have B632 := ex_trans B625 X630
  have f633 := f626.below X630 f626.lt
  have f634 := f627.below X630 f627.lt
  have f635 := f628.below X630 f628.lt
  have f636 := f629.below X630 f629.lt
  refine mix_loud rfl ?_
  go_wp2_with fail
  refine (tube_any _).mono ?_
  rintro e x637 ⟨Ab638, Ad639, rfl, g640, h641⟩
  have B642 := ex_trans B632 h641
  have E643 := ex_trans E631 h641
  have f644 := f633.below h641 f633.lt
  have f645 := f634.below h641 f634.lt
  have f646 := f635.below h641 f635.lt
  have f647 := f636.below h641 f636.lt
  go_wp2_with fail
  refine ⟨inEx E643, ?_⟩
  refine mix_loud rfl ?_
  go_wp2_with fail
  refine (spring_any _).mono ?_
  rintro e x648 ⟨Ah649, rfl, g650, h651⟩
  have B652 := ex_trans B642 h651
  have E653 := ex_trans E643 h651
  have f654 := f644.below h651 f644.lt
  have f655 := f645.below h651 f645.lt
  have f656 := f646.below h651 f646.lt
  have f657 := f647.below h651 f647.lt
  have f658 := (g640.below h651).up h651.size
  go_wp2_with fail
  refine ⟨inEx E653, ?_⟩
  refine mix_loud rfl ?_
  go_wp2_with fail
  refine (N_play2 _ _ _ none _ _ _ _ f658 g650 (ints4 f654) (ints4 f655) (ints4 f656)).mono ?_
  rintro e x659 ⟨rfl, h660⟩
  have B661 := ex_trans B652 h660
  have E662 := ex_trans E653 h660
  have f663 := f654.below h660 f654.lt
  have f664 := f655.below h660 f655.lt
  have f665 := f656.below h660 f656.lt
  have f666 := f657.below h660 f657.lt
  go_wp2_with fail
  refine ⟨inEx E662, ?_⟩
  repeat (refine mix_quiet rfl ?_; go_big_quiet_step (fail); refine wpQuiet_nil ?_)
  refine mix_nil rfl ?_
  clear t0 t1 t2 tl
  go_wp2_with fail
  refine (tube_any _).mono ?_
  rintro e x667 ⟨Ab668, Ad669, rfl, g670, h671⟩
  have B672 := ex_trans B661 h671
  go_wp2_with fail
  refine (spring_any _).mono ?_
  rintro e x673 ⟨Ah674, rfl, g675, h676⟩
  have B677 := ex_trans B672 h676
  have f678 := (g670.below h676).up h676.size
  go_wp2_with fail
  refine (three_any _).mono ?_
  rintro e x679 ⟨Ai680, rfl, g681, h682⟩
  have B683 := ex_trans B677 h682
  have f684 := (f678.below h682).up h682.size
  have f685 := (g675.below h682).up h682.size
  go_wp2_with fail
  refine (N_zeros3 _ _ _ _ none none none _ f684 f685 g681).mono ?_
  rintro e x686 ⟨rfl, h687⟩
  have B688 := ex_trans B683 h687
  go_wp2_with fail
  refine (tube_any _).mono ?_
  rintro e x689 ⟨Ab690, Ad691, rfl, g692, h693⟩
  have B694 := ex_trans B688 h693
  go_wp2_with fail
  refine (spring_any _).mono ?_
  rintro e x695 ⟨Ah696, rfl, g697, h698⟩
  have B699 := ex_trans B694 h698
  have f700 := (g692.below h698).up h698.size
  go_wp2_with fail
  refine (three_any _).mono ?_
  rintro e x701 ⟨Ai702, rfl, g703, h704⟩
  have B705 := ex_trans B699 h704
  have f706 := (f700.below h704).up h704.size
  have f707 := (g697.below h704).up h704.size
  go_wp2_with fail
  refine (N_shows2 _ _ _ _ none none none _ f706 f707 g703).mono ?_
  rintro e x708 ⟨rfl, h709⟩
  have B710 := ex_trans B705 h709
  go_wp2_with fail
  refine (tube_any _).mono ?_
  rintro e x711 ⟨Ab712, Ad713, rfl, g714, h715⟩
  have B716 := ex_trans B710 h715
  go_wp2_with fail
  refine (N_zerosE _ _ none none none none none _ g714).mono ?_
  rintro e x717 ⟨rfl, h718⟩
  have B719 := ex_trans B716 h718
  obtain ⟨oc, hoc, hmks⟩ := run_make17
  go_wp2_with fail
  refine Code.wp_mono (Q := NQ2 x717) ?_ ?_
  rotate_left
  · refine wp_region_ext_tq 7 (.fork 0 (.loud 1 (.loud 2 (.quiet 3 (.quiet 4 (.quiet 5 (.quiet 6 .done)))))) 1 (.loud 0 (.loud 2 (.quiet 3 (.quiet 4 (.quiet 5 (.quiet 6 .done))))))) (by kernel_rfl) (by kernel_rfl) (by rintro d v c a w ⟨h, _⟩; cases h) ?_
    have X720 := (Below.refl x717.heap.size x717).drew
    have E721 := X720
    have B722 := ex_trans B719 X720
    generalize x717.drew = D723 at *
    refine tq_fork rfl rfl ?_ ?_
    · go_wp2_with fail
      refine (tube_any _).mono ?_
      rintro e x724 ⟨Ab725, Ad726, rfl, g727, h728⟩
      have B729 := ex_trans B722 h728
      have E730 := ex_trans E721 h728
      go_wp2_with fail
      refine ⟨inEx E730, ?_⟩
      refine tq_loud rfl ?_
      have X731 := (Below.refl x724.heap.size x724).alloc (Nat.le_refl _) (.cells oc 37)
      have q732 : Blk (x724.alloc (.cells oc 37)) x724.heap.size 37 oc := Blk.new _ _ _
      have B734 := ex_trans B729 X731
      have E735 := ex_trans E730 X731
      have f736 := (g727.below X731).up X731.size
      go_wp2_with fail
      refine ⟨inEx E735, ?_⟩
      generalize x724.alloc (.cells oc 37) = D733 at *
      refine tq_loud rfl ?_
      go_wp2_with fail
      refine (N_zeros17 _ _ _ none none none none _ f736 (zer17 hoc q732)).mono ?_
      rintro e x737 ⟨rfl, h738⟩
      have B739 := ex_trans B734 h738
      have E740 := ex_trans E735 h738
      have f741 := q732.below h738 q732.lt
      go_wp2_with fail
      refine ⟨inEx E740, ?_⟩
      repeat (refine tq_quiet rfl ?_; go_big_quiet_step (fail); refine wpQuiet_nil ?_)
      refine tq_done (r := [_]) rfl ?_
      go_wp2
      exact ⟨rfl, E740, exFrame' (by kernel_rfl)⟩
    · have X742 := (Below.refl D723.heap.size D723).alloc (Nat.le_refl _) (.cells oc 37)
      have q743 : Blk (D723.alloc (.cells oc 37)) D723.heap.size 37 oc := Blk.new _ _ _
      have B745 := ex_trans B722 X742
      have E746 := ex_trans E721 X742
      go_wp2_with fail
      refine ⟨inEx E746, ?_⟩
      generalize D723.alloc (.cells oc 37) = D744 at *
      refine tq_loud rfl ?_
      go_wp2_with fail
      refine (tube_any _).mono ?_
      rintro e x747 ⟨Ab748, Ad749, rfl, g750, h751⟩
      have B752 := ex_trans B745 h751
      have E753 := ex_trans E746 h751
      have f754 := q743.below h751 q743.lt
      go_wp2_with fail
      refine ⟨inEx E753, ?_⟩
      refine tq_loud rfl ?_
      go_wp2_with fail
      refine (N_zeros17 _ _ _ none none none none _ g750 (zer17 hoc f754)).mono ?_
      rintro e x755 ⟨rfl, h756⟩
      have B757 := ex_trans B752 h756
      have E758 := ex_trans E753 h756
      have f759 := f754.below h756 f754.lt
      go_wp2_with fail
      refine ⟨inEx E758, ?_⟩
      repeat (refine tq_quiet rfl ?_; go_big_quiet_step (fail); refine wpQuiet_nil ?_)
      refine tq_done (r := [_]) rfl ?_
      go_wp2
      exact ⟨rfl, E758, exFrame' (by kernel_rfl)⟩
  rintro e a' W760 ⟨rfl, h761, u, rfl⟩
  clear hmks hoc
  have B762 := ex_trans B719 h761
  go_wp2_with fail
  refine (tube_any _).mono ?_
  rintro e x763 ⟨Ab764, Ad765, rfl, g766, h767⟩
  have B768 := ex_trans B762 h767
  go_wp2_with fail
  refine (spring_any _).mono ?_
  rintro e x769 ⟨Ah770, rfl, g771, h772⟩
  have B773 := ex_trans B768 h772
  have f774 := (g766.below h772).up h772.size
  have X775 := (Below.refl x769.heap.size x769).alloc (Nat.le_refl _) (.cells #[.int .i64 4, .int .i64 0, .int .i64 0] 95)
  have q776 : Blk (x769.alloc (.cells #[.int .i64 4, .int .i64 0, .int .i64 0] 95)) x769.heap.size 95 #[.int .i64 4, .int .i64 0, .int .i64 0] := Blk.new _ _ _
  have B777 := ex_trans B773 X775
  have f778 := (f774.below X775).up X775.size
  have f779 := (g771.below X775).up X775.size
  go_wp2_with fail
  refine (N_zeros4 _ _ _ _ none none none _ f778 f779 (ice1 q776)).mono ?_
  rintro e x780 ⟨rfl, h781⟩
  have B782 := ex_trans B777 h781
  go_wp2_with fail
  refine (tube_any _).mono ?_
  rintro e x783 ⟨Ab784, Ad785, rfl, g786, h787⟩
  have B788 := ex_trans B782 h787
  go_wp2_with fail
  refine (spring_any _).mono ?_
  rintro e x789 ⟨Ah790, rfl, g791, h792⟩
  have B793 := ex_trans B788 h792
  have f794 := (g786.below h792).up h792.size
  go_wp2_with fail
  refine (N_holdsA _ _ _ none none none none _ f794 g791).mono ?_
  rintro e x795 ⟨rfl, h796⟩
  have B797 := ex_trans B793 h796
  go_wp2_with fail
  refine (tube_any _).mono ?_
  rintro e x798 ⟨Ab799, Ad800, rfl, g801, h802⟩
  have B803 := ex_trans B797 h802
  go_wp2_with fail
  refine (spring_any _).mono ?_
  rintro e x804 ⟨Ah805, rfl, g806, h807⟩
  have B808 := ex_trans B803 h807
  have f809 := (g801.below h807).up h807.size
  go_wp2_with fail
  refine (N_holdsB _ _ _ none none none none _ f809 g806).mono ?_
  rintro e x810 ⟨rfl, h811⟩
  have B812 := ex_trans B808 h811
  go_wp2_with fail
  refine (tube_any _).mono ?_
  rintro e x813 ⟨Ab814, Ad815, rfl, g816, h817⟩
  have B818 := ex_trans B812 h817
  go_wp2_with fail
  refine (spring_any _).mono ?_
  rintro e x819 ⟨Ah820, rfl, g821, h822⟩
  have B823 := ex_trans B818 h822
  have f824 := (g816.below h822).up h822.size
  go_wp2_with fail
  refine (three_any _).mono ?_
  rintro e x825 ⟨Ai826, rfl, g827, h828⟩
  have B829 := ex_trans B823 h828
  have f830 := (f824.below h828).up h828.size
  have f831 := (g821.below h828).up h828.size
  go_wp2_with fail
  refine (N_holdsC _ _ _ _ none none none _ f830 f831 g827).mono ?_
  rintro e x832 ⟨rfl, h833⟩
  have B834 := ex_trans B829 h833
  have hwB : w.heap.size ≤ x832.heap.size := B834.size
  go_wp2_with fail
  refine (tube_blk _).mono ?_
  rintro e x835 ⟨p1, q1, rfl, gp1, gq1, pq1, bp1, bq1, h836⟩
  have lp1 := bp1.lt
  have lq1 := bq1.lt
  have ls1 := h836.size
  have B837 := ex_trans B834 h836
  go_wp2_with fail
  refine (tube_blk _).mono ?_
  rintro e x838 ⟨p2, q2, rfl, gp2, gq2, pq2, bp2, bq2, h839⟩
  have lp2 := bp2.lt
  have lq2 := bq2.lt
  have ls2 := h839.size
  have B840 := ex_trans B837 h839
  have f841 := bp1.below h839 bp1.lt
  have f842 := bq1.below h839 bq1.lt
  go_wp2_with fail
  refine (tube_blk _).mono ?_
  rintro e x843 ⟨p3, q3, rfl, gp3, gq3, pq3, bp3, bq3, h844⟩
  have lp3 := bp3.lt
  have lq3 := bq3.lt
  have ls3 := h844.size
  have B845 := ex_trans B840 h844
  have f846 := f841.below h844 f841.lt
  have f847 := f842.below h844 f842.lt
  have f848 := bp2.below h844 bp2.lt
  have f849 := bq2.below h844 bq2.lt
  go_wp2_with fail
  refine (tube_blk _).mono ?_
  rintro e x850 ⟨p4, q4, rfl, gp4, gq4, pq4, bp4, bq4, h851⟩
  have lp4 := bp4.lt
  have lq4 := bq4.lt
  have ls4 := h851.size
  have B852 := ex_trans B845 h851
  have f853 := f846.below h851 f846.lt
  have f854 := f847.below h851 f847.lt
  have f855 := f848.below h851 f848.lt
  have f856 := f849.below h851 f849.lt
  have f857 := bp3.below h851 bp3.lt
  have f858 := bq3.below h851 bq3.lt
  have hxw : w.heap.size ≤ x850.heap.size := B852.size
  have X859 : Below x850.heap.size x850 ((((x850.alloc (.cells #[(.int .i64 0), (.slice (some ⟨p1, 0, none⟩) 2 2), (.slice (some ⟨q1, 0, none⟩) 2 2), (.int .i64 2), (.int .i64 4)] 39)).alloc (.cells #[(.int .i64 0), (.slice (some ⟨p2, 0, none⟩) 2 2), (.slice (some ⟨q2, 0, none⟩) 2 2), (.int .i64 2), (.int .i64 4)] 39)).alloc (.cells #[(.int .i64 0), (.slice (some ⟨p3, 0, none⟩) 2 2), (.slice (some ⟨q3, 0, none⟩) 2 2), (.int .i64 2), (.int .i64 4)] 39)).alloc (.cells #[(.int .i64 0), (.slice (some ⟨p4, 0, none⟩) 2 2), (.slice (some ⟨q4, 0, none⟩) 2 2), (.int .i64 2), (.int .i64 4)] 39)) := ex_alloc (ex_alloc (ex_alloc (ex_alloc (Below.refl _ _) _) _) _) _
  have G1 : Blk ((((x850.alloc (.cells #[(.int .i64 0), (.slice (some ⟨p1, 0, none⟩) 2 2), (.slice (some ⟨q1, 0, none⟩) 2 2), (.int .i64 2), (.int .i64 4)] 39)).alloc (.cells #[(.int .i64 0), (.slice (some ⟨p2, 0, none⟩) 2 2), (.slice (some ⟨q2, 0, none⟩) 2 2), (.int .i64 2), (.int .i64 4)] 39)).alloc (.cells #[(.int .i64 0), (.slice (some ⟨p3, 0, none⟩) 2 2), (.slice (some ⟨q3, 0, none⟩) 2 2), (.int .i64 2), (.int .i64 4)] 39)).alloc (.cells #[(.int .i64 0), (.slice (some ⟨p4, 0, none⟩) 2 2), (.slice (some ⟨q4, 0, none⟩) 2 2), (.int .i64 2), (.int .i64 4)] 39)) (x850.heap.size) 39 #[(.int .i64 0), (.slice (some ⟨p1, 0, none⟩) 2 2), (.slice (some ⟨q1, 0, none⟩) 2 2), (.int .i64 2), (.int .i64 4)] := (((Blk.new _ _ _).alloc _).alloc _).alloc _
  have G2 : Blk ((((x850.alloc (.cells #[(.int .i64 0), (.slice (some ⟨p1, 0, none⟩) 2 2), (.slice (some ⟨q1, 0, none⟩) 2 2), (.int .i64 2), (.int .i64 4)] 39)).alloc (.cells #[(.int .i64 0), (.slice (some ⟨p2, 0, none⟩) 2 2), (.slice (some ⟨q2, 0, none⟩) 2 2), (.int .i64 2), (.int .i64 4)] 39)).alloc (.cells #[(.int .i64 0), (.slice (some ⟨p3, 0, none⟩) 2 2), (.slice (some ⟨q3, 0, none⟩) 2 2), (.int .i64 2), (.int .i64 4)] 39)).alloc (.cells #[(.int .i64 0), (.slice (some ⟨p4, 0, none⟩) 2 2), (.slice (some ⟨q4, 0, none⟩) 2 2), (.int .i64 2), (.int .i64 4)] 39)) (x850.heap.size + 1) 39 #[(.int .i64 0), (.slice (some ⟨p2, 0, none⟩) 2 2), (.slice (some ⟨q2, 0, none⟩) 2 2), (.int .i64 2), (.int .i64 4)] := ((Blk.new' _ _ _ (by simp)).alloc _).alloc _
  have G3 : Blk ((((x850.alloc (.cells #[(.int .i64 0), (.slice (some ⟨p1, 0, none⟩) 2 2), (.slice (some ⟨q1, 0, none⟩) 2 2), (.int .i64 2), (.int .i64 4)] 39)).alloc (.cells #[(.int .i64 0), (.slice (some ⟨p2, 0, none⟩) 2 2), (.slice (some ⟨q2, 0, none⟩) 2 2), (.int .i64 2), (.int .i64 4)] 39)).alloc (.cells #[(.int .i64 0), (.slice (some ⟨p3, 0, none⟩) 2 2), (.slice (some ⟨q3, 0, none⟩) 2 2), (.int .i64 2), (.int .i64 4)] 39)).alloc (.cells #[(.int .i64 0), (.slice (some ⟨p4, 0, none⟩) 2 2), (.slice (some ⟨q4, 0, none⟩) 2 2), (.int .i64 2), (.int .i64 4)] 39)) (x850.heap.size + 1 + 1) 39 #[(.int .i64 0), (.slice (some ⟨p3, 0, none⟩) 2 2), (.slice (some ⟨q3, 0, none⟩) 2 2), (.int .i64 2), (.int .i64 4)] := (Blk.new' _ _ _ (by simp)).alloc _
  have G4 : Blk ((((x850.alloc (.cells #[(.int .i64 0), (.slice (some ⟨p1, 0, none⟩) 2 2), (.slice (some ⟨q1, 0, none⟩) 2 2), (.int .i64 2), (.int .i64 4)] 39)).alloc (.cells #[(.int .i64 0), (.slice (some ⟨p2, 0, none⟩) 2 2), (.slice (some ⟨q2, 0, none⟩) 2 2), (.int .i64 2), (.int .i64 4)] 39)).alloc (.cells #[(.int .i64 0), (.slice (some ⟨p3, 0, none⟩) 2 2), (.slice (some ⟨q3, 0, none⟩) 2 2), (.int .i64 2), (.int .i64 4)] 39)).alloc (.cells #[(.int .i64 0), (.slice (some ⟨p4, 0, none⟩) 2 2), (.slice (some ⟨q4, 0, none⟩) 2 2), (.int .i64 2), (.int .i64 4)] 39)) (x850.heap.size + 1 + 1 + 1) 39 #[(.int .i64 0), (.slice (some ⟨p4, 0, none⟩) 2 2), (.slice (some ⟨q4, 0, none⟩) 2 2), (.int .i64 2), (.int .i64 4)] := Blk.new' _ _ _ (by simp)
  have B860 := ex_trans B852 X859
  have f861 := f853.below X859 f853.lt
  have f862 := f854.below X859 f854.lt
  have f863 := f855.below X859 f855.lt
  have f864 := f856.below X859 f856.lt
  have f865 := f857.below X859 f857.lt
  have f866 := f858.below X859 f858.lt
  have f867 := bp4.below X859 bp4.lt
  have f868 := bq4.below X859 bq4.lt
  go_wp2_with fail
  generalize ((((x850.alloc (.cells #[(.int .i64 0), (.slice (some ⟨p1, 0, none⟩) 2 2), (.slice (some ⟨q1, 0, none⟩) 2 2), (.int .i64 2), (.int .i64 4)] 39)).alloc (.cells #[(.int .i64 0), (.slice (some ⟨p2, 0, none⟩) 2 2), (.slice (some ⟨q2, 0, none⟩) 2 2), (.int .i64 2), (.int .i64 4)] 39)).alloc (.cells #[(.int .i64 0), (.slice (some ⟨p3, 0, none⟩) 2 2), (.slice (some ⟨q3, 0, none⟩) 2 2), (.int .i64 2), (.int .i64 4)] 39)).alloc (.cells #[(.int .i64 0), (.slice (some ⟨p4, 0, none⟩) 2 2), (.slice (some ⟨q4, 0, none⟩) 2 2), (.int .i64 2), (.int .i64 4)] 39)) = D869 at *
  refine (between_any 2 6 _).mono ?_
  rintro e y870 ⟨rfl, h871⟩
  have B872 := ex_trans B860 h871
  have f873 := f861.below h871 f861.lt
  have f874 := f862.below h871 f862.lt
  have f875 := f863.below h871 f863.lt
  have f876 := f864.below h871 f864.lt
  have f877 := f865.below h871 f865.lt
  have f878 := f866.below h871 f866.lt
  have f879 := f867.below h871 f867.lt
  have f880 := f868.below h871 f868.lt
  have f881 := G1.below h871 G1.lt
  have f882 := G2.below h871 G2.lt
  have f883 := G3.below h871 G3.lt
  have f884 := G4.below h871 G4.lt
  have z1_c0 : y870.cell? ⟨x850.heap.size, 0, none⟩ = some (.int .i64 0) := f881.cell 0
  have z1_c1 : y870.cell? ⟨x850.heap.size, 1, none⟩ = some (.slice (some ⟨p1, 0, none⟩) 2 2) := f881.cell 1
  have z1_c2 : y870.cell? ⟨x850.heap.size, 2, none⟩ = some (.slice (some ⟨q1, 0, none⟩) 2 2) := f881.cell 2
  have z1_c3 : y870.cell? ⟨x850.heap.size, 3, none⟩ = some (.int .i64 2) := f881.cell 3
  have z1_c4 : y870.cell? ⟨x850.heap.size, 4, none⟩ = some (.int .i64 4) := f881.cell 4
  have z1_f3 := f881.frozen 3
  have z1_f4 := f881.frozen 4
  have z1_l := f881.lt
  go_wp2_with (refine pause_at 169 rfl ?_)
  clear z1_c0 z1_c1 z1_c2 z1_c3 z1_c4 z1_f3 z1_f4 z1_l
  have B885 : Below w.heap.size w ((y870.setCell ⟨x850.heap.size, 3, none⟩ (.int .i64 2)).setCell ⟨x850.heap.size, 4, none⟩ (.int .i64 6)) := (ex_set (ex_set B872 (by show w.heap.size ≤ x850.heap.size; omega) _) (by show w.heap.size ≤ x850.heap.size; omega) _)
  have f886 : Blk ((y870.setCell ⟨x850.heap.size, 3, none⟩ (.int .i64 2)).setCell ⟨x850.heap.size, 4, none⟩ (.int .i64 6)) (p1) 97 #[(.int .i64 0), (.int .i64 1), (.int .i64 2), (.int .i64 3), (.int .i64 0), (.int .i64 1)] := ((f873.far (by show p1 ≠ x850.heap.size; omega) _).far (by show p1 ≠ x850.heap.size; omega) _)
  have f887 : Blk ((y870.setCell ⟨x850.heap.size, 3, none⟩ (.int .i64 2)).setCell ⟨x850.heap.size, 4, none⟩ (.int .i64 6)) (q1) 99 #[(.int .i64 100), (.int .i64 10), (.int .i64 300), (.int .i64 25)] := ((f874.far (by show q1 ≠ x850.heap.size; omega) _).far (by show q1 ≠ x850.heap.size; omega) _)
  have f888 : Blk ((y870.setCell ⟨x850.heap.size, 3, none⟩ (.int .i64 2)).setCell ⟨x850.heap.size, 4, none⟩ (.int .i64 6)) (p2) 97 #[(.int .i64 0), (.int .i64 1), (.int .i64 2), (.int .i64 3), (.int .i64 0), (.int .i64 1)] := ((f875.far (by show p2 ≠ x850.heap.size; omega) _).far (by show p2 ≠ x850.heap.size; omega) _)
  have f889 : Blk ((y870.setCell ⟨x850.heap.size, 3, none⟩ (.int .i64 2)).setCell ⟨x850.heap.size, 4, none⟩ (.int .i64 6)) (q2) 99 #[(.int .i64 100), (.int .i64 10), (.int .i64 300), (.int .i64 25)] := ((f876.far (by show q2 ≠ x850.heap.size; omega) _).far (by show q2 ≠ x850.heap.size; omega) _)
  have f890 : Blk ((y870.setCell ⟨x850.heap.size, 3, none⟩ (.int .i64 2)).setCell ⟨x850.heap.size, 4, none⟩ (.int .i64 6)) (p3) 97 #[(.int .i64 0), (.int .i64 1), (.int .i64 2), (.int .i64 3), (.int .i64 0), (.int .i64 1)] := ((f877.far (by show p3 ≠ x850.heap.size; omega) _).far (by show p3 ≠ x850.heap.size; omega) _)
  have f891 : Blk ((y870.setCell ⟨x850.heap.size, 3, none⟩ (.int .i64 2)).setCell ⟨x850.heap.size, 4, none⟩ (.int .i64 6)) (q3) 99 #[(.int .i64 100), (.int .i64 10), (.int .i64 300), (.int .i64 25)] := ((f878.far (by show q3 ≠ x850.heap.size; omega) _).far (by show q3 ≠ x850.heap.size; omega) _)
  have f892 : Blk ((y870.setCell ⟨x850.heap.size, 3, none⟩ (.int .i64 2)).setCell ⟨x850.heap.size, 4, none⟩ (.int .i64 6)) (p4) 97 #[(.int .i64 0), (.int .i64 1), (.int .i64 2), (.int .i64 3), (.int .i64 0), (.int .i64 1)] := ((f879.far (by show p4 ≠ x850.heap.size; omega) _).far (by show p4 ≠ x850.heap.size; omega) _)
  have f893 : Blk ((y870.setCell ⟨x850.heap.size, 3, none⟩ (.int .i64 2)).setCell ⟨x850.heap.size, 4, none⟩ (.int .i64 6)) (q4) 99 #[(.int .i64 100), (.int .i64 10), (.int .i64 300), (.int .i64 25)] := ((f880.far (by show q4 ≠ x850.heap.size; omega) _).far (by show q4 ≠ x850.heap.size; omega) _)
  have f894 : Blk ((y870.setCell ⟨x850.heap.size, 3, none⟩ (.int .i64 2)).setCell ⟨x850.heap.size, 4, none⟩ (.int .i64 6)) (x850.heap.size) 39 #[(.int .i64 0), (.slice (some ⟨p1, 0, none⟩) 2 2), (.slice (some ⟨q1, 0, none⟩) 2 2), (.int .i64 2), (.int .i64 6)] := by
    have := ((f881.set_ 3 (.int .i64 2)).set_ 4 (.int .i64 6))
    simp only [List.setIfInBounds_toArray, List.set_cons_zero, List.set_cons_succ] at this
    exact this
  have f895 : Blk ((y870.setCell ⟨x850.heap.size, 3, none⟩ (.int .i64 2)).setCell ⟨x850.heap.size, 4, none⟩ (.int .i64 6)) (x850.heap.size + 1) 39 #[(.int .i64 0), (.slice (some ⟨p2, 0, none⟩) 2 2), (.slice (some ⟨q2, 0, none⟩) 2 2), (.int .i64 2), (.int .i64 4)] := ((f882.far (by show x850.heap.size + 1 ≠ x850.heap.size; omega) _).far (by show x850.heap.size + 1 ≠ x850.heap.size; omega) _)
  have f896 : Blk ((y870.setCell ⟨x850.heap.size, 3, none⟩ (.int .i64 2)).setCell ⟨x850.heap.size, 4, none⟩ (.int .i64 6)) (x850.heap.size + 1 + 1) 39 #[(.int .i64 0), (.slice (some ⟨p3, 0, none⟩) 2 2), (.slice (some ⟨q3, 0, none⟩) 2 2), (.int .i64 2), (.int .i64 4)] := ((f883.far (by show x850.heap.size + 1 + 1 ≠ x850.heap.size; omega) _).far (by show x850.heap.size + 1 + 1 ≠ x850.heap.size; omega) _)
  have f897 : Blk ((y870.setCell ⟨x850.heap.size, 3, none⟩ (.int .i64 2)).setCell ⟨x850.heap.size, 4, none⟩ (.int .i64 6)) (x850.heap.size + 1 + 1 + 1) 39 #[(.int .i64 0), (.slice (some ⟨p4, 0, none⟩) 2 2), (.slice (some ⟨q4, 0, none⟩) 2 2), (.int .i64 2), (.int .i64 4)] := ((f884.far (by show x850.heap.size + 1 + 1 + 1 ≠ x850.heap.size; omega) _).far (by show x850.heap.size + 1 + 1 + 1 ≠ x850.heap.size; omega) _)
  generalize ((y870.setCell ⟨x850.heap.size, 3, none⟩ (.int .i64 2)).setCell ⟨x850.heap.size, 4, none⟩ (.int .i64 6)) = V898 at *
  refine Paused.mk ?_
  have z2_c0 : V898.cell? ⟨x850.heap.size + 1, 0, none⟩ = some (.int .i64 0) := f895.cell 0
  have z2_c1 : V898.cell? ⟨x850.heap.size + 1, 1, none⟩ = some (.slice (some ⟨p2, 0, none⟩) 2 2) := f895.cell 1
  have z2_c2 : V898.cell? ⟨x850.heap.size + 1, 2, none⟩ = some (.slice (some ⟨q2, 0, none⟩) 2 2) := f895.cell 2
  have z2_c3 : V898.cell? ⟨x850.heap.size + 1, 3, none⟩ = some (.int .i64 2) := f895.cell 3
  have z2_c4 : V898.cell? ⟨x850.heap.size + 1, 4, none⟩ = some (.int .i64 4) := f895.cell 4
  have z2_l := f895.lt
  have z3_c0 : V898.cell? ⟨p2, 0, none⟩ = some (.int .i64 0) := f888.cell 0
  have z3_c1 : V898.cell? ⟨p2, 1, none⟩ = some (.int .i64 1) := f888.cell 1
  have z3_c2 : V898.cell? ⟨p2, 2, none⟩ = some (.int .i64 2) := f888.cell 2
  have z3_c3 : V898.cell? ⟨p2, 3, none⟩ = some (.int .i64 3) := f888.cell 3
  have z3_c4 : V898.cell? ⟨p2, 4, none⟩ = some (.int .i64 0) := f888.cell 4
  have z3_c5 : V898.cell? ⟨p2, 5, none⟩ = some (.int .i64 1) := f888.cell 5
  have z3_f0 := f888.frozen 0
  have z3_l := f888.lt
  go_wp2_with (refine pause_at 173 rfl ?_)
  clear z2_c0 z2_c1 z2_c2 z2_c3 z2_c4 z2_l z3_c0 z3_c1 z3_c2 z3_c3 z3_c4 z3_c5 z3_f0 z3_l
  have B899 : Below w.heap.size w (V898.setCell ⟨p2, 0, none⟩ (.int .i64 1)) := (ex_set B885 (by show w.heap.size ≤ p2; omega) _)
  have f900 : Blk (V898.setCell ⟨p2, 0, none⟩ (.int .i64 1)) (p1) 97 #[(.int .i64 0), (.int .i64 1), (.int .i64 2), (.int .i64 3), (.int .i64 0), (.int .i64 1)] := (f886.far (by show p1 ≠ p2; omega) _)
  have f901 : Blk (V898.setCell ⟨p2, 0, none⟩ (.int .i64 1)) (q1) 99 #[(.int .i64 100), (.int .i64 10), (.int .i64 300), (.int .i64 25)] := (f887.far (by show q1 ≠ p2; omega) _)
  have f902 : Blk (V898.setCell ⟨p2, 0, none⟩ (.int .i64 1)) (p2) 97 #[(.int .i64 1), (.int .i64 1), (.int .i64 2), (.int .i64 3), (.int .i64 0), (.int .i64 1)] := by
    have := (f888.set_ 0 (.int .i64 1))
    simp only [List.setIfInBounds_toArray, List.set_cons_zero, List.set_cons_succ] at this
    exact this
  have f903 : Blk (V898.setCell ⟨p2, 0, none⟩ (.int .i64 1)) (q2) 99 #[(.int .i64 100), (.int .i64 10), (.int .i64 300), (.int .i64 25)] := (f889.far (by show q2 ≠ p2; omega) _)
  have f904 : Blk (V898.setCell ⟨p2, 0, none⟩ (.int .i64 1)) (p3) 97 #[(.int .i64 0), (.int .i64 1), (.int .i64 2), (.int .i64 3), (.int .i64 0), (.int .i64 1)] := (f890.far (by show p3 ≠ p2; omega) _)
  have f905 : Blk (V898.setCell ⟨p2, 0, none⟩ (.int .i64 1)) (q3) 99 #[(.int .i64 100), (.int .i64 10), (.int .i64 300), (.int .i64 25)] := (f891.far (by show q3 ≠ p2; omega) _)
  have f906 : Blk (V898.setCell ⟨p2, 0, none⟩ (.int .i64 1)) (p4) 97 #[(.int .i64 0), (.int .i64 1), (.int .i64 2), (.int .i64 3), (.int .i64 0), (.int .i64 1)] := (f892.far (by show p4 ≠ p2; omega) _)
  have f907 : Blk (V898.setCell ⟨p2, 0, none⟩ (.int .i64 1)) (q4) 99 #[(.int .i64 100), (.int .i64 10), (.int .i64 300), (.int .i64 25)] := (f893.far (by show q4 ≠ p2; omega) _)
  have f908 : Blk (V898.setCell ⟨p2, 0, none⟩ (.int .i64 1)) (x850.heap.size) 39 #[(.int .i64 0), (.slice (some ⟨p1, 0, none⟩) 2 2), (.slice (some ⟨q1, 0, none⟩) 2 2), (.int .i64 2), (.int .i64 6)] := (f894.far (by show x850.heap.size ≠ p2; omega) _)
  have f909 : Blk (V898.setCell ⟨p2, 0, none⟩ (.int .i64 1)) (x850.heap.size + 1) 39 #[(.int .i64 0), (.slice (some ⟨p2, 0, none⟩) 2 2), (.slice (some ⟨q2, 0, none⟩) 2 2), (.int .i64 2), (.int .i64 4)] := (f895.far (by show x850.heap.size + 1 ≠ p2; omega) _)
  have f910 : Blk (V898.setCell ⟨p2, 0, none⟩ (.int .i64 1)) (x850.heap.size + 1 + 1) 39 #[(.int .i64 0), (.slice (some ⟨p3, 0, none⟩) 2 2), (.slice (some ⟨q3, 0, none⟩) 2 2), (.int .i64 2), (.int .i64 4)] := (f896.far (by show x850.heap.size + 1 + 1 ≠ p2; omega) _)
  have f911 : Blk (V898.setCell ⟨p2, 0, none⟩ (.int .i64 1)) (x850.heap.size + 1 + 1 + 1) 39 #[(.int .i64 0), (.slice (some ⟨p4, 0, none⟩) 2 2), (.slice (some ⟨q4, 0, none⟩) 2 2), (.int .i64 2), (.int .i64 4)] := (f897.far (by show x850.heap.size + 1 + 1 + 1 ≠ p2; omega) _)
  generalize (V898.setCell ⟨p2, 0, none⟩ (.int .i64 1)) = V912 at *
  refine Paused.mk ?_
  have z4_c0 : V912.cell? ⟨x850.heap.size + 1 + 1, 0, none⟩ = some (.int .i64 0) := f910.cell 0
  have z4_c1 : V912.cell? ⟨x850.heap.size + 1 + 1, 1, none⟩ = some (.slice (some ⟨p3, 0, none⟩) 2 2) := f910.cell 1
  have z4_c2 : V912.cell? ⟨x850.heap.size + 1 + 1, 2, none⟩ = some (.slice (some ⟨q3, 0, none⟩) 2 2) := f910.cell 2
  have z4_c3 : V912.cell? ⟨x850.heap.size + 1 + 1, 3, none⟩ = some (.int .i64 2) := f910.cell 3
  have z4_c4 : V912.cell? ⟨x850.heap.size + 1 + 1, 4, none⟩ = some (.int .i64 4) := f910.cell 4
  have z4_l := f910.lt
  have z5_c0 : V912.cell? ⟨q3, 0, none⟩ = some (.int .i64 100) := f905.cell 0
  have z5_c1 : V912.cell? ⟨q3, 1, none⟩ = some (.int .i64 10) := f905.cell 1
  have z5_c2 : V912.cell? ⟨q3, 2, none⟩ = some (.int .i64 300) := f905.cell 2
  have z5_c3 : V912.cell? ⟨q3, 3, none⟩ = some (.int .i64 25) := f905.cell 3
  have z5_f3 := f905.frozen 3
  have z5_l := f905.lt
  go_wp2_with (refine pause_at 177 rfl ?_)
  clear z4_c0 z4_c1 z4_c2 z4_c3 z4_c4 z4_l z5_c0 z5_c1 z5_c2 z5_c3 z5_f3 z5_l
  have B913 : Below w.heap.size w (V912.setCell ⟨q3, 3, none⟩ (.int .i64 9)) := (ex_set B899 (by show w.heap.size ≤ q3; omega) _)
  have f914 : Blk (V912.setCell ⟨q3, 3, none⟩ (.int .i64 9)) (p1) 97 #[(.int .i64 0), (.int .i64 1), (.int .i64 2), (.int .i64 3), (.int .i64 0), (.int .i64 1)] := (f900.far (by show p1 ≠ q3; omega) _)
  have f915 : Blk (V912.setCell ⟨q3, 3, none⟩ (.int .i64 9)) (q1) 99 #[(.int .i64 100), (.int .i64 10), (.int .i64 300), (.int .i64 25)] := (f901.far (by show q1 ≠ q3; omega) _)
  have f916 : Blk (V912.setCell ⟨q3, 3, none⟩ (.int .i64 9)) (p2) 97 #[(.int .i64 1), (.int .i64 1), (.int .i64 2), (.int .i64 3), (.int .i64 0), (.int .i64 1)] := (f902.far (by show p2 ≠ q3; omega) _)
  have f917 : Blk (V912.setCell ⟨q3, 3, none⟩ (.int .i64 9)) (q2) 99 #[(.int .i64 100), (.int .i64 10), (.int .i64 300), (.int .i64 25)] := (f903.far (by show q2 ≠ q3; omega) _)
  have f918 : Blk (V912.setCell ⟨q3, 3, none⟩ (.int .i64 9)) (p3) 97 #[(.int .i64 0), (.int .i64 1), (.int .i64 2), (.int .i64 3), (.int .i64 0), (.int .i64 1)] := (f904.far (by show p3 ≠ q3; omega) _)
  have f919 : Blk (V912.setCell ⟨q3, 3, none⟩ (.int .i64 9)) (q3) 99 #[(.int .i64 100), (.int .i64 10), (.int .i64 300), (.int .i64 9)] := by
    have := (f905.set_ 3 (.int .i64 9))
    simp only [List.setIfInBounds_toArray, List.set_cons_zero, List.set_cons_succ] at this
    exact this
  have f920 : Blk (V912.setCell ⟨q3, 3, none⟩ (.int .i64 9)) (p4) 97 #[(.int .i64 0), (.int .i64 1), (.int .i64 2), (.int .i64 3), (.int .i64 0), (.int .i64 1)] := (f906.far (by show p4 ≠ q3; omega) _)
  have f921 : Blk (V912.setCell ⟨q3, 3, none⟩ (.int .i64 9)) (q4) 99 #[(.int .i64 100), (.int .i64 10), (.int .i64 300), (.int .i64 25)] := (f907.far (by show q4 ≠ q3; omega) _)
  have f922 : Blk (V912.setCell ⟨q3, 3, none⟩ (.int .i64 9)) (x850.heap.size) 39 #[(.int .i64 0), (.slice (some ⟨p1, 0, none⟩) 2 2), (.slice (some ⟨q1, 0, none⟩) 2 2), (.int .i64 2), (.int .i64 6)] := (f908.far (by show x850.heap.size ≠ q3; omega) _)
  have f923 : Blk (V912.setCell ⟨q3, 3, none⟩ (.int .i64 9)) (x850.heap.size + 1) 39 #[(.int .i64 0), (.slice (some ⟨p2, 0, none⟩) 2 2), (.slice (some ⟨q2, 0, none⟩) 2 2), (.int .i64 2), (.int .i64 4)] := (f909.far (by show x850.heap.size + 1 ≠ q3; omega) _)
  have f924 : Blk (V912.setCell ⟨q3, 3, none⟩ (.int .i64 9)) (x850.heap.size + 1 + 1) 39 #[(.int .i64 0), (.slice (some ⟨p3, 0, none⟩) 2 2), (.slice (some ⟨q3, 0, none⟩) 2 2), (.int .i64 2), (.int .i64 4)] := (f910.far (by show x850.heap.size + 1 + 1 ≠ q3; omega) _)
  have f925 : Blk (V912.setCell ⟨q3, 3, none⟩ (.int .i64 9)) (x850.heap.size + 1 + 1 + 1) 39 #[(.int .i64 0), (.slice (some ⟨p4, 0, none⟩) 2 2), (.slice (some ⟨q4, 0, none⟩) 2 2), (.int .i64 2), (.int .i64 4)] := (f911.far (by show x850.heap.size + 1 + 1 + 1 ≠ q3; omega) _)
  generalize (V912.setCell ⟨q3, 3, none⟩ (.int .i64 9)) = V926 at *
  refine Paused.mk ?_
  obtain ⟨ob, hob, hmkb⟩ := run_make4
  have X927 := (Below.refl V926.heap.size V926).alloc (Nat.le_refl _) (.cells ob 97)
  have q928 : Blk (V926.alloc (.cells ob 97)) V926.heap.size 97 ob := Blk.new _ _ _
  have hg4 := f925.lt
  have B929 := ex_trans B913 X927
  have f930 := f914.below X927 f914.lt
  have f931 := f915.below X927 f915.lt
  have f932 := f916.below X927 f916.lt
  have f933 := f917.below X927 f917.lt
  have f934 := f918.below X927 f918.lt
  have f935 := f919.below X927 f919.lt
  have f936 := f920.below X927 f920.lt
  have f937 := f921.below X927 f921.lt
  have f938 := f922.below X927 f922.lt
  have f939 := f923.below X927 f923.lt
  have f940 := f924.below X927 f924.lt
  have f941 := f925.below X927 f925.lt
  have z6_c0 : (V926.alloc (.cells ob 97)).cell? ⟨x850.heap.size + 1 + 1 + 1, 0, none⟩ = some (.int .i64 0) := f941.cell 0
  have z6_c1 : (V926.alloc (.cells ob 97)).cell? ⟨x850.heap.size + 1 + 1 + 1, 1, none⟩ = some (.slice (some ⟨p4, 0, none⟩) 2 2) := f941.cell 1
  have z6_c2 : (V926.alloc (.cells ob 97)).cell? ⟨x850.heap.size + 1 + 1 + 1, 2, none⟩ = some (.slice (some ⟨q4, 0, none⟩) 2 2) := f941.cell 2
  have z6_c3 : (V926.alloc (.cells ob 97)).cell? ⟨x850.heap.size + 1 + 1 + 1, 3, none⟩ = some (.int .i64 2) := f941.cell 3
  have z6_c4 : (V926.alloc (.cells ob 97)).cell? ⟨x850.heap.size + 1 + 1 + 1, 4, none⟩ = some (.int .i64 4) := f941.cell 4
  have z6_f1 := f941.frozen 1
  have z6_l := f941.lt
  go_wp2_with (refine pause_at 180 rfl ?_)
  clear z6_c0 z6_c1 z6_c2 z6_c3 z6_c4 z6_f1 z6_l
  have B942 : Below w.heap.size w (V926.setCell ⟨x850.heap.size + 1 + 1 + 1, 1, none⟩ (.slice (some ⟨V926.heap.size, 0, none⟩) 4 4)) := (ex_set B913 (by show w.heap.size ≤ x850.heap.size + 1 + 1 + 1; omega) _)
  have f943 : Blk (V926.setCell ⟨x850.heap.size + 1 + 1 + 1, 1, none⟩ (.slice (some ⟨V926.heap.size, 0, none⟩) 4 4)) (p1) 97 #[(.int .i64 0), (.int .i64 1), (.int .i64 2), (.int .i64 3), (.int .i64 0), (.int .i64 1)] := (f914.far (by show p1 ≠ x850.heap.size + 1 + 1 + 1; omega) _)
  have f944 : Blk (V926.setCell ⟨x850.heap.size + 1 + 1 + 1, 1, none⟩ (.slice (some ⟨V926.heap.size, 0, none⟩) 4 4)) (q1) 99 #[(.int .i64 100), (.int .i64 10), (.int .i64 300), (.int .i64 25)] := (f915.far (by show q1 ≠ x850.heap.size + 1 + 1 + 1; omega) _)
  have f945 : Blk (V926.setCell ⟨x850.heap.size + 1 + 1 + 1, 1, none⟩ (.slice (some ⟨V926.heap.size, 0, none⟩) 4 4)) (p2) 97 #[(.int .i64 1), (.int .i64 1), (.int .i64 2), (.int .i64 3), (.int .i64 0), (.int .i64 1)] := (f916.far (by show p2 ≠ x850.heap.size + 1 + 1 + 1; omega) _)
  have f946 : Blk (V926.setCell ⟨x850.heap.size + 1 + 1 + 1, 1, none⟩ (.slice (some ⟨V926.heap.size, 0, none⟩) 4 4)) (q2) 99 #[(.int .i64 100), (.int .i64 10), (.int .i64 300), (.int .i64 25)] := (f917.far (by show q2 ≠ x850.heap.size + 1 + 1 + 1; omega) _)
  have f947 : Blk (V926.setCell ⟨x850.heap.size + 1 + 1 + 1, 1, none⟩ (.slice (some ⟨V926.heap.size, 0, none⟩) 4 4)) (p3) 97 #[(.int .i64 0), (.int .i64 1), (.int .i64 2), (.int .i64 3), (.int .i64 0), (.int .i64 1)] := (f918.far (by show p3 ≠ x850.heap.size + 1 + 1 + 1; omega) _)
  have f948 : Blk (V926.setCell ⟨x850.heap.size + 1 + 1 + 1, 1, none⟩ (.slice (some ⟨V926.heap.size, 0, none⟩) 4 4)) (q3) 99 #[(.int .i64 100), (.int .i64 10), (.int .i64 300), (.int .i64 9)] := (f919.far (by show q3 ≠ x850.heap.size + 1 + 1 + 1; omega) _)
  have f949 : Blk (V926.setCell ⟨x850.heap.size + 1 + 1 + 1, 1, none⟩ (.slice (some ⟨V926.heap.size, 0, none⟩) 4 4)) (p4) 97 #[(.int .i64 0), (.int .i64 1), (.int .i64 2), (.int .i64 3), (.int .i64 0), (.int .i64 1)] := (f920.far (by show p4 ≠ x850.heap.size + 1 + 1 + 1; omega) _)
  have f950 : Blk (V926.setCell ⟨x850.heap.size + 1 + 1 + 1, 1, none⟩ (.slice (some ⟨V926.heap.size, 0, none⟩) 4 4)) (q4) 99 #[(.int .i64 100), (.int .i64 10), (.int .i64 300), (.int .i64 25)] := (f921.far (by show q4 ≠ x850.heap.size + 1 + 1 + 1; omega) _)
  have f951 : Blk (V926.setCell ⟨x850.heap.size + 1 + 1 + 1, 1, none⟩ (.slice (some ⟨V926.heap.size, 0, none⟩) 4 4)) (x850.heap.size) 39 #[(.int .i64 0), (.slice (some ⟨p1, 0, none⟩) 2 2), (.slice (some ⟨q1, 0, none⟩) 2 2), (.int .i64 2), (.int .i64 6)] := (f922.far (by show x850.heap.size ≠ x850.heap.size + 1 + 1 + 1; omega) _)
  have f952 : Blk (V926.setCell ⟨x850.heap.size + 1 + 1 + 1, 1, none⟩ (.slice (some ⟨V926.heap.size, 0, none⟩) 4 4)) (x850.heap.size + 1) 39 #[(.int .i64 0), (.slice (some ⟨p2, 0, none⟩) 2 2), (.slice (some ⟨q2, 0, none⟩) 2 2), (.int .i64 2), (.int .i64 4)] := (f923.far (by show x850.heap.size + 1 ≠ x850.heap.size + 1 + 1 + 1; omega) _)
  have f953 : Blk (V926.setCell ⟨x850.heap.size + 1 + 1 + 1, 1, none⟩ (.slice (some ⟨V926.heap.size, 0, none⟩) 4 4)) (x850.heap.size + 1 + 1) 39 #[(.int .i64 0), (.slice (some ⟨p3, 0, none⟩) 2 2), (.slice (some ⟨q3, 0, none⟩) 2 2), (.int .i64 2), (.int .i64 4)] := (f924.far (by show x850.heap.size + 1 + 1 ≠ x850.heap.size + 1 + 1 + 1; omega) _)
  have f954 : Blk (V926.setCell ⟨x850.heap.size + 1 + 1 + 1, 1, none⟩ (.slice (some ⟨V926.heap.size, 0, none⟩) 4 4)) (x850.heap.size + 1 + 1 + 1) 39 #[(.int .i64 0), (.slice (some ⟨V926.heap.size, 0, none⟩) 4 4), (.slice (some ⟨q4, 0, none⟩) 2 2), (.int .i64 2), (.int .i64 4)] := by
    have := (f925.set_ 1 (.slice (some ⟨V926.heap.size, 0, none⟩) 4 4))
    simp only [List.setIfInBounds_toArray, List.set_cons_zero, List.set_cons_succ] at this
    exact this
  have hsz : ((V926.setCell ⟨x850.heap.size + 1 + 1 + 1, 1, none⟩ (.slice (some ⟨V926.heap.size, 0, none⟩) 4 4))).heap.size = V926.heap.size := by simp
  generalize (V926.setCell ⟨x850.heap.size + 1 + 1 + 1, 1, none⟩ (.slice (some ⟨V926.heap.size, 0, none⟩) 4 4)) = V955 at *
  refine Paused.mk ?_
  have X956 := (Below.refl V955.heap.size V955).alloc (Nat.le_refl _) (.cells ob 97)
  have q957 : Blk (V955.alloc (.cells ob 97)) V926.heap.size 97 ob := by rw [← hsz]; exact Blk.new _ _ _
  clear hsz
  have B958 := ex_trans B942 X956
  have f959 := f943.below X956 f943.lt
  have f960 := f944.below X956 f944.lt
  have f961 := f945.below X956 f945.lt
  have f962 := f946.below X956 f946.lt
  have f963 := f947.below X956 f947.lt
  have f964 := f948.below X956 f948.lt
  have f965 := f949.below X956 f949.lt
  have f966 := f950.below X956 f950.lt
  have f967 := f951.below X956 f951.lt
  have f968 := f952.below X956 f952.lt
  have f969 := f953.below X956 f953.lt
  have f970 := f954.below X956 f954.lt
  generalize V955.alloc (.cells ob 97) = D971 at *
  clear hmkb
  have z7_c0 : D971.cell? ⟨x850.heap.size, 0, none⟩ = some (.int .i64 0) := f967.cell 0
  have z7_c1 : D971.cell? ⟨x850.heap.size, 1, none⟩ = some (.slice (some ⟨p1, 0, none⟩) 2 2) := f967.cell 1
  have z7_c2 : D971.cell? ⟨x850.heap.size, 2, none⟩ = some (.slice (some ⟨q1, 0, none⟩) 2 2) := f967.cell 2
  have z7_c3 : D971.cell? ⟨x850.heap.size, 3, none⟩ = some (.int .i64 2) := f967.cell 3
  have z7_c4 : D971.cell? ⟨x850.heap.size, 4, none⟩ = some (.int .i64 6) := f967.cell 4
  have z7_l := f967.lt
  go_wp2_with fail
  refine (check_is ⟨0, [⟨0, 1, 2⟩, ⟨3, 0, 1⟩], [⟨100, 10⟩, ⟨300, 25⟩], 2, 6⟩ (some ⟨p1, 0, none⟩) (some ⟨q1, 0, none⟩) 2 2 _ 1 (glIn_blk 0 2 6 f959 f960) (Lib.hid (by decide +kernel))).mono ?_
  rintro e x972 ⟨rfl, h973⟩
  clear z7_c0 z7_c1 z7_c2 z7_c3 z7_c4 z7_l
  have B974 := ex_trans B958 h973
  have f975 := f959.below h973 f959.lt
  have f976 := f960.below h973 f960.lt
  have f977 := f961.below h973 f961.lt
  have f978 := f962.below h973 f962.lt
  have f979 := f963.below h973 f963.lt
  have f980 := f964.below h973 f964.lt
  have f981 := f965.below h973 f965.lt
  have f982 := f966.below h973 f966.lt
  have f983 := f967.below h973 f967.lt
  have f984 := f968.below h973 f968.lt
  have f985 := f969.below h973 f969.lt
  have f986 := f970.below h973 f970.lt
  have f987 := q957.below h973 q957.lt
  have z8_c0 : x972.cell? ⟨x850.heap.size + 1, 0, none⟩ = some (.int .i64 0) := f984.cell 0
  have z8_c1 : x972.cell? ⟨x850.heap.size + 1, 1, none⟩ = some (.slice (some ⟨p2, 0, none⟩) 2 2) := f984.cell 1
  have z8_c2 : x972.cell? ⟨x850.heap.size + 1, 2, none⟩ = some (.slice (some ⟨q2, 0, none⟩) 2 2) := f984.cell 2
  have z8_c3 : x972.cell? ⟨x850.heap.size + 1, 3, none⟩ = some (.int .i64 2) := f984.cell 3
  have z8_c4 : x972.cell? ⟨x850.heap.size + 1, 4, none⟩ = some (.int .i64 4) := f984.cell 4
  have z8_l := f984.lt
  go_wp2_with fail
  refine (check_is ⟨0, [⟨1, 1, 2⟩, ⟨3, 0, 1⟩], [⟨100, 10⟩, ⟨300, 25⟩], 2, 4⟩ (some ⟨p2, 0, none⟩) (some ⟨q2, 0, none⟩) 2 2 _ 1 (glIn_blk 0 2 4 f977 f978) (Lib.hid (by decide +kernel))).mono ?_
  rintro e x988 ⟨rfl, h989⟩
  clear z8_c0 z8_c1 z8_c2 z8_c3 z8_c4 z8_l
  have B990 := ex_trans B974 h989
  have f991 := f975.below h989 f975.lt
  have f992 := f976.below h989 f976.lt
  have f993 := f977.below h989 f977.lt
  have f994 := f978.below h989 f978.lt
  have f995 := f979.below h989 f979.lt
  have f996 := f980.below h989 f980.lt
  have f997 := f981.below h989 f981.lt
  have f998 := f982.below h989 f982.lt
  have f999 := f983.below h989 f983.lt
  have f1000 := f984.below h989 f984.lt
  have f1001 := f985.below h989 f985.lt
  have f1002 := f986.below h989 f986.lt
  have f1003 := f987.below h989 f987.lt
  have z9_c0 : x988.cell? ⟨x850.heap.size + 1 + 1, 0, none⟩ = some (.int .i64 0) := f1001.cell 0
  have z9_c1 : x988.cell? ⟨x850.heap.size + 1 + 1, 1, none⟩ = some (.slice (some ⟨p3, 0, none⟩) 2 2) := f1001.cell 1
  have z9_c2 : x988.cell? ⟨x850.heap.size + 1 + 1, 2, none⟩ = some (.slice (some ⟨q3, 0, none⟩) 2 2) := f1001.cell 2
  have z9_c3 : x988.cell? ⟨x850.heap.size + 1 + 1, 3, none⟩ = some (.int .i64 2) := f1001.cell 3
  have z9_c4 : x988.cell? ⟨x850.heap.size + 1 + 1, 4, none⟩ = some (.int .i64 4) := f1001.cell 4
  have z9_l := f1001.lt
  go_wp2_with fail
  refine (check_is ⟨0, [⟨0, 1, 2⟩, ⟨3, 0, 1⟩], [⟨100, 10⟩, ⟨300, 9⟩], 2, 4⟩ (some ⟨p3, 0, none⟩) (some ⟨q3, 0, none⟩) 2 2 _ 1 (glIn_blk 0 2 4 f995 f996) (Lib.hid (by decide +kernel))).mono ?_
  rintro e x1004 ⟨rfl, h1005⟩
  clear z9_c0 z9_c1 z9_c2 z9_c3 z9_c4 z9_l
  have B1006 := ex_trans B990 h1005
  have f1007 := f991.below h1005 f991.lt
  have f1008 := f992.below h1005 f992.lt
  have f1009 := f993.below h1005 f993.lt
  have f1010 := f994.below h1005 f994.lt
  have f1011 := f995.below h1005 f995.lt
  have f1012 := f996.below h1005 f996.lt
  have f1013 := f997.below h1005 f997.lt
  have f1014 := f998.below h1005 f998.lt
  have f1015 := f999.below h1005 f999.lt
  have f1016 := f1000.below h1005 f1000.lt
  have f1017 := f1001.below h1005 f1001.lt
  have f1018 := f1002.below h1005 f1002.lt
  have f1019 := f1003.below h1005 f1003.lt
  have z10_c0 : x1004.cell? ⟨x850.heap.size + 1 + 1 + 1, 0, none⟩ = some (.int .i64 0) := f1018.cell 0
  have z10_c1 : x1004.cell? ⟨x850.heap.size + 1 + 1 + 1, 1, none⟩ = some (.slice (some ⟨V926.heap.size, 0, none⟩) 4 4) := f1018.cell 1
  have z10_c2 : x1004.cell? ⟨x850.heap.size + 1 + 1 + 1, 2, none⟩ = some (.slice (some ⟨q4, 0, none⟩) 2 2) := f1018.cell 2
  have z10_c3 : x1004.cell? ⟨x850.heap.size + 1 + 1 + 1, 3, none⟩ = some (.int .i64 2) := f1018.cell 3
  have z10_c4 : x1004.cell? ⟨x850.heap.size + 1 + 1 + 1, 4, none⟩ = some (.int .i64 4) := f1018.cell 4
  have z10_l := f1018.lt
  go_wp2_with fail
  refine (check_is ⟨0, [⟨0, 0, 0⟩, ⟨0, 0, 0⟩, ⟨0, 0, 0⟩, ⟨0, 0, 0⟩], [⟨100, 10⟩, ⟨300, 25⟩], 2, 4⟩ (some ⟨V926.heap.size, 0, none⟩) (some ⟨q4, 0, none⟩) 4 2 _ 3 ⟨zer4 hob f1019, (glIn_blk 0 2 4 f1013 f1014).d⟩ (Lib.hid (by decide +kernel))).mono ?_
  rintro e x1020 ⟨rfl, h1021⟩
  clear z10_c0 z10_c1 z10_c2 z10_c3 z10_c4 z10_l
  have B1022 := ex_trans B1006 h1021
  have f1023 := f1007.below h1021 f1007.lt
  have f1024 := f1008.below h1021 f1008.lt
  have f1025 := f1009.below h1021 f1009.lt
  have f1026 := f1010.below h1021 f1010.lt
  have f1027 := f1011.below h1021 f1011.lt
  have f1028 := f1012.below h1021 f1012.lt
  have f1029 := f1013.below h1021 f1013.lt
  have f1030 := f1014.below h1021 f1014.lt
  have f1031 := f1015.below h1021 f1015.lt
  have f1032 := f1016.below h1021 f1016.lt
  have f1033 := f1017.below h1021 f1017.lt
  have f1034 := f1018.below h1021 f1018.lt
  have f1035 := f1019.below h1021 f1019.lt
  go_wp2_with fail
  refine (check_is ⟨0, [], [], 0, 0⟩ none none 0 0 _ 1 ⟨fun h => absurd h (by simp), fun h => absurd h (by simp)⟩ (Lib.hid (by decide +kernel))).mono ?_
  rintro e x1036 ⟨rfl, h1037⟩
  have B1038 := ex_trans B1022 h1037
  have f1039 := f1023.below h1037 f1023.lt
  have f1040 := f1024.below h1037 f1024.lt
  have f1041 := f1025.below h1037 f1025.lt
  have f1042 := f1026.below h1037 f1026.lt
  have f1043 := f1027.below h1037 f1027.lt
  have f1044 := f1028.below h1037 f1028.lt
  have f1045 := f1029.below h1037 f1029.lt
  have f1046 := f1030.below h1037 f1030.lt
  have f1047 := f1031.below h1037 f1031.lt
  have f1048 := f1032.below h1037 f1032.lt
  have f1049 := f1033.below h1037 f1033.lt
  have f1050 := f1034.below h1037 f1034.lt
  have f1051 := f1035.below h1037 f1035.lt
  go_wp2_with fail
  refine (awake_any _).mono ?_
  rintro e x1052 ⟨rfl, h1053⟩
  go_wp2
  go_ret
  exact ⟨rfl, ex_trans B1038 h1053⟩
end Go.Proofs.Ytlgmeofpkfliaaa
end

section
namespace Go.Proofs.Ytlgmeofpkfliaaa.glassNames
open Go.ChangeShapes Go.WideShapes Go.ChangeAt Go.RowKit
set_option linter.unusedVariables false

set_option maxRecDepth 100000 in
theorem lifted (os : Os) (started : os.Started) (H : Type) (enc : TypeId × Value → H) :
    ReturnsInHanded {} Try.checked os 16 .any (Rows.glassNamesSpec.pre6 enc Try.prog Try.f16 Rows.glassNamesRow.domain false) (Rows.glassNamesSpec.post enc Try.prog Try.f16 false true false false) := by
  refine returnsInHanded_of_change (C := Try.checked) own started (by kernel_rfl) Try.func16
    (ChangeSpec.witness6 (enc := enc) (C := Try.checked) false ⟨#[], #[], []⟩ 8 (by kernel_rfl) (by kernel_rfl) (by kernel_rfl) (by kernel_rfl)) ?_
  intro W base args ds gs before hval0 hW hcnd _
  have hval : ∀ (j : Nat) t v, Try.f16.params[j]? = some t → args[j]? = some v → Value.okWide Try.prog W .any base t v := hval0
  have hW0 := hW
  obtain ⟨p, q, hA0, hV, rfl, hfz, hnd⟩ := hW
  have hA : DataW.TrodAll enc Try.prog W 0 (fun _ => true) true Try.f16.params.toList args.toList ds p := hA0
  rw [Try.params16] at hA hval
  obtain ⟨ea, ed, ep⟩ := trodAll_nil hA
  have eargs : args = #[] := by rw [← Array.toArray_toList (xs := args), ea]
  have eds : ds = [] := ed
  subst eargs eds
  obtain ⟨rfl, rfl⟩ := trodVars_none hV

  refine (NamesLaw_any W).mono fun e W' he => ?_
  obtain ⟨rfl, hb⟩ := he
  exact ⟨_, rfl, post_law rfl hW0 rfl rfl trivial hb⟩

theorem over : Rows.glassNamesRow.holds Try.pinned (OpenSpec.ofChange Rows.glassNamesSpec) :=
  OpenClaim.holds_of_wide 16 Try.f16 rfl rfl rfl rfl rfl rfl rfl ⟨rfl, rfl, rfl, rfl, rfl⟩ rfl rfl rfl rfl rfl (by kernel_rfl) Try.func16 (by kernel_rfl)
    (of_decide_eq_true (by kernel_rfl)) (by unfold Func.isWrapper; first | (rw [if_pos (by decide +kernel)]; kernel_rfl) | (rw [if_neg (by decide +kernel)]; exact ⟨rfl, rfl⟩))
    (fun os started H enc _ => lifted os started H enc)

/-- the statement. -/
theorem proved : Rows.GlassNamesSaid :=
  over
#print axioms proved
end Go.Proofs.Ytlgmeofpkfliaaa.glassNames
end
