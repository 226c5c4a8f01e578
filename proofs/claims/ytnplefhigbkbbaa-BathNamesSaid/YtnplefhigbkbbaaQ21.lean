/- Bath's laws: the examples and the errors (plain); a yard whose row may be written. · Regions in two parts: trees one behind the other (what is done ahead of the second one is the same on each way). · The checks of a region's orders, reckoned with numbers: the kernel is through with them in a moment. -/
import Derived.Test.YtnplefhigbkbbaaQ7
import Derived.Test.YtnplefhigbkbbaaQ16
import Derived.Test.YtnplefhigbkbbaaQ1
set_option linter.unusedVariables false
set_option linter.unusedSimpArgs false
set_option linter.unusedSectionVars false
section
namespace Go.Proofs.Ytnplefhigbkbbaa
open Go.RowKit
attribute [local go_sem] Ex.cell? Ex.frozen?

set_option maxRecDepth 100000 in
set_option maxHeartbeats 6400000 in
theorem yard_blk (room : Int) (w : World) :
    Calls Try.prog 66 #[.int .i64 room] w fun e w' => (∃ g, e = .returned (.agg #[.slice (some ⟨g, 0, none⟩) 4 4, .int .i64 room, .int .i64 2]) ∧ w.heap.size ≤ g ∧ Blk w' g 41 #[.int .i64 0, .int .i64 100, .int .i64 50, .int .i64 200, .int .i64 150, .int .i64 300, .int .i64 90, .int .i64 160]) ∧ Below w.heap.size w w' := by
  have hb1 := ex_alloc (Below.refl w.heap.size w) (.cells #[.slice none 0 0, .int .i64 0, .int .i64 0] 65)
  have q1 : Blk (w.alloc (.cells #[.slice none 0 0, .int .i64 0, .int .i64 0] 65)) w.heap.size 65 #[.slice none 0 0, .int .i64 0, .int .i64 0] := Blk.new _ _ _
  go_enter Try.func66, Try.ntmps66
  go_wp2_with fail
  generalize w.alloc (.cells #[.slice none 0 0, .int .i64 0, .int .i64 0] 65) = V at *
  refine (between_law 0 100 V).mono ?_
  rintro e V0 ⟨rfl, h0⟩
  replace hb1 := ex_trans hb1 h0
  replace q1 := q1.below h0 q1.lt
  clear h0
  go_wp2_with fail
  refine (between_law 50 200 V0).mono ?_
  rintro e V1 ⟨rfl, h1⟩
  replace hb1 := ex_trans hb1 h1
  replace q1 := q1.below h1 q1.lt
  clear h1
  go_wp2_with fail
  refine (between_law 150 300 V1).mono ?_
  rintro e V2 ⟨rfl, h2⟩
  replace hb1 := ex_trans hb1 h2
  replace q1 := q1.below h2 q1.lt
  clear h2
  go_wp2_with fail
  refine (between_law 90 160 V2).mono ?_
  rintro e V3 ⟨rfl, h3⟩
  replace hb1 := ex_trans hb1 h3
  replace q1 := q1.below h3 q1.lt
  clear h3
  have hne : V3.heap.size ≠ w.heap.size := by have := q1.lt; omega
  have a0 : V3.cell? ⟨w.heap.size, 0, none⟩ = some (.slice none 0 0) := q1.cell 0
  have a1 : V3.cell? ⟨w.heap.size, 1, none⟩ = some (.int .i64 0) := q1.cell 1
  have a2 : V3.cell? ⟨w.heap.size, 2, none⟩ = some (.int .i64 0) := q1.cell 2
  have l1 := q1.lt
  have f1 := q1.frozen0
  have q2 := ((q1.set_ 0 (.slice (some ⟨V3.heap.size, 0, none⟩) 4 4)).set_ 1 (.int .i64 room)).set_ 2 (.int .i64 2)
  simp only [List.setIfInBounds_toArray, List.set_cons_zero, List.set_cons_succ] at q2
  have hb2 := ex_set (p := ⟨w.heap.size, 2, none⟩) (ex_set (p := ⟨w.heap.size, 1, none⟩) (ex_set (p := ⟨w.heap.size, 0, none⟩) hb1 (Nat.le_refl _) (.slice (some ⟨V3.heap.size, 0, none⟩) 4 4)) (Nat.le_refl _) (.int .i64 room)) (Nat.le_refl _) (.int .i64 2)
  have q3 := q2.alloc (.cells #[.int .i64 0, .int .i64 100, .int .i64 50, .int .i64 200, .int .i64 150, .int .i64 300, .int .i64 90, .int .i64 160] 41)
  have hb3 := ex_alloc hb2 (.cells #[.int .i64 0, .int .i64 100, .int .i64 50, .int .i64 200, .int .i64 150, .int .i64 300, .int .i64 90, .int .i64 160] 41)
  have y3 : Blk ((((V3.setCell ⟨w.heap.size, 0, none⟩ (.slice (some ⟨V3.heap.size, 0, none⟩) 4 4)).setCell ⟨w.heap.size, 1, none⟩ (.int .i64 room)).setCell ⟨w.heap.size, 2, none⟩ (.int .i64 2)).alloc (.cells #[.int .i64 0, .int .i64 100, .int .i64 50, .int .i64 200, .int .i64 150, .int .i64 300, .int .i64 90, .int .i64 160] 41)) V3.heap.size 41 #[.int .i64 0, .int .i64 100, .int .i64 50, .int .i64 200, .int .i64 150, .int .i64 300, .int .i64 90, .int .i64 160] := Blk.new' _ _ _ (by simp)
  go_wp2_with fail
  refine bodyPost_ret (results_cell_row rfl _ _ w.heap.size 65 #[.slice (some ⟨V3.heap.size, 0, none⟩) 4 4, .int .i64 room, .int .i64 2] (0, 0) _ rfl q3 rfl rfl rfl) rfl ?_
  exact ⟨⟨V3.heap.size, rfl, by have := q1.lt; omega, y3⟩, hb3⟩
theorem thr_diff20 : EndsOf (DiffZ (thrS []) 2 0) (-3) 5 := by
  refine ⟨⟨_, _, thr_mk (a := 1) (b := -3) (c := 201) (d := 252) (by omega) (by omega) (by omega) (by omega) (by omega) (by omega), rfl⟩, ⟨_, _, thr_mk (a := 5) (b := 5) (c := 199) (d := 246) (by omega) (by omega) (by omega) (by omega) (by omega) (by omega), rfl⟩, ?_⟩
  rintro z ⟨o, h, ht, rfl⟩
  have := thr_tru ht
  omega
theorem thr_diff2 {lo hi ev : Int} (h : DiffV (thrS []) 2 0 lo hi ev) : ev = 0 ∧ lo = -3 ∧ hi = 5 := by
  rcases h with ⟨h1, _⟩ | ⟨_, h1, _⟩ | ⟨_, _, _, h1, _⟩ | ⟨_, _, _, _, h1, h2⟩
  · exact absurd thr_ok h1
  · exact absurd h1 (by decide)
  · exact absurd thr_is h1
  · have e := EndsOf.uniq h2 thr_diff20
    exact ⟨h1, e.1, e.2⟩
theorem thr_blame {r : List (Nat × Nat)} {al : List Nat} {ev : Int} (h : BlameV (thrS []) r al ev) : ev = 0 ∧ r = [] ∧ al = [] := by
  rcases h with ⟨h1, _⟩ | ⟨_, _, h1, h2, h3⟩ | ⟨_, h1, _⟩
  · exact absurd thr_ok h1
  · exact ⟨h1, h2, h3⟩
  · exact absurd thr_is h1
def good3 : List Dp := [⟨80, [0, 1]⟩, ⟨95, [0, 3]⟩, ⟨160, [1, 2]⟩]
def good2 : List Dp := [⟨95, [0, 3]⟩, ⟨160, [1, 2]⟩]
theorem good3_ok : ∀ d ∈ good3, DipOk (yardW 2) d := fun d hd => by
  simp only [good3, List.mem_cons, List.not_mem_nil, or_false] at hd
  rcases hd with rfl | rfl | rfl <;> exact dipOk_iff.1 (by decide)
theorem good2_ok : ∀ d ∈ good2, DipOk (yardW 2) d := fun d hd => by
  simp only [good2, List.mem_cons, List.not_mem_nil, or_false] at hd
  rcases hd with rfl | rfl <;> exact dipOk_iff.1 (by decide)
theorem y2ok : ckWo (yardW 2) = 0 := yard_ok (by omega)
theorem good3_path : Path good3 good3 (nearer (nearer (nearer begun6 [0, 1]) [0, 3]) [1, 2]) := .snoc (l := [⟨80, [0, 1]⟩, ⟨95, [0, 3]⟩]) (d := ⟨160, [1, 2]⟩) (.snoc (l := [⟨80, [0, 1]⟩]) (d := ⟨95, [0, 3]⟩) (.snoc (l := []) (d := ⟨80, [0, 1]⟩) .nil (by simp [good3])) (by simp [good3])) (by simp [good3])
theorem good2_path : Path good2 good2 (nearer (nearer begun6 [0, 3]) [1, 2]) := .snoc (l := [⟨95, [0, 3]⟩]) (d := ⟨160, [1, 2]⟩) (.snoc (l := []) (d := ⟨95, [0, 3]⟩) .nil (by simp [good2])) (by simp [good2])
theorem good3_in : ∀ d ∈ good3, In6 d.ins := fun d hd => (good3_ok d hd).in6 (woOk_iff.1 y2ok)
theorem good2_in : ∀ d ∈ good2, In6 d.ins := fun d hd => (good2_ok d hd).in6 (woOk_iff.1 y2ok)
theorem good3_known : KnownIs good3 ⟨0, 1, 2, 1, -1, -1⟩ := by
  have e : nearer (nearer (nearer begun6 [0, 1]) [0, 3]) [1, 2] = ⟨0, 1, 2, 1, -1, -1⟩ := by decide
  have h1 : In6 [0, 1] := good3_in ⟨80, [0, 1]⟩ (by simp [good3])
  have h2 : In6 [0, 3] := good3_in ⟨95, [0, 3]⟩ (by simp [good3])
  have h3 : In6 [1, 2] := good3_in ⟨160, [1, 2]⟩ (by simp [good3])
  have hc := ((Cnt.begun.nearer h1).nearer h2).nearer h3
  have hs := good3_path.sound good3_in
  rw [e] at hc hs
  refine known_of hc (good3_path.in6 good3_in) hs (fun k hk => ?_)
  have hk : k < 3 := hk
  match k, hk with
  | 0, _ => decide
  | 1, _ => decide
  | 2, _ => decide
theorem good2_known : KnownIs good2 ⟨0, -1, -1, 1, -1, -1⟩ := by
  have e : nearer (nearer begun6 [0, 3]) [1, 2] = ⟨0, -1, -1, 1, -1, -1⟩ := by decide
  have h2 : In6 [0, 3] := good2_in ⟨95, [0, 3]⟩ (by simp [good2])
  have h3 : In6 [1, 2] := good2_in ⟨160, [1, 2]⟩ (by simp [good2])
  have hc := (Cnt.begun.nearer h2).nearer h3
  have hs := good2_path.sound good2_in
  rw [e] at hc hs
  refine known_of hc (good2_path.in6 good2_in) hs (fun k hk => ?_)
  have hk : k < 2 := hk
  match k, hk with
  | 0, _ => decide
  | 1, _ => decide
theorem good3_right : RightP (yardW 2) good3 := ⟨fun k hk => good3_ok _ (by unfold gDp; simp [hk]), _, good3_known, fun i hi => by
  have hi : i < 4 := hi
  match i, hi with
  | 0, _ => decide
  | 1, _ => decide
  | 2, _ => decide
  | 3, _ => decide⟩
theorem good2_not : ¬ RightP (yardW 2) good2 := fun h => by
  obtain ⟨K, hK, hR⟩ := h.known
  obtain rfl := hK.uniq good2_known
  have := (hR 1 (show 1 < 4 by omega)).1
  exact absurd this (by decide)
/-- of no two dips of two instruments each are all four known. -/
theorem y2_pairs : ((dipsL (yardW 2)).all fun d => (dipsL (yardW 2)).all fun e => decide ((nearer (nearer begun6 d.ins) e.ins).get 1 = -1) || decide ((nearer (nearer begun6 d.ins) e.ins).get 2 = -1) || decide ((nearer (nearer begun6 d.ins) e.ins).get 3 = -1)) = true := by decide +kernel
theorem y2_one : ((dipsL (yardW 2)).all fun d => decide ((nearer begun6 d.ins).get 1 = -1) || decide ((nearer begun6 d.ins).get 2 = -1) || decide ((nearer begun6 d.ins).get 3 = -1)) = true := by decide +kernel
theorem not_right {s : S6} (h : (decide (s.get 1 = -1) || decide (s.get 2 = -1) || decide (s.get 3 = -1)) = true) : ¬ RightS (yardW 2) s := fun hr => by
  have h1 := (hr 1 (show 1 < 4 by omega)).1
  have h2 := (hr 2 (show 2 < 4 by omega)).1
  have h3 := (hr 3 (show 3 < 4 by omega)).1
  simp only [Bool.or_eq_true, decide_eq_true_eq] at h
  omega
theorem yard2_three {q : List Dp} (hq : RightP (yardW 2) q) : 3 ≤ q.length := by
  have hw := woOk_iff.1 y2ok
  obtain ⟨m, s, h1, h2, h3⟩ := hq.rch hw fun d hd => dipsL_full hw hd
  match m, h2 with
  | 0, h2 =>
    rw [h2.zero_eq] at h3
    exact absurd h3 (not_right (by decide))
  | 1, h2 =>
    obtain ⟨t, d, h4, hd, rfl⟩ := h2.succ_inv
    rw [h4.zero_eq] at h3
    exact absurd h3 (not_right (List.all_eq_true.1 y2_one d hd))
  | 2, h2 =>
    obtain ⟨t, e, h4, he, rfl⟩ := h2.succ_inv
    obtain ⟨t2, d, h5, hd, rfl⟩ := h4.succ_inv
    rw [h5.zero_eq] at h3
    exact absurd h3 (not_right (List.all_eq_true.1 (List.all_eq_true.1 y2_pairs d hd) e he))
  | m + 3, _ => omega
theorem yard2_plan {r : List Dp} {ev : Int} (h : PlanV (yardW 2) r ev) : ev = 0 ∧ r.length = 3 ∧ RightP (yardW 2) r := by
  rcases h with ⟨h1, _⟩ | ⟨_, h1, _⟩ | ⟨_, h1, h2⟩
  · exact absurd y2ok h1
  · exact absurd good3_right (h1 _)
  · have a := h1.least _ good3_right
    have b := yard2_three h1.right
    have a : r.length ≤ 3 := a
    exact ⟨h2, by omega, h1.right⟩
theorem good3_tells {r : List Int} {ev : Int} (h : KnownV (yardW 2) good3 r ev) : ev = 0 ∧ r = [0, 1, 2, 1] := by
  rcases h with ⟨h, _⟩ | ⟨_, h, _⟩ | ⟨_, _, h, K, hK, e⟩
  · exact absurd y2ok h
  · exact absurd (planB_iff.2 good3_right.dips) (by rw [h]; decide)
  · obtain rfl := hK.uniq good3_known
    exact ⟨h, e⟩
theorem good2_tells {r : List Int} {ev : Int} (h : KnownV (yardW 2) good2 r ev) : ev = 0 ∧ r = [0, -1, -1, 1] := by
  rcases h with ⟨h, _⟩ | ⟨_, h, _⟩ | ⟨_, _, h, K, hK, e⟩
  · exact absurd y2ok h
  · exact absurd (planB_iff.2 (fun k hk => good2_ok _ (gDp_mem hk))) (by rw [h]; decide)
  · obtain rfl := hK.uniq good2_known
    exact ⟨h, e⟩
/-- dips that are none: what Known tells. -/
theorem bad_tells {p : List Dp} {r : List Int} {ev : Int} (hb : planB (yardW 2) p = false) (h : KnownV (yardW 2) p r ev) : ev = 2 := by
  rcases h with ⟨h, _⟩ | ⟨_, _, h, _⟩ | ⟨_, h, _⟩
  · exact absurd y2ok h
  · exact h
  · rw [hb] at h; cases h
def farW : Wo := ⟨[⟨0, 100⟩, ⟨50, 200⟩, ⟨400, 500⟩, ⟨90, 160⟩], 3, 1⟩
theorem farW_ok : ckWo farW = 0 := by decide
theorem farW_not (p : List Dp) : ¬ RightP farW p := fun h => by
  have hd : ∀ m v, Dst p m v → m ≠ 2 := fun m v hd => by
    induction hd with
    | std => omega
    | @step m v k i j _ hk hi hj hm ih =>
      intro e
      have hk' := h.dips k hk
      have t1 := hk'.heat i hi
      have t2 := hk'.heat j hj
      have n1 := hk'.ins i hi
      have n1 : 0 ≤ gI (gDp p k).ins i ∧ gI (gDp p k).ins i ≤ 3 := n1
      rw [e] at t2
      rw [hm] at t1
      have hm4 : m < 4 := by omega
      have t2 : (400 : Int) ≤ (gDp p k).heat ∧ (gDp p k).heat ≤ 500 := t2
      match m, hm4 with
      | 0, _ => have t1 : (0 : Int) ≤ (gDp p k).heat ∧ (gDp p k).heat ≤ 100 := t1; omega
      | 1, _ => have t1 : (50 : Int) ≤ (gDp p k).heat ∧ (gDp p k).heat ≤ 200 := t1; omega
      | 2, _ => exact ih rfl
      | 3, _ => have t1 : (90 : Int) ≤ (gDp p k).heat ∧ (gDp p k).heat ≤ 160 := t1; omega
  obtain ⟨K, hK, hR⟩ := h.known
  have h2 := (hR 2 (show 2 < 4 by omega)).1
  rcases hK 2 (by omega) with ⟨e, _⟩ | ⟨_, e, _⟩
  · omega
  · exact hd _ _ e rfl
theorem farW_plan {r : List Dp} {ev : Int} (h : PlanV farW r ev) : ev = 9 := by
  rcases h with ⟨h1, _⟩ | ⟨_, _, h1, _⟩ | ⟨_, h1, _⟩
  · exact absurd farW_ok h1
  · exact h1
  · exact absurd h1.right (farW_not _)
theorem wrg_offs {l : List Rg} {ev : Int} (h : RngV (thrS [b3]) (thrS [b3]).offs.length (OffZ (thrS [b3])) l ev) : ev = 9 := by
  rcases h with ⟨h1, _⟩ | ⟨_, _, h1, _⟩ | ⟨_, h1, _⟩
  · exact absurd wrg_ok h1
  · exact h1
  · exact absurd h1 wrg_clash
theorem wrg_diff {lo hi ev : Int} (h : DiffV (thrS [b3]) 0 3 lo hi ev) : ev = 2 := by
  rcases h with ⟨h1, _⟩ | ⟨_, _, h1, _⟩ | ⟨_, _, h1, _⟩ | ⟨_, _, h1, _⟩
  · exact absurd wrg_ok h1
  · exact h1
  · exact absurd h1 (by decide)
  · exact absurd h1 (by decide)
def b4 : Bt := ⟨⟨100, 300⟩, [⟨0, 1⟩, ⟨0, 2⟩]⟩
theorem two_ck : ckSe (thrS [b4]) = 1 := by decide
theorem two_sm : Sm (thrS [b4]) := ⟨by decide, by decide, fun k hk => by
  have hk : k < 3 := hk
  match k, hk with
  | 0, _ => decide
  | 1, _ => decide
  | 2, _ => decide⟩
theorem two_blame {r : List (Nat × Nat)} {al : List Nat} {ev : Int} (h : BlameV (thrS [b4]) r al ev) : ev = 1 := by
  rcases h with ⟨_, h1, _⟩ | ⟨h1, _⟩ | ⟨h1, _⟩
  · rw [h1]; exact two_ck
  · rw [two_ck] at h1; cases h1
  · rw [two_ck] at h1; cases h1
theorem thr_yes : truB (TruC (thrS []) [0, 3, 1] [200, 249]) = true := truB_iff.2 ⟨thr_ok, rfl, rfl, thr_mk (a := 3) (b := 1) (c := 200) (d := 249) (by omega) (by omega) (by omega) (by omega) (by omega) (by omega)⟩
theorem thr_no : truB (TruC (thrS []) [0, 3, 3] [200, 250]) = false := truB_false (fun h => by
  have h1 := thr_tru h.2.2.2
  have e1 : gI [0, 3, 3] 2 = 3 := rfl
  have e2 : gI [200, 250] 1 = 250 := rfl
  rw [e1, e2] at h1
  omega)
def z7 : List Rg := List.replicate 7 ⟨0, 0⟩
theorem many_ck : ckSe ⟨z7, 1, (thrS []).baths⟩ = 3 := by decide
theorem hot_ck : ckSe ⟨(thrS []).offs, 21, (thrS []).baths⟩ = 1 := by decide
theorem none_ck : ckSe ⟨[], 0, []⟩ = 1 := by decide
theorem yard1_ck : ckWo (yardW 1) = 1 := by decide
theorem z7_ck : ckWo ⟨z7, 0, 0⟩ = 3 := by decide
theorem good3_sm : SmPl good3 := ⟨by decide, fun k hk => by
  have hk : k < 3 := hk
  match k, hk with
  | 0, _ => decide
  | 1, _ => decide
  | 2, _ => decide⟩
theorem good2_sm : SmPl good2 := ⟨by decide, fun k hk => by
  have hk : k < 2 := hk
  match k, hk with
  | 0, _ => decide
  | 1, _ => decide⟩
theorem pair_sl {W : World} {p : Nat} {a b : Int} (h : Blk W p 3 #[.int .i64 a, .int .i64 b]) : SlAt W W.heap.size 1 (some ⟨p, 0, none⟩) 2 (fI [a, b]) := fun _ => ⟨p, 0, rfl, h.lt, fun k j hk hj => by
  obtain rfl : j = 0 := by omega
  rw [h.cell]
  match k, hk with
  | 0, _ => rfl
  | 1, _ => rfl⟩
theorem tri_sl {W : World} {p : Nat} {a b c : Int} (h : Blk W p 3 #[.int .i64 a, .int .i64 b, .int .i64 c]) : SlAt W W.heap.size 1 (some ⟨p, 0, none⟩) 3 (fI [a, b, c]) := fun _ => ⟨p, 0, rfl, h.lt, fun k j hk hj => by
  obtain rfl : j = 0 := by omega
  rw [h.cell]
  match k, hk with
  | 0, _ => rfl
  | 1, _ => rfl
  | 2, _ => rfl⟩
theorem four_sl {W : World} {p : Nat} {a b c d : Int} (h : Blk W p 3 #[.int .i64 a, .int .i64 b, .int .i64 c, .int .i64 d]) : SlAt W W.heap.size 1 (some ⟨p, 0, none⟩) 4 (fI [a, b, c, d]) := fun _ => ⟨p, 0, rfl, h.lt, fun k j hk hj => by
  obtain rfl : j = 0 := by omega
  rw [h.cell]
  match k, hk with
  | 0, _ => rfl
  | 1, _ => rfl
  | 2, _ => rfl
  | 3, _ => rfl⟩
section
variable {W : World} {p0 p1 p2 p3 : Nat} (g0 : Blk W p0 3 #[.int .i64 0, .int .i64 1]) (g1 : Blk W p1 3 #[.int .i64 0, .int .i64 3]) (g2 : Blk W p2 3 #[.int .i64 1, .int .i64 2]) (gd : Blk W p3 112 #[.int .i64 80, .slice (some ⟨p0, 0, none⟩) 2 2, .int .i64 95, .slice (some ⟨p1, 0, none⟩) 2 2, .int .i64 160, .slice (some ⟨p2, 0, none⟩) 2 2])
include g0 g1 g2 gd in
theorem good3_pl : PlIn W W.heap.size good3 (some ⟨p3, 0, none⟩) (fun k => some ⟨[p0, p1, p2].getD k 0, 0, none⟩) (fun _ => 2) := ⟨fun _ => ⟨p3, 0, rfl, gd.lt, fun k j hk hj => by
  have hk : k < 3 := hk
  rw [gd.cell]
  match k, hk, j, hj with
  | 0, _, 0, _ => rfl
  | 0, _, 1, _ => rfl
  | 1, _, 0, _ => rfl
  | 1, _, 1, _ => rfl
  | 2, _, 0, _ => rfl
  | 2, _, 1, _ => rfl⟩, fun k hk => by
  have hk : k < 3 := hk
  match k, hk with
  | 0, _ => exact pair_sl g0
  | 1, _ => exact pair_sl g1
  | 2, _ => exact pair_sl g2⟩
include g1 g2 gd in
theorem good2_pl : PlIn W W.heap.size good2 (some ⟨p3, 2, none⟩) (fun k => some ⟨[p1, p2].getD k 0, 0, none⟩) (fun _ => 2) := ⟨fun _ => ⟨p3, 2, rfl, gd.lt, fun k j hk hj => by
  have hk : k < 2 := hk
  rw [gd.cell]
  match k, hk, j, hj with
  | 0, _, 0, _ => rfl
  | 0, _, 1, _ => rfl
  | 1, _, 0, _ => rfl
  | 1, _, 1, _ => rfl⟩, fun k hk => by
  have hk : k < 2 := hk
  match k, hk with
  | 0, _ => exact pair_sl g1
  | 1, _ => exact pair_sl g2⟩
end
theorem thr_reads : ∀ k, k < (thrS []).baths.length → (gBt (thrS []).baths k).reads.length ≤ 1000000 := fun k hk => by
  have hk : k < 2 := hk
  match k, hk with
  | 0, _ => decide
  | 1, _ => decide
theorem bad1 : planB (yardW 2) [⟨100, [1, 0]⟩] = false := by decide
theorem bad2 : planB (yardW 2) [⟨120, [0, 1]⟩] = false := by decide
end Go.Proofs.Ytnplefhigbkbbaa
end

section
namespace Go.Proofs.Ytnplefhigbkbbaa
open Go.RowKit
section
variable {P : Program} {ops : Array Oper} {md : Region.Mode} {S : World → Prop} {Q : Exit → Act → World → Prop}
/-- the tree's ways all end where just L is done. -/
def tqcB (md : Region.Mode) (ops : Array Oper) (n : Nat) (L : Array Bool) : Tq → Array Bool → Bool
  | .done, listed => decide (listed = L)
  | .quiet k t, listed => decide (k < n) && ((Region.ready md ops listed).contains k && Region.free md ops listed k && (match ops[k]? with | some o => mute o.op | none => false)) && tqcB md ops n L t (listed.setIfInBounds k true)
  | .loud k t, listed => decide (k < n) && decide (Region.ready md ops listed = [k]) && tqcB md ops n L t (listed.setIfInBounds k true)
  | .fork i t j u, listed => decide (Region.ready md ops listed = [i, j]) && decide (i < n) && decide (j < n) && decide (t.len = u.len) && tqcB md ops n L t (listed.setIfInBounds i true) && tqcB md ops n L u (listed.setIfInBounds j true)
  | .fork3 i t j u k v, listed => decide (Region.ready md ops listed = [i, j, k]) && decide (i < n) && decide (j < n) && decide (k < n) && decide (t.len = u.len) && decide (t.len = v.len) && tqcB md ops n L t (listed.setIfInBounds i true) && tqcB md ops n L u (listed.setIfInBounds j true) && tqcB md ops n L v (listed.setIfInBounds k true)

theorem tqc_head {n m : Nat} {L : Array Bool} {F : Array Bool → Act → World → Prop} {T : Act → World → Prop} (hsel : Region.noSelect ops = true) (hQ : ∀ d v c a w, Q (.panic c) (a.put d v) w → Q (.panic c) a w)
    (hs : Region.sinkB md ops n = true) (hc : Region.chainB md ops n = true) (hn : n < ops.size) (hF : ∀ listed a w, F listed a w → ∀ j ∈ Region.ready md ops listed, n ≤ j)
    (hT : ∀ a w, S w → HeadInv md ops n L → T a w → wpAnyLH P md ops Q S n F m L a w) :
    ∀ (t : Tq) (listed : Array Bool) (a : Act) (w : World), HeadInv md ops n listed → tqcB md ops n L t listed = true → S w →
      wqTr P ops Q S T t a w → wpAnyLH P md ops Q S n F (t.len + m) listed a w
  | .done, listed, a, w, inv, hB, hS, h => by
    have e : listed = L := of_decide_eq_true hB
    subst e
    rw [show Tq.done.len + m = m from by simp [Tq.len]]
    exact hT a w hS inv h
  | .fork i t j u, listed, a, w, inv, hB, hS, h => by
    simp only [tqcB, Bool.and_eq_true, decide_eq_true_eq] at hB
    obtain ⟨⟨⟨⟨⟨hr, hi⟩, hj⟩, hl⟩, hA⟩, hBB⟩ := hB
    rw [show (Tq.fork i t j u).len + m = (t.len + m) + 1 from by simp [Tq.len]; omega]
    refine ⟨by rw [hr]; simp, fun k hk => ?_⟩
    rw [hr] at hk
    rcases List.mem_cons.1 hk with rfl | hk
    · exact ⟨hi, wpOp_mono (fun a' w' h' => ⟨h'.1, tqc_head hsel hQ hs hc hn hF hT t _ a' w' (inv.set (by rw [hr]; simp) hi) hA h'.1 h'.2⟩) (wpOp_one hn hi h.1)⟩
    · obtain rfl := List.mem_singleton.1 hk
      refine ⟨hj, wpOp_mono (fun a' w' h' => ⟨h'.1, ?_⟩) (wpOp_one hn hj h.2)⟩
      rw [hl]
      exact tqc_head hsel hQ hs hc hn hF hT u _ a' w' (inv.set (by rw [hr]; simp) hj) hBB h'.1 h'.2
  | .fork3 i t j u l v, listed, a, w, inv, hB, hS, h => by
    simp only [tqcB, Bool.and_eq_true, decide_eq_true_eq] at hB
    obtain ⟨⟨⟨⟨⟨⟨⟨⟨hr, hi⟩, hj⟩, hl⟩, hl1⟩, hl2⟩, hA⟩, hBB⟩, hC⟩ := hB
    rw [show (Tq.fork3 i t j u l v).len + m = (t.len + m) + 1 from by simp [Tq.len]; omega]
    refine ⟨by rw [hr]; simp, fun k hk => ?_⟩
    rw [hr] at hk
    rcases List.mem_cons.1 hk with rfl | hk
    · exact ⟨hi, wpOp_mono (fun a' w' h' => ⟨h'.1, tqc_head hsel hQ hs hc hn hF hT t _ a' w' (inv.set (by rw [hr]; simp) hi) hA h'.1 h'.2⟩) (wpOp_one hn hi h.1)⟩
    · rcases List.mem_cons.1 hk with rfl | hk
      · refine ⟨hj, wpOp_mono (fun a' w' h' => ⟨h'.1, ?_⟩) (wpOp_one hn hj h.2.1)⟩
        rw [hl1]
        exact tqc_head hsel hQ hs hc hn hF hT u _ a' w' (inv.set (by rw [hr]; simp) hj) hBB h'.1 h'.2
      · obtain rfl := List.mem_singleton.1 hk
        refine ⟨hl, wpOp_mono (fun a' w' h' => ⟨h'.1, ?_⟩) (wpOp_one hn hl h.2.2)⟩
        rw [hl2]
        exact tqc_head hsel hQ hs hc hn hF hT v _ a' w' (inv.set (by rw [hr]; simp) hl) hC h'.1 h'.2
  | .loud k t, listed, a, w, inv, hB, hS, h => by
    simp only [tqcB, Bool.and_eq_true, decide_eq_true_eq] at hB
    obtain ⟨⟨hk, hr⟩, hB'⟩ := hB
    have h' : wpOne P ops Q k (fun a' w' => S w' ∧ wqTr P ops Q S T t a' w') a w := h
    rw [show (Tq.loud k t).len + m = (t.len + m) + 1 from by simp [Tq.len]; omega]
    refine ⟨by rw [hr]; simp, fun x hx => ?_⟩
    rw [hr] at hx
    have hik : x = k := by simpa using hx
    subst hik
    exact ⟨hk, wpOp_mono (fun a' w' h' => ⟨h'.1, tqc_head hsel hQ hs hc hn hF hT t _ a' w' (inv.set (by rw [hr]; simp) hk) hB' h'.1 h'.2⟩) (wpOp_one hn hk h')⟩
  | .quiet k t, listed, a, w, inv, hB, hS, h => by
    simp only [tqcB, Bool.and_eq_true, decide_eq_true_eq] at hB
    obtain ⟨⟨hk, ⟨hr, hf⟩, hm⟩, hB'⟩ := hB
    obtain ⟨o, hk0⟩ : ∃ o, ops[k]? = some o := ⟨ops[k]'(by omega), by simp [show k < ops.size by omega]⟩
    simp only [hk0] at hm
    have h' : wpQuiet P ops S (fun a' => wqTr P ops Q S T t a' w) [o] a := h o hk0
    have hr' : k ∈ Region.ready md ops listed := by simpa using hr
    have hst : qOp P ops S k (wpQuiet P ops S (fun a' => wqTr P ops Q S T t a' w) []) a := by unfold qOp; simp only [hk0]; exact h'
    obtain ⟨v, hy, hK⟩ := yieldsIn_of_qOp hk0 hst
    rw [show (Tq.quiet k t).len + m = (t.len + m) + 1 from by simp [Tq.len]; omega]
    exact wpAnyLH_first hk0 (Region.noSelect_spec hsel) (hQ _ _) hs hc hn hk hF (t.len + m) listed a w inv (Region.free_spec hk0 hf) hr' (mute_if hm hy) hS
      (tqc_head hsel hQ hs hc hn hF hT t _ _ w (inv.set hr' hk) hB' hS hK)

/-- the check of both parts, and what is left of the region in the first part. -/
def tq2B (md : Region.Mode) (ops : Array Oper) (n : Nat) (t1 : Tq) (L : Array Bool) (t2 : Tq) : Bool :=
  Region.noSelect ops && decide (n < ops.size) && Region.sinkB md ops n && Region.chainB md ops n && tqcB md ops n L t1 (Array.replicate ops.size false) && tqB md ops n (ops.size - n) t2 L
def wqTree2 (P : Program) (l : List Oper) (Q : Exit → Act → World → Prop) (S : World → Prop) (n : Nat) (t2 t1 : Tq) (a : Act) (w : World) : Prop :=
  wqTr P l.toArray Q S (fun a' w' => wqTree P l Q S n t2 a' w') t1 a w
theorem tw_done {l : List Oper} {n : Nat} {t2 : Tq} {a : Act} {w : World} (h : wqTree P l Q S n t2 a w) : wqTree2 P l Q S n t2 .done a w := h
theorem tw_loud {l : List Oper} {n k : Nat} {t2 t : Tq} {o : Oper} {a : Act} {w : World} (ho : l[k]? = some o)
    (h : wpList P l.toArray (fun e a' w' => match e with | .normal => S w' ∧ wqTree2 P l Q S n t2 t a' w' | e => Q e a' w') [o] a w) : wqTree2 P l Q S n t2 (.loud k t) a w := by
  show wpOne P l.toArray Q k _ a w
  intro o' ho'
  have : o' = o := by rw [List.getElem?_toArray, ho] at ho'; exact (Option.some.inj ho').symm
  subst this
  exact h
theorem tw_quiet {l : List Oper} {n k : Nat} {t2 t : Tq} {o : Oper} {a : Act} {w : World} (ho : l[k]? = some o)
    (h : wpQuiet P l.toArray S (fun a' => wqTree2 P l Q S n t2 t a' w) [o] a) : wqTree2 P l Q S n t2 (.quiet k t) a w := by
  intro o' ho'
  have : o' = o := by rw [List.getElem?_toArray, ho] at ho'; exact (Option.some.inj ho').symm
  subst this
  exact h
theorem tw_fork {l : List Oper} {n i j : Nat} {t2 t u : Tq} {oi oj : Oper} {a : Act} {w : World} (hi : l[i]? = some oi) (hj : l[j]? = some oj)
    (h1 : wpList P l.toArray (fun e a' w' => match e with | .normal => S w' ∧ wqTree2 P l Q S n t2 t a' w' | e => Q e a' w') [oi] a w)
    (h2 : wpList P l.toArray (fun e a' w' => match e with | .normal => S w' ∧ wqTree2 P l Q S n t2 u a' w' | e => Q e a' w') [oj] a w) : wqTree2 P l Q S n t2 (.fork i t j u) a w := by
  refine ⟨fun o' ho' => ?_, fun o' ho' => ?_⟩
  · have : o' = oi := by rw [List.getElem?_toArray, hi] at ho'; exact (Option.some.inj ho').symm
    subst this
    exact h1
  · have : o' = oj := by rw [List.getElem?_toArray, hj] at ho'; exact (Option.some.inj ho').symm
    subst this
    exact h2
theorem tw_fork3 {l : List Oper} {n i j k : Nat} {t2 t u v : Tq} {oi oj ok : Oper} {a : Act} {w : World} (hi : l[i]? = some oi) (hj : l[j]? = some oj) (hk : l[k]? = some ok)
    (h1 : wpList P l.toArray (fun e a' w' => match e with | .normal => S w' ∧ wqTree2 P l Q S n t2 t a' w' | e => Q e a' w') [oi] a w)
    (h2 : wpList P l.toArray (fun e a' w' => match e with | .normal => S w' ∧ wqTree2 P l Q S n t2 u a' w' | e => Q e a' w') [oj] a w)
    (h3 : wpList P l.toArray (fun e a' w' => match e with | .normal => S w' ∧ wqTree2 P l Q S n t2 v a' w' | e => Q e a' w') [ok] a w) : wqTree2 P l Q S n t2 (.fork3 i t j u k v) a w := by
  refine ⟨fun o' ho' => ?_, fun o' ho' => ?_, fun o' ho' => ?_⟩
  · have : o' = oi := by rw [List.getElem?_toArray, hi] at ho'; exact (Option.some.inj ho').symm
    subst this
    exact h1
  · have : o' = oj := by rw [List.getElem?_toArray, hj] at ho'; exact (Option.some.inj ho').symm
    subst this
    exact h2
  · have : o' = ok := by rw [List.getElem?_toArray, hk] at ho'; exact (Option.some.inj ho').symm
    subst this
    exact h3
theorem wp_region_tq2 {id : Nat} {a : Act} {w : World} {l : List Oper} (n : Nat) (t1 : Tq) (L : Array Bool) (t2 : Tq) (S : World → Prop) (hm : P.follows .mixedOrders = true)
    (hB : (tq2B .any l.toArray n t1 L t2 && decide (t1.len + t2.len = n)) = true) (hQ : ∀ d v c a w, Q (.panic c) (a.put d v) w → Q (.panic c) a w)
    (hS : S w.drew) (h : wqTree2 P l Q S n t2 t1 a w.drew) : (Code.region id l.toArray true).wp P Q a w := by
  simp only [tq2B, Bool.and_eq_true, decide_eq_true_eq] at hB
  obtain ⟨⟨⟨⟨⟨⟨hsel, hn⟩, hs⟩, hc⟩, hlex1⟩, hlex2⟩, hlen⟩ := hB
  have hdl : (l.drop n).length = l.toArray.size - n := by simp
  have inv0 : HeadInv .any l.toArray n (Array.replicate l.toArray.size false) :=
    ⟨by simp, fun j oj _ hl => (by rw [getD_replicate_false] at hl; cases hl), fun t _ ht => getD_in (by simpa using ht) (getD_replicate_false _ _)⟩
  have H := tqc_head (md := .any) (m := t2.len) (L := L) (F := fun listed' a' w' => Region.seqB .any l.toArray (l.toArray.size - n) n listed' = true ∧ wpList P l.toArray Q (l.drop n) a' w') (T := fun a' w' => wqTree P l Q S n t2 a' w') hsel hQ hs hc hn (fun listed' a' w' hL => seqB_ready hL.1)
    (fun a' w' hS' inv' h' => tq_head (md := .any) (g := l.toArray.size - n) (T := fun a'' w'' => wpList P l.toArray Q (l.drop n) a'' w'') hsel hQ hs hc hn t2 _ a' w' inv' hlex2 hS' h') t1 _ a _ inv0 hlex1 hS h
  refine wp_region_any hm ?_
  have := wpAny_of_headH (g := l.toArray.size - n) (fun listed' a' w' hL => by
    have := wpAny_of_seq (md := .any) (l.drop n) n listed' a' w' (fun j => by simp [List.getElem?_drop]) (by rw [hdl]; exact hL.1) hL.2
    rwa [hdl] at this) _ _ _ _ H
  rw [hlen, show n + (l.toArray.size - n) = l.toArray.size by omega] at this
  exact this
theorem wp_region_ext_tq2 {id : Nat} {a : Act} {w : World} {l : List Oper} (n : Nat) (t1 : Tq) (L : Array Bool) (t2 : Tq) (hm : P.follows .mixedOrders = true)
    (hB : (tq2B .any l.toArray n t1 L t2 && decide (t1.len + t2.len = n)) = true) (hQ : ∀ d v c a w, Q (.panic c) (a.put d v) w → Q (.panic c) a w)
    (h : wqTree2 P l Q (fun w' => ∃ x : Ex w, w' = x.W) n t2 t1 a w.drew) : (Code.region id l.toArray true).wp P Q a w :=
  wp_region_tq2 n t1 L t2 _ hm hB hQ (inEx (Below.refl w.heap.size w).drew) h
end
end Go.Proofs.Ytnplefhigbkbbaa
end

section
namespace Go.Proofs.Ytnplefhigbkbbaa
open Go.RowKit
section
variable {P : Program} {ops : Array Oper} {md : Region.Mode}
/-- what an operation waits for, as bits. -/
def aMaskL (md : Region.Mode) : List Edge → Nat
  | [] => 0
  | e :: l => if Region.binds md e then (1 <<< e.on) ||| aMaskL md l else aMaskL md l
def aMask (md : Region.Mode) (o : Oper) : Nat := aMaskL md o.after.toList
theorem bit_one (n j : Nat) : (1 <<< n).testBit j = decide (n = j) := by
  rw [Nat.one_shiftLeft, Nat.testBit_two_pow]
theorem aMaskL_bit : ∀ (l : List Edge) (j : Nat), (aMaskL md l).testBit j = true ↔ ∃ e ∈ l, Region.binds md e = true ∧ e.on = j
  | [], j => by simp [aMaskL]
  | e :: l, j => by
    unfold aMaskL
    by_cases h : Region.binds md e = true
    · rw [if_pos h, Nat.testBit_or, bit_one, Bool.or_eq_true, decide_eq_true_eq, aMaskL_bit l j]
      constructor
      · rintro (h1 | ⟨x, hx, h1⟩)
        · exact ⟨e, by simp, h, h1⟩
        · exact ⟨x, by simp [hx], h1⟩
      · rintro ⟨x, hx, h1, h2⟩
        rcases List.mem_cons.1 hx with rfl | hx
        · exact .inl h2
        · exact .inr ⟨x, hx, h1, h2⟩
    · rw [if_neg h, aMaskL_bit l j]
      constructor
      · rintro ⟨x, hx, h1⟩; exact ⟨x, by simp [hx], h1⟩
      · rintro ⟨x, hx, h1, h2⟩
        rcases List.mem_cons.1 hx with rfl | hx
        · exact absurd h1 h
        · exact ⟨x, hx, h1, h2⟩
theorem sub_bits {A M : Nat} : (A &&& M == A) = true ↔ ∀ j, A.testBit j = true → M.testBit j = true := by
  rw [beq_iff_eq]
  constructor
  · intro h j hj
    have := congrArg (fun x => x.testBit j) h
    simp only [Nat.testBit_and, hj, Bool.true_and] at this
    exact this
  · intro h
    refine Nat.eq_of_testBit_eq (fun j => ?_)
    rw [Nat.testBit_and]
    cases hA : A.testBit j
    · rfl
    · rw [h j hA]; rfl
/-- what is done, as bits. -/
structure RepB (listed : Array Bool) (n M : Nat) : Prop where
  size : listed.size = n
  bit : ∀ j, listed.getD j false = M.testBit j
theorem RepB.start (n : Nat) : RepB (Array.replicate n false) n 0 := ⟨by simp, fun j => by rw [getD_replicate_false]; simp⟩
theorem RepB.set {listed : Array Bool} {n M : Nat} (h : RepB listed n M) {k : Nat} (hk : k < n) : RepB (listed.setIfInBounds k true) n (M ||| (1 <<< k)) := by
  refine ⟨by simp [h.size], fun j => ?_⟩
  rw [Nat.testBit_or, bit_one, ← h.bit]
  by_cases e : k = j
  · subst e
    have : k < listed.size := by rw [h.size]; exact hk
    simp [Array.getD, this]
  · rw [decide_eq_false e, Bool.or_false, getD_set_ne false e]
theorem RepB.in_ {listed : Array Bool} {n M : Nat} (h : RepB listed n M) {j : Nat} (hj : j < n) : listed.getD j true = M.testBit j := by
  rw [← h.bit]
  have : j < listed.size := by rw [h.size]; exact hj
  simp [Array.getD, this]
theorem RepB.eq {l1 l2 : Array Bool} {n M : Nat} (h : RepB l1 n M) (k : RepB l2 n M) : l1 = l2 := by
  refine Array.ext (by rw [h.size, k.size]) (fun i h1 h2 => ?_)
  have e1 := h.bit i
  have e2 := k.bit i
  rw [← e2] at e1
  simpa [Array.getD, h1, h2] using e1
def rdyF (M : Nat) : List Nat → Nat → List Nat
  | [], _ => []
  | A :: l, i => if !M.testBit i && (A &&& M == A) then i :: rdyF M l (i + 1) else rdyF M l (i + 1)
def masks (md : Region.Mode) (ops : Array Oper) : List Nat := ops.toList.map (aMask md)
theorem rdyF_eq {listed : Array Bool} {M : Nat} (h : RepB listed ops.size M) : ∀ (l : List Oper) (k : Nat), (∀ j, l[j]? = ops[k + j]?) →
    rdyF M (l.map (aMask md)) k = (List.range' k l.length).filter fun i => !listed.getD i true && ((ops[i]?).map (·.after.all fun e => !Region.binds md e || listed.getD e.on false)).getD false
  | [], _, _ => by simp [rdyF]
  | o :: l, k, hl => by
    have h0 : ops[k]? = some o := by simpa using (hl 0).symm
    have hk : k < ops.size := (Array.getElem?_eq_some_iff.1 h0).1
    have ih := rdyF_eq h l (k + 1) (fun j => by have := hl (j + 1); simpa [Nat.add_assoc, Nat.add_comm 1 j] using this)
    have hc : (!M.testBit k && (aMask md o &&& M == aMask md o)) = (!listed.getD k true && ((ops[k]?).map (·.after.all fun e => !Region.binds md e || listed.getD e.on false)).getD false) := by
      rw [h.in_ hk, h0]
      congr 1
      simp only [Option.map_some, Option.getD_some]
      rw [Bool.eq_iff_iff, sub_bits, Array.all_eq_true_iff_forall_mem]
      constructor
      · intro h1 e he
        cases hb : Region.binds md e
        · rfl
        · have := h1 e.on ((aMaskL_bit _ _).2 ⟨e, by simpa using he, hb, rfl⟩)
          rw [h.bit, this]; rfl
      · intro h1 j hj
        obtain ⟨e, he, hb, rfl⟩ := (aMaskL_bit _ _).1 hj
        have := h1 e (by simpa using he)
        rw [hb, h.bit] at this
        simpa using this
    rw [List.map_cons, rdyF, List.length_cons, List.range'_succ, List.filter_cons, hc, ih]
theorem ready_F {listed : Array Bool} {M : Nat} (h : RepB listed ops.size M) : Region.ready md ops listed = rdyF M (masks md ops) 0 := by
  unfold masks
  rw [rdyF_eq h ops.toList 0 (fun j => by simp)]
  unfold Region.ready
  rw [List.range_eq_range']
  simp
/-- those that are not apart from one, as bits; those that wait for one. -/
def naMaskL (ops : Array Oper) (x : Oper) (k : Nat) : List Oper → Nat → Nat
  | [], _ => 0
  | y :: l, j => if j == k || x.apart ops y then naMaskL ops x k l (j + 1) else (1 <<< j) ||| naMaskL ops x k l (j + 1)
def naMask (ops : Array Oper) (k : Nat) : Nat := match ops[k]? with | some x => naMaskL ops x k ops.toList 0 | none => 1 <<< ops.size
def dMask (k : Nat) : List Nat → Nat → Nat
  | [], _ => 0
  | A :: l, j => if A.testBit k then (1 <<< j) ||| dMask k l (j + 1) else dMask k l (j + 1)
def freeF (md : Region.Mode) (ops : Array Oper) (M k : Nat) : Bool := (ops[k]?).isSome && (naMask ops k &&& (M ||| dMask k (masks md ops) 0) == naMask ops k)
theorem naMaskL_bit {x : Oper} {k : Nat} : ∀ (l : List Oper) (i j : Nat) (y : Oper), l[j]? = some y → j + i ≠ k → x.apart ops y = false → (naMaskL ops x k l i).testBit (j + i) = true
  | [], _, _, _, h, _, _ => by simp at h
  | z :: l, i, 0, y, h, hk, ha => by
    have : z = y := by simpa using h
    subst this
    unfold naMaskL
    rw [show (i == k || x.apart ops z) = false from by rw [ha, Bool.or_false, beq_eq_false_iff_ne]; omega, if_neg (by simp), Nat.testBit_or, bit_one]
    simp
  | z :: l, i, j + 1, y, h, hk, ha => by
    have ih := naMaskL_bit (k := k) l (i + 1) j y (by simpa using h) (by omega) ha
    rw [show j + (i + 1) = j + 1 + i by omega] at ih
    unfold naMaskL
    split
    · exact ih
    · rw [Nat.testBit_or, ih]; simp
theorem dMask_low {k : Nat} : ∀ (l : List Nat) (i : Nat) {j : Nat}, j < i → (dMask k l i).testBit j = false
  | [], _, _, _ => by simp [dMask]
  | A :: l, i, j, h => by
    unfold dMask
    split
    · rw [Nat.testBit_or, bit_one, decide_eq_false (by omega), dMask_low l (i + 1) (by omega)]; rfl
    · exact dMask_low l (i + 1) (by omega)
theorem dMask_bit {k : Nat} : ∀ (l : List Nat) (i j : Nat), (dMask k l i).testBit (j + i) = true → ∃ A, l[j]? = some A ∧ A.testBit k = true
  | [], _, _, h => by simp [dMask] at h
  | A :: l, i, j, h => by
    unfold dMask at h
    match j with
    | 0 =>
      split at h
      · rename_i hA; exact ⟨A, rfl, hA⟩
      · exfalso
        have := dMask_low (k := k) l (i + 1) (j := 0 + i) (by omega)
        rw [this] at h; cases h
    | j + 1 =>
      have key : (dMask k l (i + 1)).testBit (j + (i + 1)) = true := by
        rw [show j + (i + 1) = j + 1 + i by omega]
        split at h
        · rw [Nat.testBit_or, bit_one, decide_eq_false (by omega), Bool.false_or] at h; exact h
        · exact h
      obtain ⟨B, h1, h2⟩ := dMask_bit l (i + 1) j key
      exact ⟨B, by simpa using h1, h2⟩
theorem free_F {listed : Array Bool} {M k : Nat} (h : RepB listed ops.size M) (hf : freeF md ops M k = true) : Region.free md ops listed k = true := by
  unfold freeF at hf
  rw [Bool.and_eq_true, sub_bits] at hf
  obtain ⟨h1, h2⟩ := hf
  obtain ⟨x, hx⟩ := Option.isSome_iff_exists.1 h1
  unfold Region.free
  simp only [hx, List.all_eq_true, List.mem_range]
  intro j hj
  have hoj : ops[j]? = some ops[j] := by simp [hj]
  simp only [hoj, Bool.or_eq_true, beq_iff_eq]
  by_cases e : j = k
  · exact .inl (.inl e)
  · cases ha : x.apart ops ops[j]
    · have hb : (naMask ops k).testBit j = true := by
        unfold naMask
        simp only [hx]
        have := naMaskL_bit (ops := ops) (x := x) (k := k) ops.toList 0 j ops[j] (by simp) (by omega) ha
        simpa using this
      have h3 := h2 j hb
      rw [Nat.testBit_or, Bool.or_eq_true] at h3
      rcases h3 with h3 | h3
      · exact .inl (.inr (by rw [h.in_ hj]; exact h3))
      · obtain ⟨A, hA, hAk⟩ := dMask_bit (masks md ops) 0 j h3
        unfold masks at hA
        rw [List.getElem?_map, Array.getElem?_toList, hoj] at hA
        simp only [Option.map_some, Option.some.injEq] at hA
        subst hA
        obtain ⟨e', he', hb', ho'⟩ := (aMaskL_bit _ _).1 hAk
        exact .inr (.inl (Array.any_eq_true'.2 ⟨e', Array.mem_toList_iff.1 he', by simp [hb', ho']⟩))
    · exact .inr (.inr rfl)
/-- the tail goes one by one. -/
def seqF (As : List Nat) : Nat → Nat → Nat → Bool
  | 0, _, M => (rdyF M As 0).isEmpty
  | g + 1, k, M => decide (rdyF M As 0 = [k]) && seqF As g (k + 1) (M ||| (1 <<< k))
theorem seq_F : ∀ (g k M : Nat) {listed : Array Bool}, RepB listed ops.size M → k + g ≤ ops.size → seqF (masks md ops) g k M = true → Region.seqB md ops g k listed = true
  | 0, k, M, listed, h, _, hs => by
    unfold Region.seqB
    rw [ready_F h]; exact hs
  | g + 1, k, M, listed, h, hk, hs => by
    unfold seqF at hs
    rw [Bool.and_eq_true] at hs
    unfold Region.seqB
    rw [ready_F h, Bool.and_eq_true]
    exact ⟨hs.1, seq_F g (k + 1) _ (h.set (by omega)) (by omega) hs.2⟩
def muteAt (ops : Array Oper) (k : Nat) : Bool := match ops[k]? with | some o => mute o.op | none => false
/-- a tree, gone through with bits; what is asked at its ends. -/
def tqF (md : Region.Mode) (ops : Array Oper) (As : List Nat) (n : Nat) (leaf : Nat → Bool) : Tq → Nat → Bool
  | .done, M => leaf M
  | .quiet k t, M => decide (k < n) && ((rdyF M As 0).contains k && freeF md ops M k && muteAt ops k) && tqF md ops As n leaf t (M ||| (1 <<< k))
  | .loud k t, M => decide (k < n) && decide (rdyF M As 0 = [k]) && tqF md ops As n leaf t (M ||| (1 <<< k))
  | .fork i t j u, M => decide (rdyF M As 0 = [i, j]) && decide (i < n) && decide (j < n) && decide (t.len = u.len) && tqF md ops As n leaf t (M ||| (1 <<< i)) && tqF md ops As n leaf u (M ||| (1 <<< j))
  | .fork3 i t j u k v, M => decide (rdyF M As 0 = [i, j, k]) && decide (i < n) && decide (j < n) && decide (k < n) && decide (t.len = u.len) && decide (t.len = v.len) && tqF md ops As n leaf t (M ||| (1 <<< i)) && tqF md ops As n leaf u (M ||| (1 <<< j)) && tqF md ops As n leaf v (M ||| (1 <<< k))
theorem tqc_F {n ML : Nat} {L : Array Bool} (hn : n ≤ ops.size) (hL : RepB L ops.size ML) : ∀ (t : Tq) (M : Nat) {listed : Array Bool}, RepB listed ops.size M → tqF md ops (masks md ops) n (fun M => M == ML) t M = true → tqcB md ops n L t listed = true
  | .done, M, listed, h, hf => by
    have e : M = ML := eq_of_beq hf
    subst e
    exact decide_eq_true (h.eq hL)
  | .quiet k t, M, listed, h, hf => by
    simp only [tqF, Bool.and_eq_true, decide_eq_true_eq] at hf
    obtain ⟨⟨hk, ⟨h1, h2⟩, h3⟩, h4⟩ := hf
    simp only [tqcB, Bool.and_eq_true, decide_eq_true_eq]
    exact ⟨⟨hk, ⟨by rw [ready_F h]; exact h1, free_F h h2⟩, h3⟩, tqc_F hn hL t _ (h.set (by omega)) h4⟩
  | .loud k t, M, listed, h, hf => by
    simp only [tqF, Bool.and_eq_true, decide_eq_true_eq] at hf
    obtain ⟨⟨hk, h1⟩, h4⟩ := hf
    simp only [tqcB, Bool.and_eq_true, decide_eq_true_eq]
    exact ⟨⟨hk, by rw [ready_F h]; exact h1⟩, tqc_F hn hL t _ (h.set (by omega)) h4⟩
  | .fork i t j u, M, listed, h, hf => by
    simp only [tqF, Bool.and_eq_true, decide_eq_true_eq] at hf
    obtain ⟨⟨⟨⟨⟨h1, hi⟩, hj⟩, hl⟩, h2⟩, h3⟩ := hf
    simp only [tqcB, Bool.and_eq_true, decide_eq_true_eq]
    exact ⟨⟨⟨⟨⟨by rw [ready_F h]; exact h1, hi⟩, hj⟩, hl⟩, tqc_F hn hL t _ (h.set (by omega)) h2⟩, tqc_F hn hL u _ (h.set (by omega)) h3⟩
  | .fork3 i t j u k v, M, listed, h, hf => by
    simp only [tqF, Bool.and_eq_true, decide_eq_true_eq] at hf
    obtain ⟨⟨⟨⟨⟨⟨⟨⟨h1, hi⟩, hj⟩, hk⟩, hl⟩, hl2⟩, h2⟩, h3⟩, h4⟩ := hf
    simp only [tqcB, Bool.and_eq_true, decide_eq_true_eq]
    exact ⟨⟨⟨⟨⟨⟨⟨⟨by rw [ready_F h]; exact h1, hi⟩, hj⟩, hk⟩, hl⟩, hl2⟩, tqc_F hn hL t _ (h.set (by omega)) h2⟩, tqc_F hn hL u _ (h.set (by omega)) h3⟩, tqc_F hn hL v _ (h.set (by omega)) h4⟩
theorem tq_F {n : Nat} (hn : n ≤ ops.size) : ∀ (t : Tq) (M : Nat) {listed : Array Bool}, RepB listed ops.size M → tqF md ops (masks md ops) n (seqF (masks md ops) (ops.size - n) n) t M = true → tqB md ops n (ops.size - n) t listed = true
  | .done, M, listed, h, hf => seq_F (ops.size - n) n M h (by omega) hf
  | .quiet k t, M, listed, h, hf => by
    simp only [tqF, Bool.and_eq_true, decide_eq_true_eq] at hf
    obtain ⟨⟨hk, ⟨h1, h2⟩, h3⟩, h4⟩ := hf
    simp only [tqB, Bool.and_eq_true, decide_eq_true_eq]
    exact ⟨⟨hk, ⟨by rw [ready_F h]; exact h1, free_F h h2⟩, h3⟩, tq_F hn t _ (h.set (by omega)) h4⟩
  | .loud k t, M, listed, h, hf => by
    simp only [tqF, Bool.and_eq_true, decide_eq_true_eq] at hf
    obtain ⟨⟨hk, h1⟩, h4⟩ := hf
    simp only [tqB, Bool.and_eq_true, decide_eq_true_eq]
    exact ⟨⟨hk, by rw [ready_F h]; exact h1⟩, tq_F hn t _ (h.set (by omega)) h4⟩
  | .fork i t j u, M, listed, h, hf => by
    simp only [tqF, Bool.and_eq_true, decide_eq_true_eq] at hf
    obtain ⟨⟨⟨⟨⟨h1, hi⟩, hj⟩, hl⟩, h2⟩, h3⟩ := hf
    simp only [tqB, Bool.and_eq_true, decide_eq_true_eq]
    exact ⟨⟨⟨⟨⟨by rw [ready_F h]; exact h1, hi⟩, hj⟩, hl⟩, tq_F hn t _ (h.set (by omega)) h2⟩, tq_F hn u _ (h.set (by omega)) h3⟩
  | .fork3 i t j u k v, M, listed, h, hf => by
    simp only [tqF, Bool.and_eq_true, decide_eq_true_eq] at hf
    obtain ⟨⟨⟨⟨⟨⟨⟨⟨h1, hi⟩, hj⟩, hk⟩, hl⟩, hl2⟩, h2⟩, h3⟩, h4⟩ := hf
    simp only [tqB, Bool.and_eq_true, decide_eq_true_eq]
    exact ⟨⟨⟨⟨⟨⟨⟨⟨by rw [ready_F h]; exact h1, hi⟩, hj⟩, hk⟩, hl⟩, hl2⟩, tq_F hn t _ (h.set (by omega)) h2⟩, tq_F hn u _ (h.set (by omega)) h3⟩, tq_F hn v _ (h.set (by omega)) h4⟩
/-- the first so many, as bits. -/
theorem repLow {n m : Nat} (hm : m ≤ n) : RepB (List.replicate m true ++ List.replicate (n - m) false).toArray n (1 <<< m - 1) := by
  refine ⟨by simp; omega, fun j => ?_⟩
  rw [Nat.one_shiftLeft, Nat.testBit_two_pow_sub_one]
  by_cases h : j < m
  · rw [decide_eq_true h]
    simp only [Array.getD, List.size_toArray, List.length_append, List.length_replicate]
    rw [dif_pos (by omega)]
    simp [List.getElem_append, h]
  · rw [decide_eq_false h]
    simp only [Array.getD, List.size_toArray, List.length_append, List.length_replicate]
    split
    · simp [List.getElem_append, h]
    · rfl
/-- the fast check of two trees: the first one ends where the first m are done. -/
def tq2F (md : Region.Mode) (ops : Array Oper) (n : Nat) (t1 : Tq) (m : Nat) (t2 : Tq) : Bool :=
  Region.noSelect ops && decide (n < ops.size) && Region.sinkB md ops n && Region.chainB md ops n && tqF md ops (masks md ops) n (fun M => M == 1 <<< m - 1) t1 0 && tqF md ops (masks md ops) n (seqF (masks md ops) (ops.size - n) n) t2 (1 <<< m - 1) && decide (m ≤ ops.size)
theorem tq2_F {n m : Nat} {t1 t2 : Tq} (h : tq2F md ops n t1 m t2 = true) : tq2B md ops n t1 (List.replicate m true ++ List.replicate (ops.size - m) false).toArray t2 = true := by
  simp only [tq2F, Bool.and_eq_true, decide_eq_true_eq] at h
  obtain ⟨⟨⟨⟨⟨⟨h1, h2⟩, h3⟩, h4⟩, h5⟩, h6⟩, h7⟩ := h
  simp only [tq2B, Bool.and_eq_true, decide_eq_true_eq]
  exact ⟨⟨⟨⟨⟨h1, h2⟩, h3⟩, h4⟩, tqc_F (by omega) (repLow h7) t1 0 (RepB.start _) h5⟩, tq_F (by omega) t2 _ (repLow h7) h6⟩
def tqeF (md : Region.Mode) (ops : Array Oper) (n : Nat) (t : Tq) : Bool :=
  Region.noSelect ops && decide (n < ops.size) && Region.sinkB md ops n && Region.chainB md ops n && tqF md ops (masks md ops) n (seqF (masks md ops) (ops.size - n) n) t 0
theorem tqe_F {n : Nat} {t : Tq} (h : tqeF md ops n t = true) : tqeB md ops n t = true := by
  simp only [tqeF, Bool.and_eq_true, decide_eq_true_eq] at h
  obtain ⟨⟨⟨⟨h1, h2⟩, h3⟩, h4⟩, h5⟩ := h
  simp only [tqeB, Bool.and_eq_true, decide_eq_true_eq]
  exact ⟨⟨⟨⟨h1, h2⟩, h3⟩, h4⟩, tq_F (by omega) t 0 (RepB.start _) h5⟩
variable {Q : Exit → Act → World → Prop}
theorem wp_region_ext_tq2F {id : Nat} {a : Act} {w : World} {l : List Oper} (n : Nat) (t1 : Tq) (m : Nat) (t2 : Tq) (hm : P.follows .mixedOrders = true)
    (hB : (tq2F .any l.toArray n t1 m t2 && decide (t1.len + t2.len = n)) = true) (hQ : ∀ d v c a w, Q (.panic c) (a.put d v) w → Q (.panic c) a w)
    (h : wqTree2 P l Q (fun w' => ∃ x : Ex w, w' = x.W) n t2 t1 a w.drew) : (Code.region id l.toArray true).wp P Q a w := by
  simp only [Bool.and_eq_true] at hB
  exact wp_region_ext_tq2 n t1 _ t2 hm (by rw [tq2_F hB.1, hB.2]; rfl) hQ h
theorem wp_region_ext_tqF {id : Nat} {a : Act} {w : World} {l : List Oper} (n : Nat) (t : Tq) (hm : P.follows .mixedOrders = true)
    (hB : (tqeF .any l.toArray n t && decide (t.len = n)) = true) (hQ : ∀ d v c a w, Q (.panic c) (a.put d v) w → Q (.panic c) a w)
    (h : wqTree P l Q (fun w' => ∃ x : Ex w, w' = x.W) n t a w.drew) : (Code.region id l.toArray true).wp P Q a w := by
  simp only [Bool.and_eq_true] at hB
  exact wp_region_ext_tq n t hm (by rw [tqe_F hB.1, hB.2]; rfl) hQ h
end
end Go.Proofs.Ytnplefhigbkbbaa
end
