/- Spill's laws: Team (walk). · Spill's reference: TeamFault, Breathes, May (walks). · Spill's laws of teams (plain): a right roster does all hours; changes that need no more. · Spill's laws: word, picked (walks). · Spill's reference: Comes, Play (walks). · Spill's laws: Picked (walk): a truth by words. · Spill's outright laws (plain): other weighings, narrower ranges, a day more, what is left out. · Spill's laws: Weighed (walk): weighings by words, true of some stocks but for those of bits. · Spill's laws: thin works and truths (plain). · Spill's laws: lives (walk). · Spill's outright laws (plain): what lives tells; ends of a range. · Spill: Fewest and Blame (plain): the lists that are tried. · Spill's reference (plain): all truths by number. · Spill's laws: rows of the call's own that are written in place; a day more (plain). -/
import Derived.Test.YthihdiilokdidaaV10
import Derived.Test.YthihdiilokdidaaV9
set_option linter.unusedVariables false
set_option linter.unusedSimpArgs false
set_option linter.unusedSectionVars false
section
namespace Go.Proofs.Ythihdiilokdidaa
open Go.RowKit
attribute [local go_sem] Ex.cell? Ex.frozen? Gx.cell?

theorem rangeS_info : (Try.prog.info? 50).map (fun i => (i.zero, i.size, i.bytes)) = some (some (.agg #[.int .i64 0, .int .i64 0]), 2, 16) := by kernel_rfl
/-- a team that is told. -/
structure TmV (t : Tm) (w' : World) (e : Ending) : Prop where
  out : ∃ Ar Ah cr ch, e = .returned (.agg #[.slice Ar t.rates.length cr, .slice Ah t.hours.length ch, .int .i64 t.limit, .int .i64 t.most]) ∧ TmIn w' w'.heap.size t Ar Ah
set_option maxRecDepth 100000 in
set_option maxHeartbeats 6400000 in
theorem Team_any (t : Tm) (Ar Ah : Option Addr) (cr ch : Nat) (w : World) (htm : TmIn w w.heap.size t Ar Ah) (hsm : t.rates.length ≤ 1000 ∧ t.hours.length ≤ 1000) :
    Calls Try.prog 25 #[.agg #[.slice Ar t.rates.length cr, .slice Ah t.hours.length ch, .int .i64 t.limit, .int .i64 t.most]] w fun e w' => TmV t w' e ∧ Below w.heap.size w w' := by
  obtain ⟨i0, hi0, hv0, hv1, hv2⟩ := info_parts rangeS_info
  have HI0 := Lib.hid hi0
  clear hi0
  obtain ⟨hlr, hlh⟩ := hsm
  have htr := htm.rates
  have hth := htm.hours
  clear htm
  have hb1 := ex_alloc (ex_alloc (Below.refl w.heap.size w) (.cells #[.slice Ar t.rates.length cr, .slice Ah t.hours.length ch, .int .i64 t.limit, .int .i64 t.most] 55)) (.cells #[.slice none 0 0, .slice none 0 0, .int .i64 0, .int .i64 0] 59)
  have q0 : Blk ((w.alloc (.cells #[.slice Ar t.rates.length cr, .slice Ah t.hours.length ch, .int .i64 t.limit, .int .i64 t.most] 55)).alloc (.cells #[.slice none 0 0, .slice none 0 0, .int .i64 0, .int .i64 0] 59)) w.heap.size 55 #[.slice Ar t.rates.length cr, .slice Ah t.hours.length ch, .int .i64 t.limit, .int .i64 t.most] := (Blk.new _ _ _).alloc _
  have q1 : Blk ((w.alloc (.cells #[.slice Ar t.rates.length cr, .slice Ah t.hours.length ch, .int .i64 t.limit, .int .i64 t.most] 55)).alloc (.cells #[.slice none 0 0, .slice none 0 0, .int .i64 0, .int .i64 0] 59)) (w.heap.size + 1) 59 #[.slice none 0 0, .slice none 0 0, .int .i64 0, .int .i64 0] := Blk.new' _ _ _ (by simp)
  go_enter Try.func25, Try.ntmps25
  go_upto_region 1 with fail
  show Code.wp _ _ _ _ ((w.alloc (.cells #[.slice Ar t.rates.length cr, .slice Ah t.hours.length ch, .int .i64 t.limit, .int .i64 t.most] 55)).alloc (.cells #[.slice none 0 0, .slice none 0 0, .int .i64 0, .int .i64 0] 59))
  have hVs : w.heap.size + 1 + 1 ≤ ((w.alloc (.cells #[.slice Ar t.rates.length cr, .slice Ah t.hours.length ch, .int .i64 t.limit, .int .i64 t.most] 55)).alloc (.cells #[.slice none 0 0, .slice none 0 0, .int .i64 0, .int .i64 0] 59)).heap.size := by simp
  generalize (w.alloc (.cells #[.slice Ar t.rates.length cr, .slice Ah t.hours.length ch, .int .i64 t.limit, .int .i64 t.most] 55)).alloc (.cells #[.slice none 0 0, .slice none 0 0, .int .i64 0, .int .i64 0] 59) = V at *
  refine wp_cut (fun a W => Rel (fun a W => ∃ po A1 c1, (Below w.heap.size w W ∧ w.heap.size + 1 < po ∧ Blk W w.heap.size 55 #[.slice Ar t.rates.length cr, .slice Ah t.hours.length ch, .int .i64 t.limit, .int .i64 t.most] ∧ Blk W (w.heap.size + 1) 59 #[.slice none 0 0, .slice none 0 0, .int .i64 0, .int .i64 0] ∧ Blk W po 59 #[.slice none 0 0, .slice A1 t.hours.length c1, .int .i64 t.limit, .int .i64 t.most] ∧ RowAt W w.heap.size 3 1 A1 t.hours.length (fI t.hours)) ∧ ∃ u : Nat → Value, a = ⟨List.toArray (u 0 :: .pointer (some ⟨w.heap.size, 0, none⟩) :: .pointer (some ⟨w.heap.size + 1, 0, none⟩) :: .pointer (some ⟨po, 0, none⟩) :: u 4 :: u 5 :: u 6 :: u 7 :: u 8 :: u 9 :: u 10 :: u 11 :: u 12 :: u 13 :: u 14 :: u 15 :: u 16 :: u 17 :: u 18 :: u 19 :: u 20 :: u 21 :: u 22 :: u 23 :: u 24 :: u 25 :: u 26 :: u 27 :: u 28 :: u 29 :: u 30 :: u 31 :: []), []⟩) a W) ?_ ?_
  rotate_left
  · intro J K' hJ hK
    have a0 : V.cell? ⟨w.heap.size, 0, none⟩ = some (.slice Ar t.rates.length cr) := q0.cell 0
    have a1 : V.cell? ⟨w.heap.size, 1, none⟩ = some (.slice Ah t.hours.length ch) := q0.cell 1
    have a2 : V.cell? ⟨w.heap.size, 2, none⟩ = some (.int .i64 t.limit) := q0.cell 2
    have a3 : V.cell? ⟨w.heap.size, 3, none⟩ = some (.int .i64 t.most) := q0.cell 3
    have l0 := q0.lt
    go_wp2_with fail
    refine wp_region_ext_tqF 9 (.quiet 0 (.quiet 1 (.quiet 3 (.quiet 4 (.quiet 5 (.quiet 6 (.fork 2 (.quiet 7 (.loud 8 .done)) 8 (.loud 2 (.quiet 7 .done))))))))) (by kernel_rfl) (by kernel_rfl) (by intro d _ _ _ _ h; cases d <;> exact h) ?_
    have X0 := (Below.refl V.heap.size V).drew
    repeat (refine tq_quiet rfl ?_; go_big_quiet_step (fail); refine wpQuiet_nil ?_)
    obtain ⟨Y, hY⟩ : ∃ Y, V.drew = Y := ⟨_, rfl⟩
    rw [hY] at X0 ⊢
    clear hY
    refine tq_fork rfl rfl ?_ ?_
    · go_wp2_with fail
      refine (list_any Ah ch t.hours Y (by omega) ((hth.below (ex_trans hb1 X0)).up (ex_trans hb1 X0).size)).mono ?_
      rintro e Y2 ⟨⟨A1, c1, rfl, ro⟩, hY2⟩
      have X2 := ex_trans X0 hY2
      go_wp2_with fail
      refine ⟨inEx X2, ?_⟩
      repeat (refine tq_quiet rfl ?_; go_big_quiet_step (fail); refine wpQuiet_nil ?_)
      refine tq_loud rfl ?_
      go_wp2_with fail
      have qo : Blk (Y2.alloc (.cells #[.slice none 0 0, .slice none 0 0, .int .i64 0, .int .i64 0] 59)) Y2.heap.size 59 #[.slice none 0 0, .slice none 0 0, .int .i64 0, .int .i64 0] := Blk.new _ _ _
      have X3 := ex_alloc X2 (.cells #[.slice none 0 0, .slice none 0 0, .int .i64 0, .int .i64 0] 59)
      refine ⟨inEx X3, ?_⟩
      repeat (refine tq_quiet rfl ?_; go_big_quiet_step (fail); refine wpQuiet_nil ?_)
      obtain ⟨po, hpo⟩ : ∃ p, Y2.heap.size = p := ⟨_, rfl⟩
      have hpo2 : w.heap.size + 1 < po := by have := X2.size; omega
      rw [hpo] at qo ⊢
      have NA := ex_alloc (Below.refl Y2.heap.size Y2) (.cells #[.slice none 0 0, .slice none 0 0, .int .i64 0, .int .i64 0] 59)
      replace ro := (ro.below NA).base (B' := w.heap.size) (by have := X0.size; omega)
      clear NA hpo
      generalize Y2.alloc (.cells #[.slice none 0 0, .slice none 0 0, .int .i64 0, .int .i64 0] 59) = Z at *
      have o0 : Z.cell? ⟨po, 0, none⟩ = some (.slice none 0 0) := qo.cell 0
      have o1 : Z.cell? ⟨po, 1, none⟩ = some (.slice none 0 0) := qo.cell 1
      have o2 : Z.cell? ⟨po, 2, none⟩ = some (.int .i64 0) := qo.cell 2
      have o3 : Z.cell? ⟨po, 3, none⟩ = some (.int .i64 0) := qo.cell 3
      have lo := qo.lt
      have ff := qo.frozen0
      have q0' := q0.below X3 q0.lt
      have q1' := q1.below X3 q1.lt
      have B0 := ex_set (ex_trans hb1 X3) (p := ⟨po, 0, none⟩) (by show w.heap.size ≤ po; omega) (.slice none 0 0)
      have ro0 := ro.set qo (by decide) 0 (.slice none 0 0)
      have qa0 := q0'.far (p := ⟨po, 0, none⟩) (by show w.heap.size ≠ po; omega) (.slice none 0 0)
      have qb0 := q1'.far (p := ⟨po, 0, none⟩) (by show w.heap.size + 1 ≠ po; omega) (.slice none 0 0)
      have qo0 := qo.set_ 0 (.slice none 0 0)
      have B1 := ex_set B0 (p := ⟨po, 1, none⟩) (by show w.heap.size ≤ po; omega) (.slice A1 t.hours.length c1)
      have ro1 := ro0.set qo0 (by decide) 1 (.slice A1 t.hours.length c1)
      have qa1 := qa0.far (p := ⟨po, 1, none⟩) (by show w.heap.size ≠ po; omega) (.slice A1 t.hours.length c1)
      have qb1 := qb0.far (p := ⟨po, 1, none⟩) (by show w.heap.size + 1 ≠ po; omega) (.slice A1 t.hours.length c1)
      have qo1 := qo0.set_ 1 (.slice A1 t.hours.length c1)
      have B2 := ex_set B1 (p := ⟨po, 2, none⟩) (by show w.heap.size ≤ po; omega) (.int .i64 t.limit)
      have ro2 := ro1.set qo1 (by decide) 2 (.int .i64 t.limit)
      have qa2 := qa1.far (p := ⟨po, 2, none⟩) (by show w.heap.size ≠ po; omega) (.int .i64 t.limit)
      have qb2 := qb1.far (p := ⟨po, 2, none⟩) (by show w.heap.size + 1 ≠ po; omega) (.int .i64 t.limit)
      have qo2 := qo1.set_ 2 (.int .i64 t.limit)
      have B3 := ex_set B2 (p := ⟨po, 3, none⟩) (by show w.heap.size ≤ po; omega) (.int .i64 t.most)
      have ro3 := ro2.set qo2 (by decide) 3 (.int .i64 t.most)
      have qa3 := qa2.far (p := ⟨po, 3, none⟩) (by show w.heap.size ≠ po; omega) (.int .i64 t.most)
      have qb3 := qb2.far (p := ⟨po, 3, none⟩) (by show w.heap.size + 1 ≠ po; omega) (.int .i64 t.most)
      have qo3 := qo2.set_ 3 (.int .i64 t.most)
      simp only [List.setIfInBounds_toArray, List.set_cons_zero, List.set_cons_succ] at qo3
      refine tq_done (r := [_]) rfl ?_
      go_wp2_with fail
      exact Met.intro (hJ _ _ ⟨⟨po, A1, c1, ⟨B3, hpo2, qa3, qb3, qo3, ro3⟩, exFrame (by kernel_rfl)⟩⟩)
    · go_wp2_with fail
      have qo : Blk (Y.alloc (.cells #[.slice none 0 0, .slice none 0 0, .int .i64 0, .int .i64 0] 59)) Y.heap.size 59 #[.slice none 0 0, .slice none 0 0, .int .i64 0, .int .i64 0] := Blk.new _ _ _
      have X2 := ex_alloc X0 (.cells #[.slice none 0 0, .slice none 0 0, .int .i64 0, .int .i64 0] 59)
      refine ⟨inEx X2, ?_⟩
      repeat (refine tq_quiet rfl ?_; go_big_quiet_step (fail); refine wpQuiet_nil ?_)
      obtain ⟨po, hpo⟩ : ∃ p, Y.heap.size = p := ⟨_, rfl⟩
      have hpo2 : w.heap.size + 1 < po := by have := X0.size; omega
      rw [hpo] at qo ⊢
      clear hpo
      generalize Y.alloc (.cells #[.slice none 0 0, .slice none 0 0, .int .i64 0, .int .i64 0] 59) = Z at *
      refine tq_loud rfl ?_
      go_wp2_with fail
      refine (list_any Ah ch t.hours Z (by omega) ((hth.below (ex_trans hb1 X2)).up (ex_trans hb1 X2).size)).mono ?_
      rintro e Z2 ⟨⟨A1, c1, rfl, ro⟩, hZ2⟩
      have X3 := ex_trans X2 hZ2
      go_wp2_with fail
      refine ⟨inEx X3, ?_⟩
      repeat (refine tq_quiet rfl ?_; go_big_quiet_step (fail); refine wpQuiet_nil ?_)
      replace qo := qo.below hZ2 qo.lt
      replace ro := ro.base (B' := w.heap.size) (by have := X2.size; omega)
      have o0 : Z2.cell? ⟨po, 0, none⟩ = some (.slice none 0 0) := qo.cell 0
      have o1 : Z2.cell? ⟨po, 1, none⟩ = some (.slice none 0 0) := qo.cell 1
      have o2 : Z2.cell? ⟨po, 2, none⟩ = some (.int .i64 0) := qo.cell 2
      have o3 : Z2.cell? ⟨po, 3, none⟩ = some (.int .i64 0) := qo.cell 3
      have lo := qo.lt
      have ff := qo.frozen0
      have q0' := q0.below X3 q0.lt
      have q1' := q1.below X3 q1.lt
      have B0 := ex_set (ex_trans hb1 X3) (p := ⟨po, 0, none⟩) (by show w.heap.size ≤ po; omega) (.slice none 0 0)
      have ro0 := ro.set qo (by decide) 0 (.slice none 0 0)
      have qa0 := q0'.far (p := ⟨po, 0, none⟩) (by show w.heap.size ≠ po; omega) (.slice none 0 0)
      have qb0 := q1'.far (p := ⟨po, 0, none⟩) (by show w.heap.size + 1 ≠ po; omega) (.slice none 0 0)
      have qo0 := qo.set_ 0 (.slice none 0 0)
      have B1 := ex_set B0 (p := ⟨po, 1, none⟩) (by show w.heap.size ≤ po; omega) (.slice A1 t.hours.length c1)
      have ro1 := ro0.set qo0 (by decide) 1 (.slice A1 t.hours.length c1)
      have qa1 := qa0.far (p := ⟨po, 1, none⟩) (by show w.heap.size ≠ po; omega) (.slice A1 t.hours.length c1)
      have qb1 := qb0.far (p := ⟨po, 1, none⟩) (by show w.heap.size + 1 ≠ po; omega) (.slice A1 t.hours.length c1)
      have qo1 := qo0.set_ 1 (.slice A1 t.hours.length c1)
      have B2 := ex_set B1 (p := ⟨po, 2, none⟩) (by show w.heap.size ≤ po; omega) (.int .i64 t.limit)
      have ro2 := ro1.set qo1 (by decide) 2 (.int .i64 t.limit)
      have qa2 := qa1.far (p := ⟨po, 2, none⟩) (by show w.heap.size ≠ po; omega) (.int .i64 t.limit)
      have qb2 := qb1.far (p := ⟨po, 2, none⟩) (by show w.heap.size + 1 ≠ po; omega) (.int .i64 t.limit)
      have qo2 := qo1.set_ 2 (.int .i64 t.limit)
      have B3 := ex_set B2 (p := ⟨po, 3, none⟩) (by show w.heap.size ≤ po; omega) (.int .i64 t.most)
      have ro3 := ro2.set qo2 (by decide) 3 (.int .i64 t.most)
      have qa3 := qa2.far (p := ⟨po, 3, none⟩) (by show w.heap.size ≠ po; omega) (.int .i64 t.most)
      have qb3 := qb2.far (p := ⟨po, 3, none⟩) (by show w.heap.size + 1 ≠ po; omega) (.int .i64 t.most)
      have qo3 := qo2.set_ 3 (.int .i64 t.most)
      simp only [List.setIfInBounds_toArray, List.set_cons_zero, List.set_cons_succ] at qo3
      refine tq_done (r := [_]) rfl ?_
      go_wp2_with fail
      exact Met.intro (hJ _ _ ⟨⟨po, A1, c1, ⟨B3, hpo2, qa3, qb3, qo3, ro3⟩, exFrame (by kernel_rfl)⟩⟩)
  clear hb1 q0 q1 hVs V
  rintro a W0 ⟨⟨po, A1, c1, ⟨hb1, hpo, q0, q1, q2, ro⟩, u0, rfl⟩⟩
  obtain ⟨B0, hB0⟩ : ∃ b, W0.heap.size = b := ⟨_, rfl⟩
  have hpB : po < B0 := by have := q2.lt; omega
  have hsz : B0 ≤ W0.heap.size := by omega
  have hwB : w.heap.size ≤ B0 := by omega
  clear hB0
  go_wp2_with fail
  refine wp_loop (fun a W => Rel (fun a W => ∃ k : Nat, k ≤ t.rates.length ∧ Below w.heap.size w W ∧ B0 ≤ W.heap.size ∧ Blk W w.heap.size 55 #[.slice Ar t.rates.length cr, .slice Ah t.hours.length ch, .int .i64 t.limit, .int .i64 t.most] ∧ Blk W (w.heap.size + 1) 59 #[.slice none 0 0, .slice none 0 0, .int .i64 0, .int .i64 0] ∧ RowAt W w.heap.size 3 1 A1 t.hours.length (fI t.hours) ∧ ∃ v, ∃ L : List Rg, Hid (L = t.rates.take k) ∧ Blk W po 59 #[v, .slice A1 t.hours.length c1, .int .i64 t.limit, .int .i64 t.most] ∧ W.ownsRow B0 50 2 v L.length (L.flatMap cR2) ∧ ∃ u : Nat → Value, a = ⟨List.toArray (u 0 :: .pointer (some ⟨w.heap.size, 0, none⟩) :: .pointer (some ⟨w.heap.size + 1, 0, none⟩) :: .pointer (some ⟨po, 0, none⟩) :: .int .i64 (k : Int) :: u 5 :: u 6 :: u 7 :: u 8 :: u 9 :: u 10 :: u 11 :: u 12 :: u 13 :: u 14 :: u 15 :: u 16 :: u 17 :: u 18 :: u 19 :: u 20 :: u 21 :: u 22 :: u 23 :: u 24 :: u 25 :: u 26 :: u 27 :: u 28 :: u 29 :: u 30 :: u 31 :: []), []⟩) a W) (fun a _ => t.rates.length - (intOf (a.tmps.getD 4 undef)).toNat) ⟨⟨0, by omega, hb1, hsz, q0, q1, ro, .slice none 0 0, [], Lib.hid rfl, q2, ⟨rfl, .inl ⟨rfl, rfl⟩⟩, exFrame (by kernel_rfl)⟩⟩ ?_
  clear hb1 hsz q0 q1 q2 ro W0
  rintro a W ⟨⟨k, hk, hbl, hsz, q0, q1, ro, v, L, HL, q2, hown, u, rfl⟩⟩
  have l0 := q0.lt
  have l1 := q1.lt
  have l2 := q2.lt
  have a0 : W.cell? ⟨w.heap.size, 0, none⟩ = some (.slice Ar t.rates.length cr) := q0.cell 0
  by_cases hlt : k < t.rates.length
  · obtain ⟨br, orr, rfl, hbr, r0, r1⟩ := IsRgs.at_ (htr.below hbl) hlt
    have lbr : br < W.heap.size := by have := hbl.size; omega
    have hlen : L.length = k := by rw [HL.out, List.length_take]; omega
    have hat : t.rates[k] = gR t.rates k := by simp [gR, hlt]
    obtain ⟨e0, he0⟩ : ∃ x, (gR t.rates k).lo = x := ⟨_, rfl⟩
    rw [he0] at r0
    obtain ⟨e1, he1⟩ : ∃ x, (gR t.rates k).hi = x := ⟨_, rfl⟩
    rw [he1] at r1
    have HN : Hid (L ++ [⟨e0, e1⟩] = t.rates.take (k + 1)) := Lib.hid (take_push hlt HL.out (by rw [hat, ← he0, ← he1]))
    have HLEN := Lib.hid hlen
    have hlk : L.length ≤ 1000 := by omega
    have hkn : (k : Int) < (t.rates.length : Int) := by omega
    clear hat hlen he0 he1
    have hge := fun (j : Nat) (hj : v.ownBlock = some j) => own_ge hown hj
    have hbr2 : br < w.heap.size := hbr
    obtain ⟨row, hrow⟩ : ∃ row, v.ownBlock = row := ⟨_, rfl⟩
    have hn0 : ¬ some (w.heap.size) = row := fun e => by have := hge _ (hrow.trans e.symm); omega
    have hn1 : ¬ some (w.heap.size + 1) = row := fun e => by have := hge _ (hrow.trans e.symm); omega
    have hn2 : ¬ some (po) = row := fun e => by have := hge _ (hrow.trans e.symm); omega
    have hnr : ¬ some br = row := fun e => by have := hge _ (hrow.trans e.symm); omega
    have hrw : ∀ j, row = some j → w.heap.size ≤ j := fun j hj => by have := hge _ (hrow.trans hj); omega
    have e2c : W.cell? ⟨po, 0, none⟩ = some v := q2.cell 0
    have HROW := Lib.hid hrow
    clear hrow hge
    go_wp2_with fail
    refine wp_region_gx_mix row 11 [(false, 0), (false, 1), (false, 2), (false, 3), (false, 4), (false, 5), (false, 6), (true, 7), (true, 8), (true, 9), (false, 10)] (by kernel_rfl) (by kernel_rfl) (by intro d _ _ _ _ h; cases d <;> exact h) ?_
    repeat (refine mix_quiet rfl ?_; go_big_quiet_step (fail); refine wpQuiet_nil ?_)
    have hX0 := (Below.refl W.heap.size W).drew
    refine mix_loud rfl ?_
    go_wp2_with fail
    refine (to_any e0 e1 W.drew).mono ?_
    rintro e x2 ⟨rfl, hx2⟩
    have hX_x2 := ex_trans hX0 hx2
    go_wp2_with fail
    refine ⟨inGx (grown_row hX_x2), ?_⟩
    repeat (refine mix_quiet rfl ?_; go_big_quiet_step (fail); refine wpQuiet_nil ?_)
    refine mix_loud rfl ?_
    go_wp2_with fail
    have hX3 := ex_alloc hX_x2 (.cells #[.int .i64 e0, .int .i64 e1] 50)
    refine ⟨inGx (grown_row hX3), ?_⟩
    repeat (refine mix_quiet rfl ?_; go_big_quiet_step (fail); refine wpQuiet_nil ?_)
    have y4 := own_below hown hX3
    have c63 : L.length + 1 ≤ maxLen := by unfold maxLen; omega
    have cby : (L.length + 1) * 16 ≤ 140737488355328 := by omega
    have hbase : B0 ≤ (x2.alloc (.cells #[.int .i64 e0, .int .i64 e1] 50)).heap.size := by have := hX3.size; omega
    refine mix_loud rfl ?_
    go_wp2_with (at_builtin; refine wpList_append_lies _ rfl _ _ _ rfl (B0) 50 i0 _ 2 16 Try.underlying48 HI0.out hv0 hv1 hv2 rfl (by omega) v _ _ rfl y4 ⟨x2.heap.size, 0, none⟩ 1 1 [.int .i64 e0, .int .i64 e1] rfl rfl (World.news_of_block (heap_alloc_new x2 _)) (by simp [Value.oneCell']) (by omega) c63 cby hbase (x2.heap.size + 1) (by simp) ?_; intro gg cap w1 hown' hgrow hat hlt')
    rw [HROW.out] at hgrow
    have hgB := (grown_row (r := row) hX3).andThen hgrow (fun j hj => .inr hj)
    refine ⟨inGx hgB, ?_⟩
    repeat (refine mix_quiet rfl ?_; go_big_quiet_step (fail); refine wpQuiet_nil ?_)
    refine mix_nil rfl ?_
    have B5 := hbl.grown hgB hbl.size hrw
    have p0 := q0.grown hgB hn0
    have p1 := q1.grown hgB hn1
    have p2 := q2.grown hgB hn2
    have f0 : w1.cell? ⟨po, 0, none⟩ = some v := p2.cell 0
    have ff := p2.frozen0
    have lp0 := p0.lt
    have lp1 := p1.lt
    have lp2 := p2.lt
    have hs7 : B0 ≤ w1.heap.size := by have := hgB.size; omega
    have rog := (ro.grown (HROW.out ▸ hgB) hown (by decide)).set p2 (by decide) 0 (.slice (some ⟨gg, 0, none⟩) (L.length + 1) cap)
    have own7 := own_push (f := cR2) (x := (⟨e0, e1⟩ : Rg)) rfl hown'
    have own8 := own_far own7 (p := ⟨po, 0, none⟩) (by show po < B0; omega) (.slice (some ⟨gg, 0, none⟩) (L.length + 1) cap)
    have B8 := ex_set B5 (p := ⟨po, 0, none⟩) (by show w.heap.size ≤ po; omega) (.slice (some ⟨gg, 0, none⟩) (L.length + 1) cap)
    have p08 := p0.far (p := ⟨po, 0, none⟩) (by show w.heap.size ≠ po; omega) (.slice (some ⟨gg, 0, none⟩) (L.length + 1) cap)
    have p18 := p1.far (p := ⟨po, 0, none⟩) (by show w.heap.size + 1 ≠ po; omega) (.slice (some ⟨gg, 0, none⟩) (L.length + 1) cap)
    have p28 := p2.set_ 0 (.slice (some ⟨gg, 0, none⟩) (L.length + 1) cap)
    simp only [List.setIfInBounds_toArray, List.set_cons_zero, List.set_cons_succ] at p28
    clear hown' own7 hgB hgrow y4 hX3 hX_x2 hX0 hx2 e2c q0 q1 q2 p0 p1 hown hnr hn0 hn1 hn2 a0 r0 r1
    go_wp2_with fail
    refine ⟨⟨⟨k + 1, by omega, B8, by simp; omega, p08, p18, rog, _, _, HN, p28, own8, exFrame (by kernel_rfl)⟩⟩, ?_⟩
    show t.rates.length - (intOf (.int .i64 ((k : Int) + 1))).toNat < t.rates.length - (intOf (.int .i64 (k : Int))).toNat
    simp [intOf]
    omega
  obtain rfl : k = t.rates.length := by omega
  have hLL : L = t.rates := HL.out.trans List.take_length
  clear HL
  rw [hLL] at hown
  obtain ⟨A2, c2, rfl, _, _, ro2⟩ := lay_row hown
  clear hown hLL
  have b0 : W.cell? ⟨po, 0, none⟩ = some (.slice A2 t.rates.length c2) := q2.cell 0
  have b1 : W.cell? ⟨po, 1, none⟩ = some (.slice A1 t.hours.length c1) := q2.cell 1
  have b2 : W.cell? ⟨po, 2, none⟩ = some (.int .i64 t.limit) := q2.cell 2
  have b3 : W.cell? ⟨po, 3, none⟩ = some (.int .i64 t.most) := q2.cell 3
  have z0 : W.cell? ⟨w.heap.size + 1, 0, none⟩ = some (.slice none 0 0) := q1.cell 0
  have z1 : W.cell? ⟨w.heap.size + 1, 1, none⟩ = some (.slice none 0 0) := q1.cell 1
  have z2 : W.cell? ⟨w.heap.size + 1, 2, none⟩ = some (.int .i64 0) := q1.cell 2
  have z3 : W.cell? ⟨w.heap.size + 1, 3, none⟩ = some (.int .i64 0) := q1.cell 3
  have ff := q1.frozen0
  have hw1 : w.heap.size ≤ w.heap.size + 1 := by omega
  have B90 := ex_set hbl (p := ⟨w.heap.size + 1, 0, none⟩) hw1 (.slice A2 t.rates.length c2)
  have r00 := ro2.set q1 (by decide) 0 (.slice A2 t.rates.length c2)
  have r10 := ro.set q1 (by decide) 0 (.slice A2 t.rates.length c2)
  have q80 := q1.set_ 0 (.slice A2 t.rates.length c2)
  have B91 := ex_set B90 (p := ⟨w.heap.size + 1, 1, none⟩) hw1 (.slice A1 t.hours.length c1)
  have r01 := r00.set q80 (by decide) 1 (.slice A1 t.hours.length c1)
  have r11 := r10.set q80 (by decide) 1 (.slice A1 t.hours.length c1)
  have q81 := q80.set_ 1 (.slice A1 t.hours.length c1)
  have B92 := ex_set B91 (p := ⟨w.heap.size + 1, 2, none⟩) hw1 (.int .i64 t.limit)
  have r02 := r01.set q81 (by decide) 2 (.int .i64 t.limit)
  have r12 := r11.set q81 (by decide) 2 (.int .i64 t.limit)
  have q82 := q81.set_ 2 (.int .i64 t.limit)
  have B93 := ex_set B92 (p := ⟨w.heap.size + 1, 3, none⟩) hw1 (.int .i64 t.most)
  have r03 := r02.set q82 (by decide) 3 (.int .i64 t.most)
  have r13 := r12.set q82 (by decide) 3 (.int .i64 t.most)
  have q83 := q82.set_ 3 (.int .i64 t.most)
  simp only [List.setIfInBounds_toArray, List.set_cons_zero, List.set_cons_succ] at q83
  have HFIN := Lib.hid (And.intro r03.sl r13.sl)
  clear ro ro2 r00 r01 r02 r03 r10 r11 r12 r13
  go_wp2
  refine bodyPost_ret (results_cell_row rfl _ _ (w.heap.size + 1) 59 _ (0, 0) _ rfl q83 rfl rfl rfl) rfl ?_
  exact ⟨⟨⟨_, _, _, _, rfl, HFIN.out.1, HFIN.out.2⟩⟩, B93⟩
end Go.Proofs.Ythihdiilokdidaa
end

section
namespace Go.Proofs.Ythihdiilokdidaa
open Go.RowKit
attribute [local go_sem] Ex.cell? Ex.frozen?

theorem ckT_big {t : Tm} (h : 3 < t.rates.length) : ckTm t = 3 := by unfold ckTm; rw [if_pos h]
theorem ckT_one {t : Tm} (h : ¬ 3 < t.rates.length) (hn : ¬ TmOk t) : ckTm t = 1 := by
  have h0 : ckTm t ≠ 0 := fun e => hn (ckTm_iff.1 e)
  unfold ckTm at h0 ⊢
  rw [if_neg h] at h0 ⊢
  cases hg : goodTm t
  · rfl
  · rw [hg] at h0; exact absurd rfl h0
/-- hours by rates, the first so many. -/
def brL (t : Tm) (l : List Int) (k : Nat) : Int := esum (fun i => gI l i * (gR t.rates i).hi) (List.range k)
def smL (l : List Int) (k : Nat) : Int := esum (fun i => gI l i) (List.range k)
theorem mul_bd8 {a b : Int} (ha : 0 ≤ a ∧ a ≤ 8) (hb : 0 ≤ b ∧ b ≤ 100) : 0 ≤ a * b ∧ a * b ≤ 800 := by
  refine ⟨Int.mul_nonneg ha.1 hb.1, ?_⟩
  have h1 : a * b ≤ 8 * b := Int.mul_le_mul_of_nonneg_right ha.2 hb.1
  omega
set_option maxRecDepth 100000 in
set_option maxHeartbeats 3200000 in
theorem TeamFault_ref (t : Tm) (Ar Ah : Option Addr) (cr ch : Nat) (w : World) (htm : TmIn w w.heap.size t Ar Ah) :
    Calls Try.prog 29 #[.agg #[.slice Ar t.rates.length cr, .slice Ah t.hours.length ch, .int .i64 t.limit, .int .i64 t.most]] w fun e w' => e = .returned (.int .i64 (ckTm t)) ∧ Below w.heap.size w w' := by
  have htr := htm.rates
  have hth := htm.hours
  clear htm
  have hb1 := ex_alloc (Below.refl w.heap.size w) (.cells #[.slice Ar t.rates.length cr, .slice Ah t.hours.length ch, .int .i64 t.limit, .int .i64 t.most] 55)
  have q0 : Blk (w.alloc (.cells #[.slice Ar t.rates.length cr, .slice Ah t.hours.length ch, .int .i64 t.limit, .int .i64 t.most] 55)) w.heap.size 55 #[.slice Ar t.rates.length cr, .slice Ah t.hours.length ch, .int .i64 t.limit, .int .i64 t.most] := Blk.new _ _ _
  go_enter Try.func29, Try.ntmps29
  go_upto_region 1 with fail
  generalize w.alloc (.cells #[.slice Ar t.rates.length cr, .slice Ah t.hours.length ch, .int .i64 t.limit, .int .i64 t.most] 55) = V at *
  have a0 : V.cell? ⟨w.heap.size, 0, none⟩ = some (.slice Ar t.rates.length cr) := q0.cell 0
  have a1 : V.cell? ⟨w.heap.size, 1, none⟩ = some (.slice Ah t.hours.length ch) := q0.cell 1
  have a2 : V.cell? ⟨w.heap.size, 2, none⟩ = some (.int .i64 t.limit) := q0.cell 2
  have a3 : V.cell? ⟨w.heap.size, 3, none⟩ = some (.int .i64 t.most) := q0.cell 3
  have l0 := q0.lt
  by_cases h3 : 3 < t.rates.length
  · have HR : Hid (ckTm t = 3) := Lib.hid (ckT_big h3)
    have h3' : (3 : Int) < (t.rates.length : Int) := by omega
    go_wp2
    go_ret
    exact ⟨ret_int HR.out.symm, hb1⟩
  have h3' : ¬ (3 : Int) < (t.rates.length : Int) := by omega
  by_cases hn0 : t.rates.length = 0
  · have HR : Hid (ckTm t = 1) := Lib.hid (ckT_one h3 (fun h => by have := h.len.1; omega))
    have e1 : ((t.rates.length : Int) == 0) = true := by rw [beq_iff_eq]; omega
    have e2 : (t.rates.length == 0) = true := by simp [hn0]
    clear hn0
    go_wp2
    go_ret
    exact ⟨ret_int HR.out.symm, hb1⟩
  have e1 : ((t.rates.length : Int) == 0) = false := by rw [beq_eq_false_iff_ne]; omega
  have e2 : (t.rates.length == 0) = false := by simp [hn0]
  by_cases hl : t.hours.length = t.rates.length
  rotate_left
  · have HR : Hid (ckTm t = 1) := Lib.hid (ckT_one h3 (fun h => hl h.len.2.2))
    have e3 : ((t.hours.length : Int) == (t.rates.length : Int)) = false := by rw [beq_eq_false_iff_ne]; omega
    have e4 : ((t.hours.length : Int) != (t.rates.length : Int)) = true := by simp; omega
    clear hl hn0
    go_wp2
    go_ret
    exact ⟨ret_int HR.out.symm, hb1⟩
  have HL := Lib.hid hl
  have e3 : ((t.hours.length : Int) == (t.rates.length : Int)) = true := by rw [beq_iff_eq]; omega
  have e4 : ((t.hours.length : Int) != (t.rates.length : Int)) = false := by rw [hl]; simp
  clear hl
  go_wp2_with fail
  refine (In_ref t.limit 0 1000 V).mono ?_
  rintro e w' ⟨rfl, rfl⟩
  cases hi_limit : inB t.limit 0 1000
  · have HR : Hid (ckTm t = 1) := Lib.hid (ckT_one h3 (fun h => by rw [inB_iff.2 ⟨h.limit.1, h.limit.2⟩] at hi_limit; cases hi_limit))
    clear hi_limit
    go_wp2
    go_ret
    exact ⟨ret_int HR.out.symm, hb1⟩
  have HI_limit := Lib.hid (inB_iff.1 hi_limit)
  clear hi_limit
  go_wp2_with fail
  refine (In_ref t.most 0 8 V).mono ?_
  rintro e w' ⟨rfl, rfl⟩
  cases hi_most : inB t.most 0 8
  · have HR : Hid (ckTm t = 1) := Lib.hid (ckT_one h3 (fun h => by rw [inB_iff.2 ⟨h.most.1, h.most.2⟩] at hi_most; cases hi_most))
    clear hi_most
    go_wp2
    go_ret
    exact ⟨ret_int HR.out.symm, hb1⟩
  have HI_most := Lib.hid (inB_iff.1 hi_most)
  clear hi_most
  go_wp2_with fail
  clear e1 e2 e3 e4
  refine wp_loop (fun a W => Rel (fun a W => ∃ k : Nat, k ≤ t.rates.length ∧ Below w.heap.size w W ∧ Blk W w.heap.size 55 #[.slice Ar t.rates.length cr, .slice Ah t.hours.length ch, .int .i64 t.limit, .int .i64 t.most] ∧ Hid (∀ j, j < k → 0 ≤ (gR t.rates j).lo ∧ (gR t.rates j).lo ≤ (gR t.rates j).hi ∧ (gR t.rates j).hi ≤ 100 ∧ 0 ≤ gI t.hours j ∧ gI t.hours j ≤ 8) ∧ ∃ u : Nat → Value, a = ⟨List.toArray (u 0 :: .pointer (some ⟨w.heap.size, 0, none⟩) :: u 2 :: .int .i64 (k : Int) :: u 4 :: u 5 :: u 6 :: u 7 :: u 8 :: u 9 :: u 10 :: u 11 :: u 12 :: u 13 :: u 14 :: u 15 :: u 16 :: u 17 :: u 18 :: u 19 :: u 20 :: u 21 :: u 22 :: u 23 :: u 24 :: u 25 :: u 26 :: u 27 :: u 28 :: u 29 :: u 30 :: u 31 :: u 32 :: u 33 :: u 34 :: u 35 :: u 36 :: u 37 :: u 38 :: u 39 :: u 40 :: u 41 :: u 42 :: u 43 :: u 44 :: u 45 :: u 46 :: u 47 :: u 48 :: u 49 :: u 50 :: u 51 :: u 52 :: u 53 :: u 54 :: u 55 :: []), []⟩) a W) (fun a _ => t.rates.length - (intOf (a.tmps.getD 3 undef)).toNat) ⟨⟨0, by omega, hb1, q0, Lib.hid (fun j hj => by omega), exFrame (by kernel_rfl)⟩⟩ ?_
  clear hb1 q0 a0 a1 a2 a3 l0 V
  rintro a W ⟨⟨k, hk, hbl, q0, HG, u, rfl⟩⟩
  have a0 : W.cell? ⟨w.heap.size, 0, none⟩ = some (.slice Ar t.rates.length cr) := q0.cell 0
  have a1 : W.cell? ⟨w.heap.size, 1, none⟩ = some (.slice Ah t.hours.length ch) := q0.cell 1
  have a2 : W.cell? ⟨w.heap.size, 2, none⟩ = some (.int .i64 t.limit) := q0.cell 2
  have a3 : W.cell? ⟨w.heap.size, 3, none⟩ = some (.int .i64 t.most) := q0.cell 3
  have l0 := q0.lt
  by_cases hlt : k < t.rates.length
  · have hkn : (k : Int) < (t.rates.length : Int) := by omega
    have hkh : (k : Int) < (t.hours.length : Int) := by have := HL.out; omega
    obtain ⟨br, or, rfl, hbr, r0, r1⟩ := IsRgs.at_ (htr.below hbl) hlt
    obtain ⟨bh, oh, rfl, hbh, g0⟩ := IsInts.at_ (hth.below hbl) (show k < t.hours.length by rw [HL.out]; exact hlt)
    have lbr : br < W.heap.size := by have := hbl.size; omega
    have lbh : bh < W.heap.size := by have := hbl.size; omega
    obtain ⟨e0, he0⟩ : ∃ x, (gR t.rates k).lo = x := ⟨_, rfl⟩
    obtain ⟨e1, he1⟩ : ∃ x, (gR t.rates k).hi = x := ⟨_, rfl⟩
    obtain ⟨e2, he2⟩ : ∃ x, gI t.hours k = x := ⟨_, rfl⟩
    rw [he0] at r0
    rw [he1] at r1
    rw [he2] at g0
    have HE := Lib.hid (And.intro he0 (And.intro he1 he2))
    clear he0 he1 he2
    go_wp2_with fail
    refine (span_ref e0 e1 100 W).mono ?_
    rintro e W2 ⟨rfl, h2⟩
    have hb2 := ex_trans hbl h2
    have q02 := q0.below h2 l0
    have g02 : W2.cell? ⟨bh, oh + k, none⟩ = some (.int .i64 e2) := (h2.cell (p := ⟨bh, oh + k, none⟩) lbh).trans g0
    have lbh2 : bh < W2.heap.size := Nat.lt_of_lt_of_le lbh h2.size
    clear a0 a1 a2 a3 l0 r0 r1 g0
    have a0 : W2.cell? ⟨w.heap.size, 0, none⟩ = some (.slice (some ⟨br, or, none⟩) t.rates.length cr) := q02.cell 0
    have a1 : W2.cell? ⟨w.heap.size, 1, none⟩ = some (.slice (some ⟨bh, oh, none⟩) t.hours.length ch) := q02.cell 1
    have a2 : W2.cell? ⟨w.heap.size, 2, none⟩ = some (.int .i64 t.limit) := q02.cell 2
    have a3 : W2.cell? ⟨w.heap.size, 3, none⟩ = some (.int .i64 t.most) := q02.cell 3
    have l0 := q02.lt
    cases hs : toB e0 e1 100
    · have HR : Hid (ckTm t = 1) := Lib.hid (ckT_one h3 (fun h => by have := h.rate k hlt; rw [HE.out.1, HE.out.2.1] at this; unfold toB at hs; simp only [Bool.and_eq_false_iff, decide_eq_false_iff_not] at hs; omega))
      clear hs
      go_wp2
      go_ret
      exact ⟨ret_int HR.out.symm, hb2⟩
    have HS : Hid (0 ≤ e0 ∧ e0 ≤ e1 ∧ e1 ≤ 100) := Lib.hid (by unfold toB at hs; simp only [Bool.and_eq_true, decide_eq_true_eq] at hs; omega)
    clear hs
    go_wp2_with fail
    refine (In_ref e2 0 8 W2).mono ?_
    rintro e w' ⟨rfl, rfl⟩
    cases hs : inB e2 0 8
    · have HR : Hid (ckTm t = 1) := Lib.hid (ckT_one h3 (fun h => by have := h.hour k hlt; rw [HE.out.2.2] at this; rw [inB_iff.2 this] at hs; cases hs))
      clear hs
      go_wp2
      go_ret
      exact ⟨ret_int HR.out.symm, hb2⟩
    have HG2 : Hid (∀ j, j < k + 1 → 0 ≤ (gR t.rates j).lo ∧ (gR t.rates j).lo ≤ (gR t.rates j).hi ∧ (gR t.rates j).hi ≤ 100 ∧ 0 ≤ gI t.hours j ∧ gI t.hours j ≤ 8) := Lib.hid (fun j hj => by
      rcases Nat.lt_succ_iff_lt_or_eq.1 hj with h | h
      · exact HG.out j h
      · subst h; rw [HE.out.1, HE.out.2.1, HE.out.2.2]; have h1 := HS.out; have h2 := inB_iff.1 hs; omega)
    clear hs
    go_wp2_with fail
    refine ⟨⟨⟨k + 1, by omega, hb2, q02, HG2, exFrame (by kernel_rfl)⟩⟩, ?_⟩
    show t.rates.length - (intOf (.int .i64 ((k : Int) + 1))).toNat < t.rates.length - (intOf (.int .i64 (k : Int))).toNat
    simp [intOf]
    omega
  · have HR : Hid (ckTm t = 0) := Lib.hid (ckTm_iff.2 ⟨⟨by omega, by omega, HL.out⟩, fun i hi => by have := HG.out i (by omega); omega, fun i hi => by have := HG.out i (by omega); omega, HI_limit.out, HI_most.out⟩)
    have hkn : ¬ (k : Int) < (t.rates.length : Int) := by omega
    go_wp2
    go_ret
    exact ⟨ret_int HR.out.symm, hbl⟩
end Go.Proofs.Ythihdiilokdidaa
end

section
namespace Go.Proofs.Ythihdiilokdidaa
open Go.RowKit
attribute [local go_sem] Ex.cell? Ex.frozen?

/-- a right roster is one that does all hours. -/
def sufV (t : Tm) (L : List (List Int)) (m : Nat) : Nat → V3
  | 0 => hoursV t
  | k + 1 => (sufV t L m k).sub (layV (gL L k) t.rates.length)
theorem sufV_get (t : Tm) (L : List (List Int)) (m i : Nat) : ∀ k, (sufV t L m k).get i = (hoursV t).get i - (doneV t L k).get i
  | 0 => by show (hoursV t).get i = (hoursV t).get i - z3.get i; rw [z3_get]; omega
  | k + 1 => by rw [sufV, V3.sub_get, sufV_get t L m i k, doneV_get]; omega
theorem does_back {t : Tm} {L : List (List Int)} {m : Nat} (hp : ∀ k, k < m → Part t (layV (gL L k) t.rates.length) (sufV t L m k)) (hz : sufV t L m m = z3) : ∀ j, j ≤ m → Does t j (sufV t L m (m - j))
  | 0, _ => by rw [Nat.sub_zero, hz]; exact rfl
  | j + 1, hj => by
    have h := does_back hp hz j (by omega)
    refine ⟨layV (gL L (m - (j + 1))) t.rates.length, hp _ (by omega), ?_⟩
    rw [show m - j = m - (j + 1) + 1 by omega] at h
    exact h
structure RightR (t : Tm) (L : List (List Int)) (many : Int) : Prop where
  ok : TmOk t
  le : (L.length : Int) ≤ many
  six : L.length ≤ 6
  row : ∀ k, k < L.length → rowR t (gL L k) = true
  sum : ∀ i, i < t.rates.length → (doneV t L L.length).get i = gI t.hours i
theorem proveR_iff {t : Tm} {L : List (List Int)} {many : Int} : proveR t L many = true ↔ RightR t L many := by
  unfold proveR
  simp only [Bool.and_eq_true, decide_eq_true_eq, allTo_iff]
  constructor
  · rintro ⟨h1, h2, h3, h4, _, h5⟩
    exact ⟨ckTm_iff.1 h1, h2, h3, h4, h5⟩
  · rintro ⟨h1, h2, h3, h4, h5⟩
    exact ⟨ckTm_iff.2 h1, h2, h3, h4, h1.len.2.2.symm, h5⟩
theorem row_bd {t : Tm} {l : List Int} (h : rowR t l = true) : l.length = t.rates.length ∧ (∀ i, i < t.rates.length → 0 ≤ gI l i ∧ gI l i ≤ t.most) ∧ mayB t (layV l t.rates.length) = true := by
  unfold rowR at h
  simp only [Bool.and_eq_true, decide_eq_true_eq, allTo_iff] at h
  obtain ⟨h1, h2, h3⟩ := h
  exact ⟨h1, fun i hi => inB_iff.1 (h2 i (by omega)), h3⟩
theorem lay_ge {t : Tm} {l : List Int} (h : rowR t l = true) (i : Nat) : 0 ≤ (layV l t.rates.length).get i := by
  by_cases hi : i < 3
  · rw [layV_get _ _ hi]
    split
    · rename_i hn; exact ((row_bd h).2.1 i hn).1
    · omega
  · rw [V3.get_far _ (by omega)]; omega
theorem done_le {t : Tm} {L : List (List Int)} (h : ∀ k, k < L.length → rowR t (gL L k) = true) (i : Nat) : ∀ {j k : Nat}, j ≤ k → k ≤ L.length → (doneV t L j).get i ≤ (doneV t L k).get i
  | j, 0, h1, _ => by obtain rfl : j = 0 := by omega
                      exact Int.le_refl _
  | j, k + 1, h1, h2 => by
    rcases Nat.lt_or_ge j (k + 1) with h3 | h3
    · have := done_le h i (j := j) (k := k) (by omega) (by omega)
      rw [doneV_get]
      have := lay_ge (h k (by omega)) i
      omega
    · obtain rfl : j = k + 1 := by omega
      exact Int.le_refl _
theorem right_does {t : Tm} {L : List (List Int)} {many : Int} (h : RightR t L many) : Does t L.length (hoursV t) := by
  have hz : sufV t L L.length L.length = z3 := V3.ext' fun i hi => by
    rw [sufV_get, z3_get]
    by_cases hn : i < t.rates.length
    · have := h.sum i hn
      unfold hoursV
      rw [layV_get _ _ hi, if_pos hn]
      omega
    · have h0 : (hoursV t).get i = 0 := (hoursV_ok h.ok).far i (by omega)
      have hd : ∀ k, (doneV t L k).get i = 0 := fun k => by
        induction k with
        | zero => exact z3_get i
        | succ k ih => rw [doneV_get, ih, layV_get _ _ hi, if_neg hn]; rfl
      rw [h0, hd]; rfl
  have := does_back (t := t) (L := L) (m := L.length) (fun k hk => ⟨fun i hi => ⟨lay_ge (h.row k hk) i, ?_⟩, (row_bd (h.row k hk)).2.2⟩) hz L.length (Nat.le_refl _)
  · rw [Nat.sub_self] at this; exact this
  · have h1 := done_le h.row i (j := k + 1) (k := L.length) (by omega) (Nat.le_refl _)
    have h2 := sufV_get t L L.length i L.length
    rw [hz, z3_get] at h2
    rw [sufV_get]
    rw [doneV_get] at h1
    omega
/-- one that may do with less. -/
def minV (d l : V3) : V3 := ⟨min d.a l.a, min d.b l.b, min d.c l.c⟩
theorem minV_get (d l : V3) (i : Nat) : (minV d l).get i = min (d.get i) (l.get i) := by
  match i with
  | 0 => rfl
  | 1 => rfl
  | 2 => rfl
  | _ + 3 => simp [V3.get]
theorem does_mono {t x : Tm} (ht : TmOk t) (hm : ∀ d : V3, (∀ i, 0 ≤ d.get i) → mayB t d = true → mayB x d = true) : ∀ {m : Nat} {l l' : V3}, (∀ i, i < 3 → 0 ≤ l'.get i ∧ l'.get i ≤ l.get i) → Does t m l → Does x m l'
  | 0, l, l', h, hd => V3.ext' fun i hi => by
    have := h i hi
    rw [show l = z3 from hd, z3_get] at this
    rw [z3_get]; omega
  | m + 1, l, l', h, ⟨d, hp, hd⟩ => by
    have hall : ∀ i, 0 ≤ (minV d l').get i ∧ (minV d l').get i ≤ d.get i := fun i => by
      rw [minV_get]
      by_cases hi : i < 3
      · have := h i hi; have := hp.bd i hi; omega
      · rw [V3.get_far _ (show 3 ≤ i by omega), V3.get_far _ (show 3 ≤ i by omega)]; simp
    refine ⟨minV d l', ⟨fun i hi => ⟨(hall i).1, by rw [minV_get]; omega⟩, hm _ (fun i => (hall i).1) (mayB_mono ht (fun i => (hall i).2) hp.may)⟩, ?_⟩
    refine does_mono ht hm (fun i hi => ?_) hd
    rw [V3.sub_get, V3.sub_get, minV_get]
    have := h i hi
    have := hp.bd i hi
    omega
theorem few_less {t x : Tm} (ht : TmOk t) (hm : ∀ d : V3, (∀ i, 0 ≤ d.get i) → mayB t d = true → mayB x d = true) (hl : ∀ i, i < 3 → 0 ≤ (hoursV x).get i ∧ (hoursV x).get i ≤ (hoursV t).get i) (hf : fewT t ≤ 6) : fewT x ≤ fewT t := by
  rcases fewT_is t with ⟨_, hd, _⟩ | ⟨h7, _⟩
  · rcases (fewT_is x).le (does_mono ht hm hl hd) with h | h <;> omega
  · omega
/-- what the law changes. -/
theorem gR_set {l : List Rg} {k : Nat} (hk : k < l.length) (a : Rg) (j : Nat) : gR (l.set k a) j = if j = k then a else gR l j := by
  unfold gR
  rw [List.getD_eq_getElem?_getD, List.getD_eq_getElem?_getD, List.getElem?_set]
  by_cases h : k = j
  · subst h; rw [if_pos rfl, if_pos hk, if_pos rfl]; rfl
  · rw [if_neg h, if_neg (fun e => h e.symm)]
theorem gI_set {l : List Int} {k : Nat} (hk : k < l.length) (a : Int) (j : Nat) : gI (l.set k a) j = if j = k then a else gI l j := by
  unfold gI
  rw [List.getD_eq_getElem?_getD, List.getD_eq_getElem?_getD, List.getElem?_set]
  by_cases h : k = j
  · subst h; rw [if_pos rfl, if_pos hk, if_pos rfl]; rfl
  · rw [if_neg h, if_neg (fun e => h e.symm)]
def tLim (t : Tm) (by_ : Int) : Tm := ⟨t.rates, t.hours, min 1000 (t.limit + by_), t.most⟩
def tMost (t : Tm) : Tm := ⟨t.rates, t.hours, t.limit, min 8 (t.most + 1)⟩
def tHour (t : Tm) (k : Nat) : Tm := ⟨t.rates, t.hours.set k (max 0 (gI t.hours k - 1)), t.limit, t.most⟩
def tRate (t : Tm) (k : Nat) (q : Int) : Tm := ⟨t.rates.set k ⟨(gR t.rates k).lo, max (gR t.rates k).lo ((gR t.rates k).hi - q)⟩, t.hours, t.limit, t.most⟩
theorem same_hours {t x : Tm} (ht : TmOk t) (h : hoursV x = hoursV t) : ∀ i, i < 3 → 0 ≤ (hoursV x).get i ∧ (hoursV x).get i ≤ (hoursV t).get i := fun i hi => by
  rw [h]; have := (hoursV_ok ht).bd i hi; omega
/-- with these a team is as it may be, and needs no more. -/
structure Easier (t x : Tm) : Prop where
  ok : TmOk x
  few : fewT t ≤ 6 → fewT x ≤ fewT t
theorem easy_lim {t : Tm} (ht : TmOk t) {b : Int} (hb : 0 ≤ b) : Easier t (tLim t b) := by
  have h1 := ht.limit
  have h2 : 0 ≤ (tLim t b).limit ∧ (tLim t b).limit ≤ 1000 ∧ t.limit ≤ (tLim t b).limit := by show 0 ≤ min 1000 (t.limit + b) ∧ min 1000 (t.limit + b) ≤ 1000 ∧ t.limit ≤ min 1000 (t.limit + b); omega
  refine ⟨⟨ht.len, ht.rate, ht.hour, ⟨h2.1, h2.2.1⟩, ht.most⟩, few_less ht (fun d _ h => ?_) (same_hours ht rfl)⟩
  unfold mayB at h ⊢
  simp only [Bool.and_eq_true, decide_eq_true_eq] at h ⊢
  have e1 : brTo (tLim t b) d (tLim t b).rates.length = brTo t d t.rates.length := rfl
  have e2 : hrsTo d (tLim t b).rates.length = hrsTo d t.rates.length := rfl
  have e3 : (tLim t b).most = t.most := rfl
  rw [e1, e2, e3]
  omega
theorem easy_most {t : Tm} (ht : TmOk t) : Easier t (tMost t) := by
  have h1 := ht.most
  have h2 : 0 ≤ (tMost t).most ∧ (tMost t).most ≤ 8 ∧ t.most ≤ (tMost t).most := by show 0 ≤ min 8 (t.most + 1) ∧ min 8 (t.most + 1) ≤ 8 ∧ t.most ≤ min 8 (t.most + 1); omega
  refine ⟨⟨ht.len, ht.rate, ht.hour, ht.limit, ⟨h2.1, h2.2.1⟩⟩, few_less ht (fun d _ h => ?_) (same_hours ht rfl)⟩
  unfold mayB at h ⊢
  simp only [Bool.and_eq_true, decide_eq_true_eq] at h ⊢
  have e1 : brTo (tMost t) d (tMost t).rates.length = brTo t d t.rates.length := rfl
  have e2 : hrsTo d (tMost t).rates.length = hrsTo d t.rates.length := rfl
  have e3 : (tMost t).limit = t.limit := rfl
  rw [e1, e2, e3]
  omega
theorem easy_hour {t : Tm} (ht : TmOk t) {k : Nat} (hk : k < t.rates.length) : Easier t (tHour t k) := by
  have hl : (tHour t k).hours.length = t.hours.length := by simp [tHour]
  have hkh : k < t.hours.length := by rw [ht.len.2.2]; exact hk
  have hg : ∀ i, i < t.rates.length → 0 ≤ gI (tHour t k).hours i ∧ gI (tHour t k).hours i ≤ gI t.hours i := fun i hi => by
    have := ht.hour i hi
    show 0 ≤ gI (t.hours.set k _) i ∧ gI (t.hours.set k _) i ≤ _
    rw [gI_set hkh]
    split
    · rename_i e; subst e; omega
    · omega
  refine ⟨⟨⟨ht.len.1, ht.len.2.1, by rw [hl]; exact ht.len.2.2⟩, ht.rate, fun i hi => ?_, ht.limit, ht.most⟩, few_less ht (fun d _ h => h) (fun i hi => ?_)⟩
  · have := hg i hi; have := ht.hour i hi; omega
  · unfold hoursV
    rw [layV_get _ _ hi, layV_get _ _ hi]
    show 0 ≤ (if i < t.rates.length then _ else _) ∧ (if i < t.rates.length then _ else _) ≤ _
    by_cases h : i < t.rates.length
    · rw [if_pos h, if_pos h]; exact hg i h
    · rw [if_neg h, if_neg h]; omega
theorem easy_rate {t : Tm} (ht : TmOk t) {k : Nat} (hk : k < t.rates.length) {q : Int} (hq : 0 ≤ q) : Easier t (tRate t k q) := by
  have hl : (tRate t k q).rates.length = t.rates.length := by simp [tRate]
  have hg : ∀ i, i < t.rates.length → 0 ≤ (gR (tRate t k q).rates i).lo ∧ (gR (tRate t k q).rates i).lo ≤ (gR (tRate t k q).rates i).hi ∧ (gR (tRate t k q).rates i).hi ≤ (gR t.rates i).hi := fun i hi => by
    have := ht.rate i hi
    show 0 ≤ (gR (t.rates.set k _) i).lo ∧ _ ≤ _ ∧ _ ≤ _
    have e : gR (tRate t k q).rates i = if i = k then ⟨(gR t.rates k).lo, max (gR t.rates k).lo ((gR t.rates k).hi - q)⟩ else gR t.rates i := gR_set hk _ i
    change gR (t.rates.set k _) i = _ at e
    rw [e]
    show 0 ≤ (if i = k then _ else _ : Rg).lo ∧ (gR (t.rates.set k _) i).lo ≤ (gR (t.rates.set k _) i).hi ∧ (gR (t.rates.set k _) i).hi ≤ _
    rw [e]
    by_cases h : i = k
    · subst h; rw [if_pos rfl]; simp only; omega
    · rw [if_neg h]; omega
  have hh : hoursV (tRate t k q) = hoursV t := by unfold hoursV; rw [hl]; rfl
  refine ⟨⟨⟨by rw [hl]; exact ht.len.1, by rw [hl]; exact ht.len.2.1, by rw [hl]; exact ht.len.2.2⟩, fun i hi => ?_, fun i hi => ht.hour i (by rw [hl] at hi; exact hi), ht.limit, ht.most⟩, few_less ht (fun d hd h => ?_) (same_hours ht hh)⟩
  · rw [hl] at hi
    have := hg i hi; have := ht.rate i hi; omega
  · unfold mayB at h ⊢
    simp only [Bool.and_eq_true, decide_eq_true_eq] at h ⊢
    rw [hl]
    have hb : brTo (tRate t k q) d t.rates.length ≤ brTo t d t.rates.length := esum_le (fun i hi => by
      have hi : i < t.rates.length := by simpa using hi
      exact Int.mul_le_mul_of_nonneg_left (hg i hi).2.2 (hd i))
    have e3 : (tRate t k q).limit = t.limit := rfl
    have e4 : (tRate t k q).most = t.most := rfl
    rw [e3, e4]
    omega
/-- what Roster tells, and what its rows breathe. -/
theorem chain_part {t : Tm} {Ls : List V3} (ht : TmOk t) (h : Chain t Ls (hoursV t) z3) {k : Nat} (hk : k < Ls.length) : (∀ i, 0 ≤ (Ls.getD k z3).get i ∧ (Ls.getD k z3).get i ≤ 8) ∧ brTo t (Ls.getD k z3) t.rates.length ≤ t.limit := by
  obtain ⟨_, hp, _⟩ := chain_at h (hoursV_ok ht)
  obtain ⟨u, hu, hpu⟩ := hp k hk
  refine ⟨fun i => ?_, ?_⟩
  · by_cases hi : i < 3
    · have := hpu.bd i hi; have := hu.bd i hi; omega
    · rw [V3.get_far _ (show 3 ≤ i by omega)]; omega
  · have := hpu.may
    unfold mayB at this
    simp only [Bool.and_eq_true, decide_eq_true_eq] at this
    exact this.2
/-- no right roster has fewer. -/
theorem no_fewer {t : Tm} {L : List (List Int)} : proveR t L ((fewT t : Int) - 1) = false := by
  cases h : proveR t L ((fewT t : Int) - 1)
  · rfl
  · have hr := proveR_iff.1 h
    have h1 := hr.le
    have h2 := hr.six
    rcases (fewT_is t).le (right_does hr) with h3 | h3 <;> omega
theorem no_roster {t : Tm} (h7 : ¬ fewT t ≤ 6) {L : List (List Int)} {many : Int} : proveR t L many = false := by
  cases h : proveR t L many
  · rfl
  · have hr := proveR_iff.1 h
    have h2 := hr.six
    rcases (fewT_is t).le (right_does hr) with h3 | h3 <;> omega
theorem no_minus {t : Tm} {L : List (List Int)} : proveR t L (-1) = false := by
  cases h : proveR t L (-1)
  · rfl
  · have := (proveR_iff.1 h).le; omega
theorem roE_ok {x : Tm} (h : TmOk x) (h6 : fewT x ≤ 6) : roE x = 0 := by unfold roE; rw [if_pos (ckTm_iff.2 h), if_pos h6]
theorem roE_of {t : Tm} (h : TmOk t) : (fewT t ≤ 6 ∧ roE t = 0) ∨ (¬ fewT t ≤ 6 ∧ roE t = 10) := by
  unfold roE
  rw [if_pos (ckTm_iff.2 h)]
  by_cases h6 : fewT t ≤ 6
  · rw [if_pos h6]; exact .inl ⟨h6, rfl⟩
  · rw [if_neg h6]; exact .inr ⟨h6, rfl⟩
end Go.Proofs.Ythihdiilokdidaa
end

section
namespace Go.Proofs.Ythihdiilokdidaa
open Go.RowKit
attribute [local go_sem] Ex.cell? Ex.frozen? Gx.cell?

set_option maxHeartbeats 800000 in
theorem word_any (A : Option Addr) (c : Nat) (l : List Int) (at_ : Int) (w : World) (hA : SlAt w w.heap.size 1 A l.length (fU l)) (hw : ∀ k, k < l.length → 0 ≤ gI l k ∧ gI l k ≤ 65535) (h0 : 0 ≤ at_) (h1 : at_ ≤ 1000) (hl : l.length ≤ maxLen) :
    Calls Try.prog 36 #[.slice A l.length c, .int .i64 at_] w fun e w' => (∃ n : Int, e = .returned (.int .i64 n) ∧ 0 ≤ n ∧ n ≤ 65535) ∧ Below w.heap.size w w' := by
  unfold maxLen at hl
  by_cases h : l.length = 0
  · have HL := Lib.hid h
    clear h
    go_enter Try.func36, Try.ntmps36
    rw [HL.out]
    go_wp2
    go_ret
    exact ⟨⟨0, rfl, by omega, by omega⟩, Below.refl _ _⟩
  · have hk : (at_ % (l.length : Int)).toNat < l.length := by
      have := Int.emod_lt_of_pos at_ (show (0 : Int) < (l.length : Int) by omega)
      have := Int.emod_nonneg at_ (show (l.length : Int) ≠ 0 by omega)
      omega
    have hr0 := Int.emod_nonneg at_ (show (l.length : Int) ≠ 0 by omega)
    have hr1 := Int.emod_lt_of_pos at_ (show (0 : Int) < (l.length : Int) by omega)
    obtain ⟨m, hm⟩ : ∃ m : Nat, at_ % (l.length : Int) = (m : Int) := ⟨(at_ % (l.length : Int)).toNat, by omega⟩
    have hmk : m < l.length := by omega
    obtain ⟨b, off, rfl, hb, hc⟩ := IsWords.at_ hA hmk
    have hv := hw _ hmk
    have e0 : ((l.length : Int) == 0) = false := by simpa using h
    have e0' : (l.length == 0) = false := by simpa using h
    have h1l : (1 : Int) ≤ (l.length : Int) := by omega
    have e2 : IntKind.i64.wrap (gI l m) = gI l m := IntWalk.i64_in _ (by omega)
    clear hk hr0 hr1
    go_enter Try.func36, Try.ntmps36
    go_wp2
    go_ret
    exact ⟨⟨_, rfl, hv.1, hv.2⟩, Below.refl _ _⟩


set_option maxHeartbeats 800000 in
theorem picked_any (lo hi n : Int) (w : World) (h0 : 0 ≤ n) (h1 : n ≤ 65535) (hl : -100000 ≤ lo) (hlh : lo ≤ hi) (hh : hi ≤ 100000) :
    Calls Try.prog 35 #[.agg #[.int .i64 lo, .int .i64 hi], .int .i64 n] w fun e w' => (∃ x : Int, e = .returned (.int .i64 x) ∧ lo ≤ x ∧ x ≤ hi) ∧ Below w.heap.size w w' := by
  have hb := ex_alloc (Below.refl w.heap.size w) (.cells #[.int .i64 lo, .int .i64 hi] 52)
  by_cases c0 : n % 4 = 0
  · have e0 : (n % 4 == 0) = true := by simp [c0]
    go_enter Try.func35, Try.ntmps35
    go_wp2
    go_ret
    exact ⟨⟨lo, rfl, by omega, by omega⟩, hb⟩
  have e0 : (n % 4 == 0) = false := by simp [c0]
  by_cases c1 : n % 4 = 1
  · have e1 : (n % 4 == 1) = true := by simp [c1]
    go_enter Try.func35, Try.ntmps35
    go_wp2
    go_ret
    exact ⟨⟨hi, rfl, by omega, by omega⟩, hb⟩
  have e1 : (n % 4 == 1) = false := by simp [c1]
  clear c0 c1
  go_enter Try.func35, Try.ntmps35
  go_wp2
  have k0 : (hi - lo + 1 == 0) = false := by rw [beq_eq_false_iff_ne]; omega
  have k1 : IntKind.i64.wrap (hi - lo) = hi - lo := IntWalk.i64_in _ (by omega)
  have k2 : IntKind.i64.wrap (hi - lo + 1) = hi - lo + 1 := IntWalk.i64_in _ (by omega)
  have k3 : IntKind.i64.wrap (n.tdiv 4) = n / 4 := by rw [Int.tdiv_eq_ediv_of_nonneg h0]; exact IntWalk.i64_in _ (by omega)
  have r0 : 0 ≤ (n / 4) % (hi - lo + 1) := Int.emod_nonneg _ (by omega)
  have r1 : (n / 4) % (hi - lo + 1) < hi - lo + 1 := Int.emod_lt_of_pos _ (by omega)
  have k4 : IntKind.i64.wrap ((n / 4).tmod (hi - lo + 1)) = (n / 4) % (hi - lo + 1) := by rw [Int.tmod_eq_emod_of_nonneg (by omega)]; exact IntWalk.i64_in _ (by omega)
  have k5 : IntKind.i64.wrap (lo + (n / 4) % (hi - lo + 1)) = lo + (n / 4) % (hi - lo + 1) := IntWalk.i64_in _ (by omega)
  refine wp_region_ext (by kernel_rfl) (by kernel_rfl) ?_
  repeat (any_goals (go_big_quiet_step (fail)))
  refine wpQuiet_nil ?_; intro _ hw'; obtain ⟨X, rfl⟩ := hw'
  go_wp2
  go_ret
  exact ⟨⟨_, rfl, by omega, by omega⟩, ex_trans hb X.h⟩

end Go.Proofs.Ythihdiilokdidaa
end

section
namespace Go.Proofs.Ythihdiilokdidaa
open Go.RowKit
attribute [local go_sem] Ex.cell? Ex.frozen?

theorem NOwn.base {α : Type} {T1 T2 : TypeId} {s1 s2 : Nat} {c : α → List Value} {A : α → Option Addr} {n : α → Nat} {f : α → Nat → Nat → Value} {W : World} {B B' : Nat} {v : Value} {X : List α} (h : NOwn T1 s1 T2 s2 c A n f W B v X) (hB : B' ≤ B) : NOwn T1 s1 T2 s2 c A n f W B' v X := ⟨own_base h.own hB, fun x hx => (h.ins x hx).base hB⟩
end Go.Proofs.Ythihdiilokdidaa
end

section
namespace Go.Proofs.Ythihdiilokdidaa
open Go.RowKit
attribute [local go_sem] Ex.cell? Ex.frozen? Gx.cell?

theorem own_grow {W W' : World} {base : Nat} {e : TypeId} {sz n : Nat} {v : Value} {xs : List Value} {row : Option Nat} (h : W.ownsRow base e sz v n xs) (hg : W.grownBy W' row) (hn : ∀ b, v.ownBlock = some b → row ≠ some b) : W'.ownsRow base e sz v n xs :=
  own_fr h (Fr.grown (R := fun b => row = some b) hg (fun b e => .inl e)) (fun b hb => hn b hb)
theorem RowAt.grownNe {W W' : World} {B sz n : Nat} {T : TypeId} {A : Option Addr} {f : Nat → Nat → Value} {row : Option Nat} (h : RowAt W B T sz A n f) (hg : W.grownBy W' row) (hn : ∀ g, A = some ⟨g, 0, none⟩ → n ≠ 0 → some g ≠ row) : RowAt W' B T sz A n f := by
  by_cases h0 : n = 0
  · exact .inl h0
  rcases h with h | ⟨g, cur, e, h1, h2, h3⟩
  · exact .inl h
  · exact .inr ⟨g, cur, e, h1, h2.grown hg (hn g e h0), h3⟩
/-- no row of these lies in the block of another. -/
def Apart (X : List IRow) (v : Value) : Prop := ∀ x ∈ X, ∀ g, x.1 = some ⟨g, 0, none⟩ → x.2.2.length ≠ 0 → v.ownBlock ≠ some g
theorem IOwn.grownA {W W' : World} {B B1 n : Nat} {v v1 : Value} {X : List IRow} {xs : List Value} (h : IOwn W B v X) (hg : W.grownBy W' v1.ownBlock) (o1 : W.ownsRow B1 3 1 v1 n xs) (ap : Apart X v1) : IOwn W' B v X :=
  ⟨own_grow h.own hg (fun b hb => own_ownne h.own o1 (by decide) hb), fun x hx => (h.ins x hx).grownNe hg (fun g e hn e2 => ap x hx g e hn e2.symm)⟩
theorem Apart.next {W : World} {B : Nat} {v v1 v1' : Value} {X : List IRow} {gg : Nat} (h : Apart X v1) (hN : IOwn W B v X) (he : v1'.ownBlock = some gg) (hat : v1.ownBlock = some gg ∨ W.heap.size ≤ gg) : Apart X v1' := fun x hx g e hn e2 => by
  rw [he] at e2
  injection e2 with e2
  subst e2
  rcases hat with h1 | h1
  · exact h x hx _ e hn h1
  · rcases hN.ins x hx with h3 | ⟨g, cur, e3, _, k2, _⟩
    · exact hn h3
    · rw [e] at e3
      injection e3 with e3
      injection e3 with e3
      have := k2.lt
      omega
theorem Apart.push {X : List IRow} {v : Value} {x : IRow} {B : Nat} (h : Apart X v) (hx : ∀ g, x.1 = some ⟨g, 0, none⟩ → x.2.2.length ≠ 0 → B ≤ g) (hv : ∀ b, v.ownBlock = some b → b < B) : Apart (X ++ [x]) v := fun y hy g e hn e2 => by
  rcases List.mem_append.1 hy with h1 | h1
  · exact h y h1 g e hn e2
  · obtain rfl := List.mem_singleton.1 h1
    have := hx g e hn
    have := hv g e2
    omega
/-- a room's first and vapours. -/
structure PickOk (s : Ws) (n : Int) (l : List Int) (j : Nat) : Prop where
  fst : inR n (gRm s.rooms j).fst
  len : l.length = s.wo.days
  vap : ∀ d, d < s.wo.days → inR (gI l d) (gRm s.rooms j).vap
structure PickTo (s : Ws) (l1 : List Int) (L : List (List Int)) (k : Nat) : Prop where
  n1 : l1.length = k
  n2 : L.length = k
  ok : ∀ j, j < k → PickOk s (gI l1 j) (gL L j) j
theorem PickTo.snoc {s : Ws} {l1 : List Int} {L : List (List Int)} {k : Nat} (h : PickTo s l1 L k) {n : Int} {l : List Int} (hn : PickOk s n l k) : PickTo s (l1 ++ [n]) (L ++ [l]) (k + 1) where
  n1 := by simp [h.n1]
  n2 := by simp [h.n2]
  ok := fun j hj => by
    rcases Nat.lt_succ_iff_lt_or_eq.1 hj with hlt | rfl
    · have e1 : gI (l1 ++ [n]) j = gI l1 j := getD_l _ (by rw [h.n1]; exact hlt)
      have e2 : gL (L ++ [l]) j = gL L j := getD_l _ (by rw [h.n2]; exact hlt)
      rw [e1, e2]; exact h.ok j hlt
    · have e1 : gI (l1 ++ [n]) j = n := by rw [← h.n1]; exact getD_r _ _ _
      have e2 : gL (L ++ [l]) j = l := by rw [← h.n2]; exact getD_r _ _ _
      rw [e1, e2]; exact hn
theorem PickTo.tru {s : Ws} {t : Tt} (hd : s.days = (s.wo.days : Int)) (h : PickTo s t.fs t.vs s.rooms.length) (hg : t.gs.length = s.moves.length) (hm : ∀ i, i < s.moves.length → inR (gI t.gs i) (gMv s.moves i).g) : truT s t = true :=
  (truT_iff hd).2 ⟨⟨h.n1, h.n2, hg⟩, fun r hr => (h.ok r hr).len, ⟨fun r hr => (h.ok r hr).fst, fun r d hr hd => (h.ok r hr).vap d hd, hm⟩⟩
/-- a truth of these. -/
structure TruP (s : Ws) (t : Tt) : Prop where
  pt : PickTo s t.fs t.vs s.rooms.length
  gl : t.gs.length = s.moves.length
  mv : ∀ i, i < s.moves.length → inR (gI t.gs i) (gMv s.moves i).g
theorem TruP.tru {s : Ws} {t : Tt} (h : TruP s t) (hd : s.days = (s.wo.days : Int)) : truT s t = true := PickTo.tru hd h.pt h.gl h.mv
/-- what lies in the midst of Picked. -/
structure PkA (s : Ws) (wc : Array Value) (w : World) (p0 B0 : Nat) (v1 : Value) (l1 : List Int) (v2 : Value) (X : List IRow) (W : World) : Prop where
  bw : Below w.heap.size w W
  sz : B0 ≤ W.heap.size
  q0 : Blk W p0 26 wc
  q1 : Blk W (p0 + 1) 31 #[.slice none 0 0, .slice none 0 0, .slice none 0 0]
  q2 : Blk W (p0 + 1 + 1) 31 #[v1, v2, .slice none 0 0]
  o1 : W.ownsRow B0 3 1 v1 l1.length (l1.flatMap cI1)
  o2 : IOwn W B0 v2 X
  ap : Apart X v1
/-- behind what only makes memory. -/
theorem PkA.below {s : Ws} {wc : Array Value} {w W W' : World} {p0 B0 : Nat} {v1 : Value} {l1 : List Int} {v2 : Value} {X : List IRow} (h : PkA s wc w p0 B0 v1 l1 v2 X W) (hb : Below W.heap.size W W') : PkA s wc w p0 B0 v1 l1 v2 X W' :=
  ⟨ex_trans h.bw hb, Nat.le_trans h.sz hb.size, h.q0.below hb h.q0.lt, h.q1.below hb h.q1.lt, h.q2.below hb h.q2.lt, own_below h.o1 hb, h.o2.below hb, h.ap⟩
/-- behind an append to the firsts. -/
theorem PkA.fst {s : Ws} {wc : Array Value} {w W W' : World} {p0 B0 : Nat} {v1 : Value} {l1 : List Int} {v2 : Value} {X : List IRow} (h : PkA s wc w p0 B0 v1 l1 v2 X W) (hB : p0 + 1 + 1 < B0) (hw : w.heap.size ≤ p0) (hg : W.grownBy W' v1.ownBlock) {gg cap : Nat} {x : Int} (ho : W'.ownsRow B0 3 1 (.slice (some ⟨gg, 0, none⟩) (l1.length + 1) cap) (l1.length + 1) (l1.flatMap cI1 ++ [.int .i64 x])) (hat : v1.ownBlock = some gg ∨ W.heap.size ≤ gg) :
    PkA s wc w p0 B0 (.slice (some ⟨gg, 0, none⟩) (l1.length + 1) cap) (l1 ++ [x]) v2 X (W'.setCell ⟨p0 + 1 + 1, 0, none⟩ (.slice (some ⟨gg, 0, none⟩) (l1.length + 1) cap)) := by
  have hge := fun (j : Nat) (hj : v1.ownBlock = some j) => own_ge h.o1 hj
  have hne : ∀ p, p < B0 → some p ≠ v1.ownBlock := fun p hp e => by have := hge p e.symm; omega
  have q2' := h.q2.grown hg (hne _ hB)
  have hs2 : B0 ≤ W'.heap.size := by have := hg.size; have := h.sz; omega
  have q2s := q2'.set_ 0 (.slice (some ⟨gg, 0, none⟩) (l1.length + 1) cap)
  simp only [List.setIfInBounds_toArray, List.set_cons_zero, List.set_cons_succ] at q2s
  refine ⟨ex_set (h.bw.grown hg h.bw.size (fun b hb => by have := hge b hb; omega)) (by show w.heap.size ≤ p0 + 1 + 1; omega) _, by simpa using hs2, (h.q0.grown hg (hne _ (by omega))).far (by show p0 ≠ p0 + 1 + 1; omega) _, (h.q1.grown hg (hne _ (by omega))).far (by show p0 + 1 ≠ p0 + 1 + 1; omega) _, q2s, ?_, ?_, h.ap.next h.o2 rfl hat⟩
  · exact own_far (own_push (f := cI1) (x := x) rfl ho) (by show p0 + 1 + 1 < B0; omega) _
  · exact (h.o2.grownA hg h.o1 h.ap).set q2' (by decide) (by decide) 0 _
/-- behind an append to the vapours. -/
theorem PkA.vap {s : Ws} {wc : Array Value} {w W W' : World} {p0 B0 : Nat} {v1 : Value} {l1 : List Int} {v2 : Value} {X : List IRow} (h : PkA s wc w p0 B0 v1 l1 v2 X W) (hB : p0 + 1 + 1 < B0) (hw : w.heap.size ≤ p0) (hg : W.grownBy W' v2.ownBlock) {gg cap : Nat} {x : IRow} (ho : W'.ownsRow B0 28 1 (.slice (some ⟨gg, 0, none⟩) (X.length + 1) cap) (X.length + 1) (X.flatMap cIR ++ cIR x)) {B1 : Nat} (hx : RowAt W B1 3 1 x.1 x.2.2.length (fI x.2.2)) (hB1 : B0 ≤ B1) (hv : ∀ b, v1.ownBlock = some b → b < B1) :
    PkA s wc w p0 B0 v1 l1 (.slice (some ⟨gg, 0, none⟩) (X.length + 1) cap) (X ++ [x]) (W'.setCell ⟨p0 + 1 + 1, 1, none⟩ (.slice (some ⟨gg, 0, none⟩) (X.length + 1) cap)) := by
  have hge := fun (j : Nat) (hj : v2.ownBlock = some j) => own_ge h.o2.own hj
  have hne : ∀ p, p < B0 → some p ≠ v2.ownBlock := fun p hp e => by have := hge p e.symm; omega
  have q2' := h.q2.grown hg (hne _ hB)
  have hs2 : B0 ≤ W'.heap.size := by have := hg.size; have := h.sz; omega
  have q2s := q2'.set_ 1 (.slice (some ⟨gg, 0, none⟩) (X.length + 1) cap)
  simp only [List.setIfInBounds_toArray, List.set_cons_zero, List.set_cons_succ] at q2s
  have o2' : IOwn W' B0 (.slice (some ⟨gg, 0, none⟩) (X.length + 1) cap) (X ++ [x]) := NOwn.push h.o2 hg (by decide) rfl (own_push (f := cIR) (x := x) rfl ho) (fun y hy => by
    obtain rfl := List.mem_singleton.1 hy
    exact hx.base hB1)
  refine ⟨ex_set (h.bw.grown hg h.bw.size (fun b hb => by have := hge b hb; omega)) (by show w.heap.size ≤ p0 + 1 + 1; omega) _, by simpa using hs2, (h.q0.grown hg (hne _ (by omega))).far (by show p0 ≠ p0 + 1 + 1; omega) _, (h.q1.grown hg (hne _ (by omega))).far (by show p0 + 1 ≠ p0 + 1 + 1; omega) _, q2s, ?_, ?_, h.ap.push (B := B1) (fun g e hn => ?_) hv⟩
  · exact own_far (own_grow h.o1 hg (fun b hb => own_ownne h.o1 h.o2.own (by decide) hb)) (by show p0 + 1 + 1 < B0; omega) _
  · exact o2'.set q2' (by decide) (by decide) 1 _
  · rcases hx with h3 | ⟨g', cur, e3, k1, k2, _⟩
    · exact absurd h3 hn
    · rw [e] at e3
      injection e3 with e3
      injection e3 with e3
      omega
/-- a truth that Picked tells. -/
structure TtOwn (w : World) (B : Nat) (t : Tt) (A1 A2 A3 : Option Addr) (c2 : Nat) : Prop where
  fs : RowAt w B 3 1 A1 t.fs.length (fI t.fs)
  vs : ∃ X : List IRow, IOwn w B (.slice A2 t.vs.length c2) X ∧ X.map (fun x => x.2.2) = t.vs
  gs : RowAt w B 3 1 A3 t.gs.length (fI t.gs)
theorem TtOwn.below {w w' : World} {B : Nat} {t : Tt} {A1 A2 A3 : Option Addr} {c2 : Nat} (h : TtOwn w B t A1 A2 A3 c2) (hb : Below w.heap.size w w') : TtOwn w' B t A1 A2 A3 c2 := by
  obtain ⟨h1, ⟨X, h2, h3⟩, h4⟩ := h
  exact ⟨h1.below hb, ⟨X, h2.below hb, h3⟩, h4.below hb⟩
theorem TtOwn.fr {R : Nat → Prop} {w w' : World} {B : Nat} {t : Tt} {A1 A2 A3 : Option Addr} {c2 : Nat} (h : TtOwn w B t A1 A2 A3 c2) (hf : Fr R w w') (hn : ∀ g, B ≤ g → g < w.heap.size → ¬ R g) : TtOwn w' B t A1 A2 A3 c2 := by
  obtain ⟨h1, ⟨X, h2, h3⟩, h4⟩ := h
  exact ⟨h1.fr hf hn, ⟨X, h2.fr hf hn, h3⟩, h4.fr hf hn⟩
theorem TtOwn.base {w : World} {B B' : Nat} {t : Tt} {A1 A2 A3 : Option Addr} {c2 : Nat} (h : TtOwn w B t A1 A2 A3 c2) (hb : B' ≤ B) : TtOwn w B' t A1 A2 A3 c2 := by
  obtain ⟨h1, ⟨X, h2, h3⟩, h4⟩ := h
  exact ⟨h1.base hb, ⟨X, h2.base hb, h3⟩, h4.base hb⟩
structure PkV (s : Ws) (B : Nat) (w' : World) (e : Ending) : Prop where
  out : ∃ t : Tt, ∃ A1 A2 A3 c1 c2 c3, e = .returned (.agg #[.slice A1 t.fs.length c1, .slice A2 t.vs.length c2, .slice A3 t.gs.length c3]) ∧ truT s t = true ∧ TtOwn w' B t A1 A2 A3 c2
end Go.Proofs.Ythihdiilokdidaa
end

section
namespace Go.Proofs.Ythihdiilokdidaa

section
variable {x y : Wo} {F : Nat → Int} {V : Nat → Nat → Int} {G : Nat → Int} {out : Nat → Bool}
/-- two works in which the same is moved. -/
structure SameMv (x y : Wo) : Prop where
  nr : y.rooms.length = x.rooms.length
  nm : y.moves.length = x.moves.length
  mv : ∀ i, i < x.moves.length → (gMv y.moves i).day = (gMv x.moves i).day ∧ (gMv y.moves i).src = (gMv x.moves i).src ∧ (gMv y.moves i).dst = (gMv x.moves i).dst
theorem SameMv.comes (h : SameMv x y) (G : Nat → Int) (r d : Int) : ∀ k, k ≤ x.moves.length → comes y G r d k = comes x G r d k := by
  intro k hk
  unfold Proofs.Ythihdiilokdidaa.comes
  refine esum_congr (fun i hi => ?_)
  have hi : i < k := by simpa using hi
  obtain ⟨h1, h2, h3⟩ := h.mv i (by omega)
  rw [h1, h2, h3]
theorem SameMv.stk (h : SameMv x y) (F : Nat → Int) (V : Nat → Nat → Int) (G : Nat → Int) (r : Nat) : ∀ d, stk y F V G r d = stk x F V G r d
  | 0 => by
    show F r + (Proofs.Ythihdiilokdidaa.comes y G r 0 y.moves.length - V r 0) = F r + (Proofs.Ythihdiilokdidaa.comes x G r 0 x.moves.length - V r 0)
    rw [h.nm, h.comes G _ _ _ (Nat.le_refl _)]
  | d + 1 => by
    show Proofs.Ythihdiilokdidaa.stk y F V G r d + (Proofs.Ythihdiilokdidaa.comes y G r ((d : Int) + 1) y.moves.length - V r (d + 1)) = Proofs.Ythihdiilokdidaa.stk x F V G r d + (Proofs.Ythihdiilokdidaa.comes x G r ((d : Int) + 1) x.moves.length - V r (d + 1))
    rw [h.nm, h.comes G _ _ _ (Nat.le_refl _), h.stk F V G r d]
/-- all ranges are as narrow, and the weighings of the first are among those of the second. -/
structure Finer (x y : Wo) : Prop extends SameMv x y where
  days : y.days = x.days
  fst : ∀ r, r < x.rooms.length → ∀ n, inR n (gRm y.rooms r).fst → inR n (gRm x.rooms r).fst
  vap : ∀ r, r < x.rooms.length → ∀ n, inR n (gRm y.rooms r).vap → inR n (gRm x.rooms r).vap
  mov : ∀ i, i < x.moves.length → ∀ n, inR n (gMv y.moves i).g → inR n (gMv x.moves i).g
  nw : x.wgs.length ≤ y.wgs.length
  wg : ∀ i, i < x.wgs.length → (gWg y.wgs i).room = (gWg x.wgs i).room ∧ (gWg y.wgs i).day = (gWg x.wgs i).day ∧ ∀ n, inR n (gWg y.wgs i).g → inR n (gWg x.wgs i).g
theorem Finer.good (h : Finer x y) (hg : GoodF y out F V G) : GoodF x out F V G where
  tru := ⟨fun r hr => h.fst r hr _ (hg.tru.fst r (by rw [h.nr]; exact hr)), fun r d hr hd => h.vap r hr _ (hg.tru.vap r d (by rw [h.nr]; exact hr) (by rw [h.days]; exact hd)), fun i hi => h.mov i hi _ (hg.tru.mov i (by rw [h.nm]; exact hi))⟩
  can := fun r d hr hd => by rw [← h.stk]; exact hg.can r d (by rw [h.nr]; exact hr) (by rw [h.days]; exact hd)
  agr := fun i hi ho => by
    obtain ⟨h1, h2, h3⟩ := h.wg i hi
    have := h3 _ (hg.agr i (by have := h.nw; omega) ho)
    rw [h1, h2, h.stk] at this
    exact this
/-- a works with other weighings. -/
def Wo.wg (w : Wo) (l : List Wg) : Wo := ⟨w.rooms, w.days, w.moves, l⟩
theorem SameMv.wgs (w : Wo) (l m : List Wg) : SameMv (w.wg l) (w.wg m) := ⟨rfl, rfl, fun _ _ => ⟨rfl, rfl, rfl⟩⟩
theorem gWg_l {l m : List Wg} {k : Nat} (h : k < l.length) : gWg (l ++ m) k = gWg l k := getD_l _ h
theorem gWg_r (l : List Wg) (x : Wg) : gWg (l ++ [x]) l.length = x := getD_r _ _ _
end

section
variable {x y : Wo}
/-- one day more, on which nothing is moved or weighed. -/
structure Later (x y : Wo) : Prop where
  rooms : y.rooms = x.rooms
  days : y.days = x.days + 1
  moves : y.moves = x.moves
  wgs : y.wgs = x.wgs
theorem Later.same (h : Later x y) : SameMv x y := ⟨by rw [h.rooms], by rw [h.moves], fun i _ => by rw [h.moves]; exact ⟨rfl, rfl, rfl⟩⟩
end

section
variable {w : Wo} {F : Nat → Int} {V : Nat → Nat → Int} {G : Nat → Int}
end
end Go.Proofs.Ythihdiilokdidaa
end

section
namespace Go.Proofs.Ythihdiilokdidaa
open Go.RowKit
attribute [local go_sem] Ex.cell? Ex.frozen? Gx.cell?

/-- weighings that are made anew. -/
structure WgTo (s : Ws) (S : Nat → Nat → Int) (m : Nat) (L : List Wg) (i : Nat) : Prop where
  len : L.length = i
  ok : ∀ j, j < i → (gWg L j).room = (gWg s.wgs j).room ∧ (gWg L j).day = (gWg s.wgs j).day ∧ (m / 2 ^ j % 2 = 0 → inR (S (gWg s.wgs j).room.toNat (gWg s.wgs j).day.toNat) (gWg L j).g)
theorem WgTo.snoc {s : Ws} {S : Nat → Nat → Int} {m : Nat} {L : List Wg} {i : Nat} (h : WgTo s S m L i) {x : Wg} (h1 : x.room = (gWg s.wgs i).room) (h2 : x.day = (gWg s.wgs i).day) (h3 : m / 2 ^ i % 2 = 0 → inR (S (gWg s.wgs i).room.toNat (gWg s.wgs i).day.toNat) x.g) : WgTo s S m (L ++ [x]) (i + 1) where
  len := by simp [h.len]
  ok := fun j hj => by
    rcases Nat.lt_succ_iff_lt_or_eq.1 hj with hlt | rfl
    · rw [gWg_l (by rw [h.len]; exact hlt)]; exact h.ok j hlt
    · have e : gWg (L ++ [x]) j = x := by rw [← h.len]; exact gWg_r _ _
      rw [e]; exact ⟨h1, h2, h3⟩
/-- a works that Weighed tells. -/
structure WdV (s : Ws) (S : Nat → Nat → Int) (m : Nat) (Ar Am : Option Addr) (cr cm : Nat) (B : Nat) (w' : World) (e : Ending) : Prop where
  out : ∃ L A c, e = .returned (.agg #[.slice Ar s.rooms.length cr, .int .i64 s.days, .slice Am s.moves.length cm, .slice A L.length c]) ∧ WgTo s S m L s.wgs.length ∧ RowAt w' B 72 4 A L.length (fWg L)
end Go.Proofs.Ythihdiilokdidaa
end

section
namespace Go.Proofs.Ythihdiilokdidaa
theorem shortB_iff {L : List (List Int)} : shortB L = true ↔ L.length ≤ 9 ∧ ∀ k, k < L.length → (gL L k).length ≤ 9 := by
  unfold shortB
  rw [Bool.and_eq_true, decide_eq_true_eq, allTo_iff]
  constructor
  · rintro ⟨a, b⟩; exact ⟨a, fun k hk => of_decide_eq_true (b k hk)⟩
  · rintro ⟨a, b⟩; exact ⟨a, fun k hk => decide_eq_true (b k hk)⟩
structure Thn (s : Ws) (t : Tt) : Prop where
  nr : s.rooms.length ≤ 6
  nm : s.moves.length ≤ 15
  nw : s.wgs.length ≤ 11
  nf : t.fs.length ≤ 9
  ng : t.gs.length ≤ 18
  nv : t.vs.length ≤ 9
  row : ∀ k, k < t.vs.length → (gL t.vs k).length ≤ 9
end Go.Proofs.Ythihdiilokdidaa
end

section
namespace Go.Proofs.Ythihdiilokdidaa
open Go.RowKit
attribute [local go_sem] Ex.cell? Ex.frozen? Fx.cell?

/-- a works with other weighings. -/
abbrev Ws.wg (s : Ws) (L : List Wg) : Ws := ⟨s.rooms, s.days, s.moves, L⟩
/-- a works with weighings made anew, true of a truth but for those of bits. -/
structure LivX (s : Ws) (m : Nat) (t : Tt) (L : List Wg) : Prop where
  thn : Thn s ⟨[], [], []⟩
  ck : ckWs s = 0
  tru : truT s t = true
  can : canT s t = true
  wg : WgTo s (stk s.wo t.F t.V t.G) m L s.wgs.length
  ckx : ckWs (s.wg L) = 0
/-- what lives tells. -/
structure LivV (s : Ws) (m : Nat) (Ar Am : Option Addr) (cr cm : Nat) (w' : World) (e : Ending) : Prop where
  out : (∃ A1 A2 A3 A4 A5 A6 A7 c1 c2 c3 c4 c5 c6 c7, ∃ n1 n2 n3 n4 n5 n6 n7 : Nat, ∃ d : Int, e = .returned (.tuple #[.agg #[.slice A1 n1 c1, .int .i64 d, .slice A2 n2 c2, .slice A3 n3 c3], .agg #[.slice A4 n4 c4, .slice A5 n5 c5, .slice A6 n6 c6], .slice A7 n7 c7, .bool false])) ∨
    ∃ t : Tt, ∃ L : List Wg, ∃ A3 A4 A5 A6 A7 c3 c4 c5 c6 c7 rV rcV rA rc, e = .returned (.tuple #[.agg #[.slice Ar s.rooms.length cr, .int .i64 s.days, .slice Am s.moves.length cm, .slice A3 L.length c3], .agg #[.slice A4 t.fs.length c4, .slice A5 t.vs.length c5, .slice A6 t.gs.length c6], .slice A7 s.rooms.length c7, .bool true]) ∧
      LivX s m t L ∧ SlAt w' w'.heap.size 4 A3 L.length (fWg L) ∧ TtIn w' w'.heap.size t A4 A5 A6 rV rcV ∧ MatIn w' w'.heap.size A7 s.rooms.length s.wo.days (stk s.wo t.F t.V t.G) rA rc
end Go.Proofs.Ythihdiilokdidaa
end

section
namespace Go.Proofs.Ythihdiilokdidaa

/-- the weighings that bits leave out. -/
def bitO (m : Nat) : Nat → Bool := fun i => decide (m / 2 ^ i % 2 = 1)
theorem bitO_zero : bitO 0 = off0 := by
  funext i
  unfold bitO off0
  rw [Nat.zero_div]
  rfl
section
variable {s : Ws} {m : Nat} {t : Tt} {L : List Wg}
theorem stk_wgL (s : Ws) (L : List Wg) (F : Nat → Int) (V : Nat → Nat → Int) (G : Nat → Int) (r d : Nat) : stk (s.wg L).wo F V G r d = stk s.wo F V G r d := (SameMv.wgs s.wo s.wgs L).stk F V G r d
theorem LivX.wo (h : LivX s m t L) : WoOk s.wo ∧ s.days = (s.wo.days : Int) := ckWs_iff.1 h.ck
theorem LivX.wox (h : LivX s m t L) : WoOk (s.wg L).wo ∧ (s.wg L).days = ((s.wg L).wo.days : Int) := ckWs_iff.1 h.ckx
theorem LivX.sm (h : LivX s m t L) : (s.wg L).rooms.length ≤ 1000 ∧ (s.wg L).moves.length ≤ 1000 ∧ (s.wg L).wgs.length ≤ 1000 := by
  have h1 := h.wox.1.len
  have a : (s.wg L).wo.rooms.length = (s.wg L).rooms.length := rfl
  have b : (s.wg L).wo.moves.length = (s.wg L).moves.length := rfl
  have c : (s.wg L).wo.wgs.length = (s.wg L).wgs.length := rfl
  omega
theorem LivX.tru' (h : LivX s m t L) : TruF s.wo t.F t.V t.G := ((truT_iff h.wo.2).1 h.tru).2.2
theorem LivX.good (h : LivX s m t L) : GoodF (s.wg L).wo (bitO m) t.F t.V t.G where
  tru := ⟨h.tru'.fst, h.tru'.vap, h.tru'.mov⟩
  can := fun r d hr hd => by rw [stk_wgL]; exact canT_iff.1 h.can r d hr hd
  agr := fun i hi ho => by
    have hl := h.wg.len
    have hi2 : i < s.wgs.length := by rw [← hl]; exact hi
    obtain ⟨h1, h2, h3⟩ := h.wg.ok i hi2
    have hz : m / 2 ^ i % 2 = 0 := by
      have := of_decide_eq_false ho
      omega
    have h4 := h3 hz
    show inR (stk (s.wg L).wo t.F t.V t.G (gWg L i).room.toNat (gWg L i).day.toNat) (gWg L i).g
    rw [stk_wgL, h1, h2]
    exact h4
theorem LivX.stk_in (h : LivX s 0 t L) {r d : Nat} : StkZ (s.wg L).wo off0 r d (stk s.wo t.F t.V t.G r d) := ⟨_, _, _, bitO_zero ▸ h.good, stk_wgL _ _ _ _ _ _ _⟩
theorem LivX.len (h : LivX s m t L) : L.length = s.wgs.length := h.wg.len
end
/-- the ends, and what lies just beyond them. -/
def endV (lo hi : Int) : Nat → Int
  | 0 => lo
  | 1 => hi
  | 2 => lo - 1
  | _ => hi + 1
end Go.Proofs.Ythihdiilokdidaa
end

section
namespace Go.Proofs.Ythihdiilokdidaa

/-- how many of f numbers from n on are left out. -/
def cnt (O : Nat → Bool) (n : Nat) : Nat → Nat
  | 0 => 0
  | f + 1 => (if O n then 1 else 0) + cnt O (n + 1) f
/-- the numbers of a list, as those that are left out. -/
def outL (L : List Int) : Nat → Bool := fun j => decide ((j : Int) ∈ L)
/-- a list that is told: it may be left out, and goes up. -/
structure Told (s : Ws) (L : List Int) : Prop where
  good : Good s.wo (outL L)
  up : L.Pairwise (· < ·)
  bd : ∀ x ∈ L, 0 ≤ x ∧ x < (s.wgs.length : Int)
/-- what Fewest tells. -/
structure FwIs (s : Ws) : Prop where
  told : Told s (fwL s)
  min : ∀ O, Good s.wo O → (fwL s).length ≤ cnt O 0 s.wgs.length
end Go.Proofs.Ythihdiilokdidaa
end

section
namespace Go.Proofs.Ythihdiilokdidaa

/-- the product of the first so many widths. -/
def prodW (wd : Nat → Nat) : Nat → Nat
  | 0 => 1
  | k + 1 => prodW wd k * wd k
/-- what is left of a number after so many places. -/
def remW (wd : Nat → Nat) (n : Nat) : Nat → Nat
  | 0 => n
  | k + 1 => remW wd n k / wd k
/-- the product, but at most a great number. -/
def wideTo (wd : Nat → Nat) : Nat → Nat
  | 0 => 1
  | k + 1 => min 1048576 (wideTo wd k * wd k)
/-- how wide a range is. -/
def wdR (r : Rg) : Nat := (r.hi - r.lo + 1).toNat
/-- the range at a place: of each room its first and the vapours of all days, then the moves. -/
def rgP (w : Wo) (k : Nat) : Rg :=
  if k < w.rooms.length * (w.days + 1) then (if k % (w.days + 1) = 0 then (gRm w.rooms (k / (w.days + 1))).fst else (gRm w.rooms (k / (w.days + 1))).vap) else (gMv w.moves (k - w.rooms.length * (w.days + 1))).g
def wdP (w : Wo) (k : Nat) : Nat := wdR (rgP w k)
def placesP (w : Wo) : Nat := w.rooms.length * (w.days + 1) + w.moves.length
section
variable {w : Wo}
theorem place_lt {R D i j : Nat} (hi : i < R) (hj : j < D) : i * D + j < R * D := by
  have : (i + 1) * D ≤ R * D := Nat.mul_le_mul_right _ hi
  rw [Nat.add_mul, Nat.one_mul] at this
  omega
/-- the truth with a number. -/
def valP (w : Wo) (n k : Nat) : Int := (rgP w k).lo + ((remW (wdP w) n k % wdP w k : Nat) : Int)
def nthF (w : Wo) (n : Nat) : Nat → Int := fun i => valP w n (i * (w.days + 1))
def nthV (w : Wo) (n : Nat) : Nat → Nat → Int := fun i d => valP w n (i * (w.days + 1) + 1 + d)
def nthG (w : Wo) (n : Nat) : Nat → Int := fun i => valP w n (w.rooms.length * (w.days + 1) + i)
/-- a number's truth is the same in these. -/
structure SameT (w : Wo) (F : Nat → Int) (V : Nat → Nat → Int) (G : Nat → Int) (F' : Nat → Int) (V' : Nat → Nat → Int) (G' : Nat → Int) : Prop where
  fst : ∀ r, r < w.rooms.length → F r = F' r
  vap : ∀ r d, r < w.rooms.length → d < w.days → V r d = V' r d
  mov : ∀ i, i < w.moves.length → G i = G' i
theorem SameT.stk {F : Nat → Int} {V : Nat → Nat → Int} {G : Nat → Int} {F' : Nat → Int} {V' : Nat → Nat → Int} {G' : Nat → Int} (h : SameT w F V G F' V' G') {r : Nat} (hr : r < w.rooms.length) : ∀ d, d < w.days → stk w F V G r d = stk w F' V' G' r d := by
  have hc : ∀ d : Int, comes w G r d w.moves.length = comes w G' r d w.moves.length := fun d => by
    unfold comes
    refine esum_congr (fun i hi => ?_)
    rw [h.mov i (by simpa using hi)]
  intro d
  induction d with
  | zero =>
    intro hd
    show F r + (comes w G r 0 w.moves.length - V r 0) = F' r + (comes w G' r 0 w.moves.length - V' r 0)
    rw [h.fst r hr, h.vap r 0 hr hd, hc]
  | succ d ih =>
    intro hd
    show Proofs.Ythihdiilokdidaa.stk w F V G r d + (comes w G r ((d : Int) + 1) w.moves.length - V r (d + 1)) = Proofs.Ythihdiilokdidaa.stk w F' V' G' r d + (comes w G' r ((d : Int) + 1) w.moves.length - V' r (d + 1))
    rw [ih (by omega), h.vap r (d + 1) hr hd, hc]
theorem SameT.good {F : Nat → Int} {V : Nat → Nat → Int} {G : Nat → Int} {F' : Nat → Int} {V' : Nat → Nat → Int} {G' : Nat → Int} {out : Nat → Bool} (h : SameT w F V G F' V' G') (hw : WoOk w) (hg : GoodF w out F V G) : GoodF w out F' V' G' where
  tru := ⟨fun r hr => by rw [← h.fst r hr]; exact hg.tru.fst r hr, fun r d hr hd => by rw [← h.vap r d hr hd]; exact hg.tru.vap r d hr hd, fun i hi => by rw [← h.mov i hi]; exact hg.tru.mov i hi⟩
  can := fun r d hr hd => by rw [← h.stk hr d hd]; exact hg.can r d hr hd
  agr := fun i hi ho => by
    have := hw.wgs i hi
    rw [← h.stk (by omega) _ (by omega)]
    exact hg.agr i hi ho
/-- a truth with a number that can be, and agrees with all weighings but some. -/
def goodN (w : Wo) (out : Nat → Bool) (n : Nat) : Prop := GoodF w out (nthF w n) (nthV w n) (nthG w n)
def stkN (w : Wo) (n : Nat) : Nat → Nat → Int := stk w (nthF w n) (nthV w n) (nthG w n)
end
end Go.Proofs.Ythihdiilokdidaa
end

section
namespace Go.Proofs.Ythihdiilokdidaa
open Go.RowKit
section
variable {α : Type} {f : α → List Value} {sz : Nat} {w : World} {base : Nat} {e : TypeId} {v : Value} {l : List α}
theorem row_at (hf : ∀ a, (f a).length = sz) (hsz : 0 < sz) (h : w.ownsRow base e sz v l.length (l.flatMap f)) {k : Nat} (hk : k < l.length) :
    ∃ g cap, v = .slice (some ⟨g, 0, none⟩) l.length cap ∧ base ≤ g ∧ g < w.heap.size ∧ (∀ j, j < sz → w.cell? ⟨g, k * sz + j, none⟩ = (f l[k])[j]?) ∧ ∀ i, w.frozen? ⟨g, i, none⟩ = false := by
  obtain ⟨g, cap, rfl, hb, hl, _, _, hc, hfz⟩ := own_cell h (by omega)
  refine ⟨g, cap, rfl, hb, hl, fun j hj => ?_, hfz⟩
  have hlen := flat_len (f := f) (sz := sz) hf l
  have hlt : k * sz + j < l.length * sz := place_lt hk hj
  rw [hc _ (by rw [hlen]; exact hlt)]
  exact flat_get (f := f) (sz := sz) hf hk hj
theorem row_put (hf : ∀ a, (f a).length = sz) (h : w.ownsRow base e sz v l.length (l.flatMap f)) {g : Nat} (hg : v.ownBlock = some g) {k : Nat} (hk : k < l.length) {j : Nat} (hj : j < sz) {u : Value} {a : α} (ha : (f l[k]).set j u = f a) :
    (w.setCell ⟨g, k * sz + j, none⟩ u).ownsRow base e sz v (l.set k a).length ((l.set k a).flatMap f) := by
  have hlen := flat_len (f := f) (sz := sz) hf l
  have hlt : k * sz + j < l.length * sz := place_lt hk hj
  have := own_set h hg (j := k * sz + j) (by rw [hlen]; exact hlt) u
  rw [flat_set (f := f) (sz := sz) hf hk hj ha] at this
  rw [List.length_set]
  exact this
end
/-- a works with other rooms. -/
abbrev zW (s : Ws) (R : List Rm) : Ws := ⟨R, s.days, s.moves, s.wgs⟩
/-- a works with one day more. -/
abbrev Ws.more (s : Ws) : Ws := ⟨s.rooms, s.days + 1, s.moves, s.wgs⟩
/-- with one day more, and no vapour that must be. -/
structure MoreIs (s : Ws) : Prop where
  yes : stE s.more = 0
  same : ∀ r d, r < s.rooms.length → d < s.wo.days → stkR s.more.wo off0 r d = stkR s.wo off0 r d
end Go.Proofs.Ythihdiilokdidaa
end
