/- Spill's laws: Weighed (walk): weighings by words, true of some stocks but for those of bits. · Spill's laws: thin works and truths (plain). · Spill's laws: lives (walk). · Spill's outright laws (plain): what lives tells; ends of a range. · Spill: Fewest and Blame (plain): the lists that are tried. · Spill's reference (plain): all truths by number. · Spill's laws: rows of the call's own that are written in place; a day more (plain). -/
import Derived.Test.YthihdiilokdidaaR12
set_option linter.unusedVariables false
set_option linter.unusedSimpArgs false
set_option linter.unusedSectionVars false
section
namespace Go.Proofs.Ythihdiilokdidaa
open Go.RowKit
attribute [local go_sem] Ex.cell? Ex.frozen? Gx.cell?

/-- weighings that are made anew. -/
structure WgTo (s : Ws) (S : Nat → Nat → Int) (m : Nat) (L : List Wg) (i : Nat) : Prop where
  len : L.length = i
  ok : ∀ j, j < i → (gWg L j).room = (gWg s.wgs j).room ∧ (gWg L j).day = (gWg s.wgs j).day ∧ (m / 2 ^ j % 2 = 0 → inR (S (gWg s.wgs j).room.toNat (gWg s.wgs j).day.toNat) (gWg L j).g)
theorem WgTo.snoc {s : Ws} {S : Nat → Nat → Int} {m : Nat} {L : List Wg} {i : Nat} (h : WgTo s S m L i) {x : Wg} (h1 : x.room = (gWg s.wgs i).room) (h2 : x.day = (gWg s.wgs i).day) (h3 : m / 2 ^ i % 2 = 0 → inR (S (gWg s.wgs i).room.toNat (gWg s.wgs i).day.toNat) x.g) : WgTo s S m (L ++ [x]) (i + 1) where
  len := by simp [h.len]
  ok := fun j hj => by
    rcases Nat.lt_succ_iff_lt_or_eq.1 hj with hlt | rfl
    · rw [gWg_l (by rw [h.len]; exact hlt)]; exact h.ok j hlt
    · have e : gWg (L ++ [x]) j = x := by rw [← h.len]; exact gWg_r _ _
      rw [e]; exact ⟨h1, h2, h3⟩
theorem wgR_info : (Try.prog.info? 72).map (fun i => (i.zero, i.size, i.bytes)) = some (some (.agg #[.int .i64 0, .int .i64 0, .int .i64 0, .int .i64 0]), 4, 32) := by kernel_rfl
theorem bit_z {m k : Nat} (x : Bool) (h : decide (m / 2 ^ k % 2 = 1) = x) : (((m : Int) / 2 ^ k).tmod 2 == 1) = x := by
  have e : (m : Int) / 2 ^ k = ((m / 2 ^ k : Nat) : Int) := by simp
  rw [e, Int.tmod_eq_emod_of_nonneg (Int.natCast_nonneg _)]
  subst h
  generalize m / 2 ^ k = a
  rcases Nat.mod_two_eq_zero_or_one a with h2 | h2
  · rw [decide_eq_false (by omega)]; rw [beq_eq_false_iff_ne]; omega
  · rw [decide_eq_true h2]; rw [beq_iff_eq]; omega
/-- a works that Weighed tells. -/
structure WdV (s : Ws) (S : Nat → Nat → Int) (m : Nat) (Ar Am : Option Addr) (cr cm : Nat) (B : Nat) (w' : World) (e : Ending) : Prop where
  out : ∃ L A c, e = .returned (.agg #[.slice Ar s.rooms.length cr, .int .i64 s.days, .slice Am s.moves.length cm, .slice A L.length c]) ∧ WgTo s S m L s.wgs.length ∧ RowAt w' B 72 4 A L.length (fWg L)
set_option maxRecDepth 100000 in
set_option maxHeartbeats 6400000 in
theorem Weighed_any (s : Ws) (Ar Am Aw : Option Addr) (cr cm cw : Nat) (w : World) (hs : WsIn w w.heap.size s Ar Am Aw) (hw : WoOk s.wo) (S : Nat → Nat → Int) (AS : Option Addr) (cS : Nat) (rA : Nat → Option Addr) (rc : Nat → Nat) (hS : MatIn w w.heap.size AS s.rooms.length s.wo.days S rA rc) (hbS : ∀ r d, r < s.rooms.length → d < s.wo.days → 0 ≤ S r d ∧ S r d ≤ 1000000) (AW : Option Addr) (cW : Nat) (ws : List Int) (hwd : SlAt w w.heap.size 1 AW ws.length (fU ws)) (hwb : ∀ k, k < ws.length → 0 ≤ gI ws k ∧ gI ws k ≤ 65535) (hwl : ws.length ≤ maxLen) (m : Nat) (hm : (m : Int) ≤ 255) :
    Calls Try.prog 78 #[.agg #[.slice Ar s.rooms.length cr, .int .i64 s.days, .slice Am s.moves.length cm, .slice Aw s.wgs.length cw], .slice AS s.rooms.length cS, .slice AW ws.length cW, .int .u8 (m : Int)] w fun e w' => WdV s S m Ar Am cr cm w.heap.size w' e ∧ Below w.heap.size w w' := by
  obtain ⟨i2, hi2, hz0, hz1, hz2⟩ := info_parts wgR_info
  have HI := Lib.hid hi2
  clear hi2
  have hr3 : 0 < s.rooms.length ∧ s.rooms.length ≤ 3 := ⟨hw.len.1, hw.len.2.1⟩
  have hw8 : s.wgs.length ≤ 8 := hw.len.2.2.2
  obtain ⟨D, hD⟩ : ∃ D, s.wo.days = D := ⟨_, rfl⟩
  have hD6 : 1 ≤ D ∧ D ≤ 6 := by have := hw.days; omega
  have HWG : Hid (∀ i, i < s.wgs.length → 0 ≤ (gWg s.wgs i).room ∧ (gWg s.wgs i).room < (s.rooms.length : Int) ∧ 0 ≤ (gWg s.wgs i).day ∧ (gWg s.wgs i).day < (D : Int)) := Lib.hid (fun i hi => by have := hw.wgs i hi; rw [← hD]; exact ⟨this.1, this.2.1, this.2.2.1, this.2.2.2.1⟩)
  rw [hD] at hS hbS
  clear hD hw
  have HSB := Lib.hid hbS
  have HWB := Lib.hid hwb
  have hSo := hS.out
  have hSr := hS.row
  clear hS hwb hbS
  have hb1 := ex_alloc (ex_alloc (ex_alloc (Below.refl w.heap.size w) (.cells #[.slice Ar s.rooms.length cr, .int .i64 s.days, .slice Am s.moves.length cm, .slice Aw s.wgs.length cw] 26)) (.cells #[.slice none 0 0, .int .i64 0, .slice none 0 0, .slice none 0 0] 26)) (.cells #[.slice Ar s.rooms.length cr, .int .i64 s.days, .slice Am s.moves.length cm, .slice Aw s.wgs.length cw] 26)
  have q0 : Blk (((w.alloc (.cells #[.slice Ar s.rooms.length cr, .int .i64 s.days, .slice Am s.moves.length cm, .slice Aw s.wgs.length cw] 26)).alloc (.cells #[.slice none 0 0, .int .i64 0, .slice none 0 0, .slice none 0 0] 26)).alloc (.cells #[.slice Ar s.rooms.length cr, .int .i64 s.days, .slice Am s.moves.length cm, .slice Aw s.wgs.length cw] 26)) w.heap.size 26 #[.slice Ar s.rooms.length cr, .int .i64 s.days, .slice Am s.moves.length cm, .slice Aw s.wgs.length cw] := ((Blk.new _ _ _).alloc _).alloc _
  have q1 : Blk (((w.alloc (.cells #[.slice Ar s.rooms.length cr, .int .i64 s.days, .slice Am s.moves.length cm, .slice Aw s.wgs.length cw] 26)).alloc (.cells #[.slice none 0 0, .int .i64 0, .slice none 0 0, .slice none 0 0] 26)).alloc (.cells #[.slice Ar s.rooms.length cr, .int .i64 s.days, .slice Am s.moves.length cm, .slice Aw s.wgs.length cw] 26)) (w.heap.size + 1) 26 #[.slice none 0 0, .int .i64 0, .slice none 0 0, .slice none 0 0] := (Blk.new' _ _ _ (by simp)).alloc _
  have q2 : Blk (((w.alloc (.cells #[.slice Ar s.rooms.length cr, .int .i64 s.days, .slice Am s.moves.length cm, .slice Aw s.wgs.length cw] 26)).alloc (.cells #[.slice none 0 0, .int .i64 0, .slice none 0 0, .slice none 0 0] 26)).alloc (.cells #[.slice Ar s.rooms.length cr, .int .i64 s.days, .slice Am s.moves.length cm, .slice Aw s.wgs.length cw] 26)) (w.heap.size + 1 + 1) 26 #[.slice Ar s.rooms.length cr, .int .i64 s.days, .slice Am s.moves.length cm, .slice Aw s.wgs.length cw] := Blk.new' _ _ _ (by simp)
  go_enter Try.func78, Try.ntmps78
  go_upto_region 2 with fail
  show Code.wp _ _ _ _ (((w.alloc (.cells #[.slice Ar s.rooms.length cr, .int .i64 s.days, .slice Am s.moves.length cm, .slice Aw s.wgs.length cw] 26)).alloc (.cells #[.slice none 0 0, .int .i64 0, .slice none 0 0, .slice none 0 0] 26)).alloc (.cells #[.slice Ar s.rooms.length cr, .int .i64 s.days, .slice Am s.moves.length cm, .slice Aw s.wgs.length cw] 26))
  obtain ⟨p0, hp0⟩ : ∃ p, w.heap.size = p := ⟨_, rfl⟩
  have hwp : w.heap.size ≤ p0 := by omega
  rw [hp0] at q0 q1 q2 ⊢
  generalize ((w.alloc (.cells #[.slice Ar s.rooms.length cr, .int .i64 s.days, .slice Am s.moves.length cm, .slice Aw s.wgs.length cw] 26)).alloc (.cells #[.slice none 0 0, .int .i64 0, .slice none 0 0, .slice none 0 0] 26)).alloc (.cells #[.slice Ar s.rooms.length cr, .int .i64 s.days, .slice Am s.moves.length cm, .slice Aw s.wgs.length cw] 26) = W1 at *
  clear hp0
  have f0 : W1.cell? ⟨p0 + 1 + 1, 3, none⟩ = some (.slice Aw s.wgs.length cw) := q2.cell 3
  have ff := q2.frozen0
  have l2 := q2.lt
  have q3 := q2.set_ 3 (.slice none 0 0)
  simp only [List.setIfInBounds_toArray, List.set_cons_zero, List.set_cons_succ] at q3
  have q03 := q0.far (p := ⟨p0 + 1 + 1, 3, none⟩) (by show p0 ≠ p0 + 1 + 1; omega) (.slice none 0 0)
  have q13 := q1.far (p := ⟨p0 + 1 + 1, 3, none⟩) (by show p0 + 1 ≠ p0 + 1 + 1; omega) (.slice none 0 0)
  have hb3 := ex_set hb1 (p := ⟨p0 + 1 + 1, 3, none⟩) (by show w.heap.size ≤ p0 + 1 + 1; omega) (.slice none 0 0)
  go_upto_region 3 with fail
  generalize W1.setCell ⟨p0 + 1 + 1, 3, none⟩ (.slice none 0 0) = W2 at *
  clear f0 ff l2 q0 q1 q2 hb1
  obtain ⟨B0, hB0⟩ : ∃ b, W2.heap.size = b := ⟨_, rfl⟩
  have hbs : p0 + 1 + 1 < B0 := by have := q3.lt; omega
  have hzB : B0 ≤ W2.heap.size := by omega
  clear hB0
  go_wp2_with fail
  refine wp_loop (fun a W => Rel (fun a W => ∃ i : Nat, i ≤ s.wgs.length ∧ Below w.heap.size w W ∧ B0 ≤ W.heap.size ∧ Blk W p0 26 #[.slice Ar s.rooms.length cr, .int .i64 s.days, .slice Am s.moves.length cm, .slice Aw s.wgs.length cw] ∧ Blk W (p0 + 1) 26 #[.slice none 0 0, .int .i64 0, .slice none 0 0, .slice none 0 0] ∧ ∃ v, ∃ L : List Wg, Blk W (p0 + 1 + 1) 26 #[.slice Ar s.rooms.length cr, .int .i64 s.days, .slice Am s.moves.length cm, v] ∧ W.ownsRow B0 72 4 v L.length (L.flatMap cWg) ∧ Hid (WgTo s S m L i) ∧ ∃ u : Nat → Value, a = ⟨List.toArray (u 0 :: .slice AS s.rooms.length cS :: .slice AW ws.length cW :: .int .u8 (m : Int) :: .pointer (some ⟨p0, 0, none⟩) :: u 5 :: u 6 :: u 7 :: .pointer (some ⟨p0 + 1, 0, none⟩) :: .pointer (some ⟨p0 + 1 + 1, 0, none⟩) :: .int .i64 (i : Int) :: u 11 :: u 12 :: u 13 :: u 14 :: u 15 :: u 16 :: u 17 :: u 18 :: u 19 :: u 20 :: u 21 :: u 22 :: u 23 :: u 24 :: u 25 :: u 26 :: u 27 :: u 28 :: u 29 :: u 30 :: u 31 :: u 32 :: u 33 :: u 34 :: u 35 :: u 36 :: u 37 :: u 38 :: u 39 :: u 40 :: u 41 :: u 42 :: u 43 :: u 44 :: u 45 :: u 46 :: u 47 :: u 48 :: u 49 :: u 50 :: u 51 :: u 52 :: u 53 :: u 54 :: u 55 :: u 56 :: u 57 :: u 58 :: u 59 :: u 60 :: u 61 :: u 62 :: u 63 :: u 64 :: u 65 :: u 66 :: u 67 :: u 68 :: u 69 :: u 70 :: u 71 :: []), []⟩) a W) (fun a _ => s.wgs.length - (intOf (a.tmps.getD 10 undef)).toNat) ⟨⟨0, by omega, hb3, hzB, q03, q13, .slice none 0 0, [], q3, ⟨rfl, .inl ⟨rfl, rfl⟩⟩, Lib.hid ⟨rfl, fun j hj => by omega⟩, exFrame (by kernel_rfl)⟩⟩ ?_
  clear hb3 hzB q03 q13 q3 W1 W2
  rintro a W ⟨⟨i, hi, hb, hsz, q0, q1, v, L, q2, hown, HL, u, rfl⟩⟩
  have a3 : W.cell? ⟨p0, 3, none⟩ = some (.slice Aw s.wgs.length cw) := q0.cell 3
  have l0 := q0.lt
  have HLL : Hid (L.length = i) := Lib.hid HL.out.len
  by_cases hlt : i < s.wgs.length
  · have hin : (i : Int) < (s.wgs.length : Int) := by omega
    obtain ⟨br, orr, hAw, hbr, r0, r1, r2, r3⟩ := IsWgs.at_ (hs.wgs.below hb) hlt
    rw [hAw] at a3
    have lbr : br < W.heap.size := by have := hb.size; omega
    have hwk := HWG.out i hlt
    obtain ⟨e0, he0⟩ : ∃ x, (gWg s.wgs i).room = x := ⟨_, rfl⟩
    rw [he0] at r0 hwk
    obtain ⟨e1, he1⟩ : ∃ x, (gWg s.wgs i).day = x := ⟨_, rfl⟩
    rw [he1] at r1 hwk
    obtain ⟨e2, he2⟩ : ∃ x, (gWg s.wgs i).g.lo = x := ⟨_, rfl⟩
    rw [he2] at r2
    obtain ⟨e3, he3⟩ : ∃ x, (gWg s.wgs i).g.hi = x := ⟨_, rfl⟩
    rw [he3] at r3
    obtain ⟨r, rfl⟩ : ∃ r : Nat, e0 = r := ⟨e0.toNat, by omega⟩
    obtain ⟨d, rfl⟩ : ∃ d : Nat, e1 = d := ⟨e1.toNat, by omega⟩
    have hrN : r < s.rooms.length := by omega
    have hdD : d < D := by omega
    have hrI : (r : Int) < (s.rooms.length : Int) := by omega
    have hdI : (d : Int) < (D : Int) := by omega
    have HE : Hid ((gWg s.wgs i).room = (r : Int) ∧ (gWg s.wgs i).day = (d : Int)) := Lib.hid ⟨he0, he1⟩
    clear hwk he0 he1 he2 he3
    have qm : Blk (W.alloc (.cells #[.int .i64 (r : Int), .int .i64 (d : Int), .int .i64 e2, .int .i64 e3] 72)) W.heap.size 72 #[.int .i64 (r : Int), .int .i64 (d : Int), .int .i64 e2, .int .i64 e3] := Blk.new _ _ _
    have N_V := ex_alloc (Below.refl W.heap.size W) (.cells #[.int .i64 (r : Int), .int .i64 (d : Int), .int .i64 e2, .int .i64 e3] 72)
    have hdis : v.ownBlock ≠ some W.heap.size := fun e => by have := (own_lt hown e).2; omega
    replace q0 := q0.below N_V l0
    replace q1 := q1.below N_V q1.lt
    replace q2 := q2.below N_V q2.lt
    replace hown := own_below hown N_V
    go_upto_region 7 with fail
    have hszV : B0 ≤ (W.alloc (.cells #[.int .i64 (r : Int), .int .i64 (d : Int), .int .i64 e2, .int .i64 e3] 72)).heap.size := by have := N_V.size; omega
    replace hb := ex_trans hb N_V
    have hpW : B0 ≤ W.heap.size := hsz
    obtain ⟨pm, hpm⟩ : ∃ p, W.heap.size = p := ⟨_, rfl⟩
    rw [hpm] at qm hdis hpW ⊢
    clear a3 l0 r0 r1 r2 r3 lbr N_V hpm hsz
    generalize W.alloc (.cells #[.int .i64 (r : Int), .int .i64 (d : Int), .int .i64 e2, .int .i64 e3] 72) = V at *
    have D0 := (Below.refl V.heap.size V).drew
    obtain ⟨bS, oS, rfl, hbS, xS⟩ := (hSo.below hb) (show 0 < s.rooms.length by omega)
    have y0 : V.cell? ⟨bS, oS + r, none⟩ = some (.slice (rA r) D (rc r)) := by have := xS r 0 hrN (by omega); rw [show oS + (r * 1 + 0) = oS + r by omega] at this; exact this
    obtain ⟨bR, oR, hRA, hbR, xR⟩ := ((hSr r hrN).below hb) (show 0 < D by omega)
    have y1 : V.cell? ⟨bR, oR + d, none⟩ = some (.int .i64 (S r d)) := by have := xR d 0 hdD (by omega); rw [show oR + (d * 1 + 0) = oR + d by omega] at this; exact this
    rw [hRA] at y0
    clear xS xR hRA
    have lbS : bS < V.heap.size := by have := hb.size; omega
    have lbR : bR < V.heap.size := by have := hb.size; omega
    have hsb := HSB.out r d hrN hdD
    obtain ⟨sv, hsv⟩ : ∃ x, S r d = x := ⟨_, rfl⟩
    rw [hsv] at y1 hsb
    have HSV := Lib.hid hsv
    clear hsv
    obtain ⟨rck, hrck⟩ : ∃ x, rc r = x := ⟨_, rfl⟩
    rw [hrck] at y0
    clear hrck
    have m0 : V.cell? ⟨pm, 0, none⟩ = some (.int .i64 (r : Int)) := qm.cell 0
    have m1 : V.cell? ⟨pm, 1, none⟩ = some (.int .i64 (d : Int)) := qm.cell 1
    have m2 : V.cell? ⟨pm, 2, none⟩ = some (.int .i64 e2) := qm.cell 2
    have m3 : V.cell? ⟨pm, 3, none⟩ = some (.int .i64 e3) := qm.cell 3
    have lm := qm.lt
    have g1 : IntKind.i64.wrap ((i : Int) + 11) = (i : Int) + 11 := IntWalk.i64_in _ (by omega)
    refine wp_region_ext_mix 14 [(false, 0), (false, 1), (false, 2), (false, 3), (false, 4), (false, 5), (false, 6), (false, 7), (false, 8), (false, 9), (false, 10), (false, 11), (true, 12), (false, 13)] (by kernel_rfl) (by kernel_rfl) (by intro d _ _ _ _ h; cases d <;> exact h) ?_
    repeat (refine mix_quiet rfl ?_; go_big_quiet_step (fail); refine wpQuiet_nil ?_)
    refine mix_loud rfl ?_
    go_wp2_with fail
    refine (word_any AW cW ws ((i : Int) + 11) V.drew ((hwd.below (ex_trans hb D0)).up (ex_trans hb D0).size) HWB.out (by omega) (by omega) hwl).mono ?_
    rintro e Y ⟨⟨kw, rfl, hk0, hk65⟩, hY⟩
    have X2 := ex_trans D0 hY
    have B2 := ex_trans hb X2
    replace q0 := q0.below X2 q0.lt
    replace q1 := q1.below X2 q1.lt
    replace q2 := q2.below X2 q2.lt
    replace hown := own_below hown X2
    replace qm := qm.below X2 qm.lt
    have hszY : B0 ≤ Y.heap.size := by have := X2.size; omega
    go_wp2_with fail
    refine ⟨inEx X2, ?_⟩
    repeat (refine mix_quiet rfl ?_; go_big_quiet_step (fail); refine wpQuiet_nil ?_)
    refine mix_nil (r := [_]) rfl ?_
    clear y0 y1 m0 m1 m2 m3 lm D0 hY X2 hszV lbS lbR g1 hb
    have hi8 : (i : Int) ≤ 64 := by omega
    have t1 := bit_z (m := m) (k := i) _ rfl
    obtain ⟨tb, htb⟩ : ∃ b, decide (m / 2 ^ i % 2 = 1) = b := ⟨_, rfl⟩
    rw [htb] at t1
    have HTB := Lib.hid htb
    clear htb
    go_upto_region 8 with fail
    cases tb
    · have hk5 : 0 ≤ kw % 5 ∧ kw % 5 < 5 := ⟨Int.emod_nonneg _ (by omega), Int.emod_lt_of_pos _ (by omega)⟩
      have hk8 : 0 ≤ kw / 8 % 5 ∧ kw / 8 % 5 < 5 := ⟨Int.emod_nonneg _ (by omega), Int.emod_lt_of_pos _ (by omega)⟩
      have m0 : Y.cell? ⟨pm, 0, none⟩ = some (.int .i64 (r : Int)) := qm.cell 0
      have m1 : Y.cell? ⟨pm, 1, none⟩ = some (.int .i64 (d : Int)) := qm.cell 1
      have m2 : Y.cell? ⟨pm, 2, none⟩ = some (.int .i64 e2) := qm.cell 2
      have m3 : Y.cell? ⟨pm, 3, none⟩ = some (.int .i64 e3) := qm.cell 3
      have lm := qm.lt
      have fm := qm.frozen0
      have qs := (qm.set_ 2 (.int .i64 (max 0 (sv - kw % 5)))).set_ 3 (.int .i64 (sv + kw / 8 % 5))
      simp only [List.setIfInBounds_toArray, List.set_cons_zero, List.set_cons_succ] at qs
      have hF : Fr (fun b => b = pm) Y ((Y.setCell ⟨pm, 2, none⟩ (.int .i64 (max 0 (sv - kw % 5)))).setCell ⟨pm, 3, none⟩ (.int .i64 (sv + kw / 8 % 5))) := ((Fr.refl (fun b => b = pm) Y).andSet rfl).andSet rfl
      have B3 := hF.toBelow B2 B2.size (fun x hx => by omega)
      replace q0 := q0.fr hF (by omega)
      replace q1 := q1.fr hF (by omega)
      replace q2 := q2.fr hF (by omega)
      replace hown := own_fr hown hF (fun b hb e => hdis (e ▸ hb))
      have hszZ := hF.size
      go_upto_region 11 with fail
      generalize (Y.setCell ⟨pm, 2, none⟩ (.int .i64 (max 0 (sv - kw % 5)))).setCell ⟨pm, 3, none⟩ (.int .i64 (sv + kw / 8 % 5)) = Z at *
      have HG : Hid (m / 2 ^ i % 2 = 0 → inR (S r d) ⟨max 0 (sv - kw % 5), sv + kw / 8 % 5⟩) := Lib.hid (fun h0 => by rw [HSV.out]; unfold inR; dsimp only; omega)
      generalize max 0 (sv - kw % 5) = glo at *
      generalize sv + kw / 8 % 5 = ghi at *
      clear m0 m1 m2 m3 lm fm hF qm hk5 hk8 hsb t1
      have s3 : Z.cell? ⟨p0 + 1 + 1, 3, none⟩ = some v := q2.cell 3
      have m0 : Z.cell? ⟨pm, 0, none⟩ = some (.int .i64 (r : Int)) := qs.cell 0
      have m1 : Z.cell? ⟨pm, 1, none⟩ = some (.int .i64 (d : Int)) := qs.cell 1
      have m2 : Z.cell? ⟨pm, 2, none⟩ = some (.int .i64 glo) := qs.cell 2
      have m3 : Z.cell? ⟨pm, 3, none⟩ = some (.int .i64 ghi) := qs.cell 3
      have lm := qs.lt
      have l2 := q2.lt
      have ff := q2.frozen0
      have XL := ex_alloc (Below.refl Z.heap.size Z) (.cells #[.int .i64 (r : Int), .int .i64 (d : Int), .int .i64 glo, .int .i64 ghi] 72)
      have y4 := own_below hown XL
      have c63 : L.length + 1 ≤ maxLen := by rw [HLL.out]; unfold maxLen; omega
      have cby : (L.length + 1) * 32 ≤ 140737488355328 := by rw [HLL.out]; omega
      have hbase : B0 ≤ (Z.alloc (.cells #[.int .i64 (r : Int), .int .i64 (d : Int), .int .i64 glo, .int .i64 ghi] 72)).heap.size := by have := XL.size; omega
      go_wp2_with (refine pause_at 69 rfl ?_)
      refine Paused.mk ?_
      refine wpList_append_lies _ rfl _ _ _ rfl B0 72 i2 _ 4 32 Try.underlying24 HI.out hz0 hz1 hz2 rfl (by omega) v _ _ rfl y4 ⟨Z.heap.size, 0, none⟩ 1 1 [.int .i64 (r : Int), .int .i64 (d : Int), .int .i64 glo, .int .i64 ghi] rfl rfl (World.news_of_block (heap_alloc_new Z _)) (by simp [Value.oneCell']) (by omega) c63 cby hbase (Z.heap.size + 1) (by simp) ?_
      intro gg cap w1 hown' hgrow hat hlt'
      have hne : ∀ p, p < B0 → some p ≠ v.ownBlock := fun p hp e => by have := own_ge y4 e.symm; omega
      have B5 := (ex_trans B3 XL).grown hgrow (ex_trans B3 XL).size (fun b hb => by have := own_ge y4 hb; omega)
      have p2 := (q2.below XL l2).grown hgrow (hne _ hbs)
      have t3 : w1.cell? ⟨p0 + 1 + 1, 3, none⟩ = some v := p2.cell 3
      have ff2 := p2.frozen0
      have lp2 := p2.lt
      have p2s := p2.set_ 3 (.slice (some ⟨gg, 0, none⟩) (L.length + 1) cap)
      simp only [List.setIfInBounds_toArray, List.set_cons_zero, List.set_cons_succ] at p2s
      have p0' := ((q0.below XL q0.lt).grown hgrow (hne _ (by omega))).far (p := ⟨p0 + 1 + 1, 3, none⟩) (by show p0 ≠ p0 + 1 + 1; omega) (.slice (some ⟨gg, 0, none⟩) (L.length + 1) cap)
      have p1' := ((q1.below XL q1.lt).grown hgrow (hne _ (by omega))).far (p := ⟨p0 + 1 + 1, 3, none⟩) (by show p0 + 1 ≠ p0 + 1 + 1; omega) (.slice (some ⟨gg, 0, none⟩) (L.length + 1) cap)
      have own8 := own_far (own_push (f := cWg) (x := (⟨(r : Int), (d : Int), ⟨glo, ghi⟩⟩ : Wg)) rfl hown') (p := ⟨p0 + 1 + 1, 3, none⟩) (by show p0 + 1 + 1 < B0; omega) (.slice (some ⟨gg, 0, none⟩) (L.length + 1) cap)
      have B8 := ex_set B5 (p := ⟨p0 + 1 + 1, 3, none⟩) (by show w.heap.size ≤ p0 + 1 + 1; omega) (.slice (some ⟨gg, 0, none⟩) (L.length + 1) cap)
      have hz8 : B0 ≤ (w1.setCell ⟨p0 + 1 + 1, 3, none⟩ (.slice (some ⟨gg, 0, none⟩) (L.length + 1) cap)).heap.size := by have := hgrow.size; have := XL.size; simp; omega
      have HL2 : Hid (WgTo s S m (L ++ [(⟨(r : Int), (d : Int), ⟨glo, ghi⟩⟩ : Wg)]) (i + 1)) := Lib.hid (HL.out.snoc HE.out.1.symm HE.out.2.symm (fun h => by rw [HE.out.1, HE.out.2]; exact HG.out h))
      clear hown' hgrow hat hlt' y4 XL hown s3 m0 m1 m2 m3 lm l2 ff q0 q1 q2 p2 hne
      go_wp2_with fail
      refine ⟨⟨⟨i + 1, by omega, B8, hz8, p0', p1', _, _, p2s, own8, HL2, exFrame (by kernel_rfl)⟩⟩, ?_⟩
      show s.wgs.length - (intOf (.int .i64 ((i : Int) + 1))).toNat < s.wgs.length - (intOf (.int .i64 (i : Int))).toNat
      simp [intOf]
      omega
    · have hk5 : 0 ≤ kw % 5 ∧ kw % 5 < 5 := ⟨Int.emod_nonneg _ (by omega), Int.emod_lt_of_pos _ (by omega)⟩
      have hk8 : 0 ≤ kw / 8 % 5 ∧ kw / 8 % 5 < 5 := ⟨Int.emod_nonneg _ (by omega), Int.emod_lt_of_pos _ (by omega)⟩
      have hk4 : 0 ≤ kw / 64 % 40 ∧ kw / 64 % 40 < 40 := ⟨Int.emod_nonneg _ (by omega), Int.emod_lt_of_pos _ (by omega)⟩
      have m0 : Y.cell? ⟨pm, 0, none⟩ = some (.int .i64 (r : Int)) := qm.cell 0
      have m1 : Y.cell? ⟨pm, 1, none⟩ = some (.int .i64 (d : Int)) := qm.cell 1
      have m2 : Y.cell? ⟨pm, 2, none⟩ = some (.int .i64 e2) := qm.cell 2
      have m3 : Y.cell? ⟨pm, 3, none⟩ = some (.int .i64 e3) := qm.cell 3
      have lm := qm.lt
      have fm := qm.frozen0
      have qs := (qm.set_ 2 (.int .i64 (max 0 (sv + (7 + kw / 64 % 40) - kw % 5)))).set_ 3 (.int .i64 (sv + (7 + kw / 64 % 40) + kw / 8 % 5))
      simp only [List.setIfInBounds_toArray, List.set_cons_zero, List.set_cons_succ] at qs
      have hF : Fr (fun b => b = pm) Y ((Y.setCell ⟨pm, 2, none⟩ (.int .i64 (max 0 (sv + (7 + kw / 64 % 40) - kw % 5)))).setCell ⟨pm, 3, none⟩ (.int .i64 (sv + (7 + kw / 64 % 40) + kw / 8 % 5))) := ((Fr.refl (fun b => b = pm) Y).andSet rfl).andSet rfl
      have B3 := hF.toBelow B2 B2.size (fun x hx => by omega)
      replace q0 := q0.fr hF (by omega)
      replace q1 := q1.fr hF (by omega)
      replace q2 := q2.fr hF (by omega)
      replace hown := own_fr hown hF (fun b hb e => hdis (e ▸ hb))
      have hszZ := hF.size
      go_upto_region 11 with fail
      generalize (Y.setCell ⟨pm, 2, none⟩ (.int .i64 (max 0 (sv + (7 + kw / 64 % 40) - kw % 5)))).setCell ⟨pm, 3, none⟩ (.int .i64 (sv + (7 + kw / 64 % 40) + kw / 8 % 5)) = Z at *
      have HG : Hid (m / 2 ^ i % 2 = 0 → inR (S r d) ⟨max 0 (sv + (7 + kw / 64 % 40) - kw % 5), sv + (7 + kw / 64 % 40) + kw / 8 % 5⟩) := Lib.hid (fun h0 => by have := of_decide_eq_true HTB.out; omega)
      generalize max 0 (sv + (7 + kw / 64 % 40) - kw % 5) = glo at *
      generalize sv + (7 + kw / 64 % 40) + kw / 8 % 5 = ghi at *
      clear m0 m1 m2 m3 lm fm hF qm hk5 hk8 hsb hk4 t1
      have s3 : Z.cell? ⟨p0 + 1 + 1, 3, none⟩ = some v := q2.cell 3
      have m0 : Z.cell? ⟨pm, 0, none⟩ = some (.int .i64 (r : Int)) := qs.cell 0
      have m1 : Z.cell? ⟨pm, 1, none⟩ = some (.int .i64 (d : Int)) := qs.cell 1
      have m2 : Z.cell? ⟨pm, 2, none⟩ = some (.int .i64 glo) := qs.cell 2
      have m3 : Z.cell? ⟨pm, 3, none⟩ = some (.int .i64 ghi) := qs.cell 3
      have lm := qs.lt
      have l2 := q2.lt
      have ff := q2.frozen0
      have XL := ex_alloc (Below.refl Z.heap.size Z) (.cells #[.int .i64 (r : Int), .int .i64 (d : Int), .int .i64 glo, .int .i64 ghi] 72)
      have y4 := own_below hown XL
      have c63 : L.length + 1 ≤ maxLen := by rw [HLL.out]; unfold maxLen; omega
      have cby : (L.length + 1) * 32 ≤ 140737488355328 := by rw [HLL.out]; omega
      have hbase : B0 ≤ (Z.alloc (.cells #[.int .i64 (r : Int), .int .i64 (d : Int), .int .i64 glo, .int .i64 ghi] 72)).heap.size := by have := XL.size; omega
      go_wp2_with (refine pause_at 69 rfl ?_)
      refine Paused.mk ?_
      refine wpList_append_lies _ rfl _ _ _ rfl B0 72 i2 _ 4 32 Try.underlying24 HI.out hz0 hz1 hz2 rfl (by omega) v _ _ rfl y4 ⟨Z.heap.size, 0, none⟩ 1 1 [.int .i64 (r : Int), .int .i64 (d : Int), .int .i64 glo, .int .i64 ghi] rfl rfl (World.news_of_block (heap_alloc_new Z _)) (by simp [Value.oneCell']) (by omega) c63 cby hbase (Z.heap.size + 1) (by simp) ?_
      intro gg cap w1 hown' hgrow hat hlt'
      have hne : ∀ p, p < B0 → some p ≠ v.ownBlock := fun p hp e => by have := own_ge y4 e.symm; omega
      have B5 := (ex_trans B3 XL).grown hgrow (ex_trans B3 XL).size (fun b hb => by have := own_ge y4 hb; omega)
      have p2 := (q2.below XL l2).grown hgrow (hne _ hbs)
      have t3 : w1.cell? ⟨p0 + 1 + 1, 3, none⟩ = some v := p2.cell 3
      have ff2 := p2.frozen0
      have lp2 := p2.lt
      have p2s := p2.set_ 3 (.slice (some ⟨gg, 0, none⟩) (L.length + 1) cap)
      simp only [List.setIfInBounds_toArray, List.set_cons_zero, List.set_cons_succ] at p2s
      have p0' := ((q0.below XL q0.lt).grown hgrow (hne _ (by omega))).far (p := ⟨p0 + 1 + 1, 3, none⟩) (by show p0 ≠ p0 + 1 + 1; omega) (.slice (some ⟨gg, 0, none⟩) (L.length + 1) cap)
      have p1' := ((q1.below XL q1.lt).grown hgrow (hne _ (by omega))).far (p := ⟨p0 + 1 + 1, 3, none⟩) (by show p0 + 1 ≠ p0 + 1 + 1; omega) (.slice (some ⟨gg, 0, none⟩) (L.length + 1) cap)
      have own8 := own_far (own_push (f := cWg) (x := (⟨(r : Int), (d : Int), ⟨glo, ghi⟩⟩ : Wg)) rfl hown') (p := ⟨p0 + 1 + 1, 3, none⟩) (by show p0 + 1 + 1 < B0; omega) (.slice (some ⟨gg, 0, none⟩) (L.length + 1) cap)
      have B8 := ex_set B5 (p := ⟨p0 + 1 + 1, 3, none⟩) (by show w.heap.size ≤ p0 + 1 + 1; omega) (.slice (some ⟨gg, 0, none⟩) (L.length + 1) cap)
      have hz8 : B0 ≤ (w1.setCell ⟨p0 + 1 + 1, 3, none⟩ (.slice (some ⟨gg, 0, none⟩) (L.length + 1) cap)).heap.size := by have := hgrow.size; have := XL.size; simp; omega
      have HL2 : Hid (WgTo s S m (L ++ [(⟨(r : Int), (d : Int), ⟨glo, ghi⟩⟩ : Wg)]) (i + 1)) := Lib.hid (HL.out.snoc HE.out.1.symm HE.out.2.symm (fun h => by rw [HE.out.1, HE.out.2]; exact HG.out h))
      clear hown' hgrow hat hlt' y4 XL hown s3 m0 m1 m2 m3 lm l2 ff q0 q1 q2 p2 hne
      go_wp2_with fail
      refine ⟨⟨⟨i + 1, by omega, B8, hz8, p0', p1', _, _, p2s, own8, HL2, exFrame (by kernel_rfl)⟩⟩, ?_⟩
      show s.wgs.length - (intOf (.int .i64 ((i : Int) + 1))).toNat < s.wgs.length - (intOf (.int .i64 (i : Int))).toNat
      simp [intOf]
      omega
  · obtain rfl : i = s.wgs.length := by omega
    obtain ⟨A, cA, rfl, _, _, ro⟩ := lay_Wg 72 hown
    have b0 : W.cell? ⟨p0 + 1 + 1, 0, none⟩ = some (.slice Ar s.rooms.length cr) := q2.cell 0
    have b1 : W.cell? ⟨p0 + 1 + 1, 1, none⟩ = some (.int .i64 s.days) := q2.cell 1
    have b2 : W.cell? ⟨p0 + 1 + 1, 2, none⟩ = some (.slice Am s.moves.length cm) := q2.cell 2
    have b3 : W.cell? ⟨p0 + 1 + 1, 3, none⟩ = some (.slice A L.length cA) := q2.cell 3
    have z0 : W.cell? ⟨p0 + 1, 0, none⟩ = some (.slice none 0 0) := q1.cell 0
    have z1 : W.cell? ⟨p0 + 1, 1, none⟩ = some (.int .i64 0) := q1.cell 1
    have z2 : W.cell? ⟨p0 + 1, 2, none⟩ = some (.slice none 0 0) := q1.cell 2
    have z3 : W.cell? ⟨p0 + 1, 3, none⟩ = some (.slice none 0 0) := q1.cell 3
    have l1q := q1.lt
    have l2q := q2.lt
    have ff := q1.frozen0
    have qz := (((q1.set_ 0 (.slice Ar s.rooms.length cr)).set_ 1 (.int .i64 s.days)).set_ 2 (.slice Am s.moves.length cm)).set_ 3 (.slice A L.length cA)
    simp only [List.setIfInBounds_toArray, List.set_cons_zero, List.set_cons_succ] at qz
    have frz : Fr (fun b => b = p0 + 1) W ((((W.setCell ⟨p0 + 1, 0, none⟩ (.slice Ar s.rooms.length cr)).setCell ⟨p0 + 1, 1, none⟩ (.int .i64 s.days)).setCell ⟨p0 + 1, 2, none⟩ (.slice Am s.moves.length cm)).setCell ⟨p0 + 1, 3, none⟩ (.slice A L.length cA)) := ((((Fr.refl (fun b => b = p0 + 1) W).andSet rfl).andSet rfl).andSet rfl).andSet rfl
    have Bz := frz.toBelow hb hb.size (fun x hx => by omega)
    have hsl := Lib.hid ((ro.fr frz (fun g hg _ e => by omega)).base (B' := w.heap.size) (by omega))
    clear frz ro hown hsz
    go_wp2
    refine bodyPost_ret (results_cell_row rfl _ _ (p0 + 1) 26 _ (0, 0) _ rfl qz rfl rfl rfl) rfl ?_
    exact ⟨⟨⟨L, A, cA, rfl, HL.out, hsl.out⟩⟩, Bz⟩
end Go.Proofs.Ythihdiilokdidaa
end

section
namespace Go.Proofs.Ythihdiilokdidaa
theorem shortB_iff {L : List (List Int)} : shortB L = true ↔ L.length ≤ 9 ∧ ∀ k, k < L.length → (gL L k).length ≤ 9 := by
  unfold shortB
  rw [Bool.and_eq_true, decide_eq_true_eq, allTo_iff]
  constructor
  · rintro ⟨a, b⟩; exact ⟨a, fun k hk => of_decide_eq_true (b k hk)⟩
  · rintro ⟨a, b⟩; exact ⟨a, fun k hk => decide_eq_true (b k hk)⟩
structure Thn (s : Ws) (t : Tt) : Prop where
  nr : s.rooms.length ≤ 6
  nm : s.moves.length ≤ 15
  nw : s.wgs.length ≤ 11
  nf : t.fs.length ≤ 9
  ng : t.gs.length ≤ 18
  nv : t.vs.length ≤ 9
  row : ∀ k, k < t.vs.length → (gL t.vs k).length ≤ 9
theorem thinB_iff {s : Ws} {t : Tt} : thinB s t = true ↔ Thn s t := by
  unfold thinB
  simp only [Bool.and_eq_true, decide_eq_true_eq, shortB_iff]
  constructor
  · rintro ⟨a, b, c, d, e, f, g⟩; exact ⟨a, b, c, d, e, f, g⟩
  · intro h; exact ⟨h.nr, h.nm, h.nw, h.nf, h.ng, h.nv, h.row⟩
end Go.Proofs.Ythihdiilokdidaa
end

section
namespace Go.Proofs.Ythihdiilokdidaa
open Go.RowKit
attribute [local go_sem] Ex.cell? Ex.frozen? Fx.cell?

theorem wp_region_fx_mix {P : Program} {Q : Exit → Act → World → Prop} {id : Nat} {a : Act} {w : World} {l : List Oper} (R : Nat → Prop) (n : Nat) (ks : List (Bool × Nat)) (hm : P.follows .mixedOrders = true)
    (hB : (mixedB .any l.toArray n ks && decide (ks.length = n)) = true) (hQ : ∀ d v c a w, Q (.panic c) (a.put d v) w → Q (.panic c) a w)
    (h : wpMix P l Q (fun w' => ∃ x : Fx w R, w' = x.W) n ks a w.drew) : (Code.region id l.toArray true).wp P Q a w :=
  wp_region_mixed_tail n ks _ hm hB hQ (inFx (Fr.refl R w).drew) h
theorem results_cctt_row {P : Program} {fn : Func} {p q x y : Tmp} {ty tz : TypeId} (h : fn.results = #[.cell p ty, .cell q tz, .tmp x, .tmp y]) (tmps : Array Value) (w : World) (g g' : Nat) (ty' tz' : TypeId) (cs cs' : Array Value) (fr fr' : Nat × Nat) (d d' : TypeDesc)
    (hp : tmps.getD p undef = .pointer (some ⟨g, 0, none⟩)) (hg : w.heap[g]? = some (.cells cs ty' fr)) (hq : tmps.getD q undef = .pointer (some ⟨g', 0, none⟩)) (hg' : w.heap[g']? = some (.cells cs' tz' fr'))
    (hu : P.underlying ty = some d) (hd : (match d with | .struct _ | .array _ _ => true | _ => false) = true) (hi : (P.info? ty).map (·.size) = some cs.size)
    (hu' : P.underlying tz = some d') (hd' : (match d' with | .struct _ | .array _ _ => true | _ => false) = true) (hi' : (P.info? tz).map (·.size) = some cs'.size) :
    (results fn tmps).run P w = .ok (.tuple #[.agg cs, .agg cs', tmps.getD x undef, tmps.getD y undef]) w := by
  have hp' : tmps[p]?.getD undef = .pointer (some ⟨g, 0, none⟩) := by simpa using hp
  have hq' : tmps[q]?.getD undef = .pointer (some ⟨g', 0, none⟩) := by simpa using hq
  simp [results, h, hp', hq', asAddr, run_loadVar_row w g ty' ty cs fr d hg hu hd hi, run_loadVar_row w g' tz' tz cs' fr' d' hg' hu' hd' hi']
/-- a works with other weighings. -/
abbrev Ws.wg (s : Ws) (L : List Wg) : Ws := ⟨s.rooms, s.days, s.moves, L⟩
/-- a works with weighings made anew, true of a truth but for those of bits. -/
structure LivX (s : Ws) (m : Nat) (t : Tt) (L : List Wg) : Prop where
  thn : Thn s ⟨[], [], []⟩
  ck : ckWs s = 0
  tru : truT s t = true
  can : canT s t = true
  wg : WgTo s (stk s.wo t.F t.V t.G) m L s.wgs.length
  ckx : ckWs (s.wg L) = 0
/-- what lives tells. -/
structure LivV (s : Ws) (m : Nat) (Ar Am : Option Addr) (cr cm : Nat) (w' : World) (e : Ending) : Prop where
  out : (∃ A1 A2 A3 A4 A5 A6 A7 c1 c2 c3 c4 c5 c6 c7, ∃ n1 n2 n3 n4 n5 n6 n7 : Nat, ∃ d : Int, e = .returned (.tuple #[.agg #[.slice A1 n1 c1, .int .i64 d, .slice A2 n2 c2, .slice A3 n3 c3], .agg #[.slice A4 n4 c4, .slice A5 n5 c5, .slice A6 n6 c6], .slice A7 n7 c7, .bool false])) ∨
    ∃ t : Tt, ∃ L : List Wg, ∃ A3 A4 A5 A6 A7 c3 c4 c5 c6 c7 rV rcV rA rc, e = .returned (.tuple #[.agg #[.slice Ar s.rooms.length cr, .int .i64 s.days, .slice Am s.moves.length cm, .slice A3 L.length c3], .agg #[.slice A4 t.fs.length c4, .slice A5 t.vs.length c5, .slice A6 t.gs.length c6], .slice A7 s.rooms.length c7, .bool true]) ∧
      LivX s m t L ∧ SlAt w' w'.heap.size 4 A3 L.length (fWg L) ∧ TtIn w' w'.heap.size t A4 A5 A6 rV rcV ∧ MatIn w' w'.heap.size A7 s.rooms.length s.wo.days (stk s.wo t.F t.V t.G) rA rc
set_option maxRecDepth 100000 in
set_option maxHeartbeats 6400000 in
theorem lives_any (s : Ws) (Ar Am Aw : Option Addr) (cr cm cw : Nat) (w : World) (hs : WsIn w w.heap.size s Ar Am Aw) (AW : Option Addr) (cW : Nat) (ws : List Int) (hwd : SlAt w w.heap.size 1 AW ws.length (fU ws)) (hwb : ∀ k, k < ws.length → 0 ≤ gI ws k ∧ gI ws k ≤ 65535) (hwl : ws.length ≤ maxLen) (m : Nat) (hm : (m : Int) ≤ 255) :
    Calls Try.prog 32 #[.agg #[.slice Ar s.rooms.length cr, .int .i64 s.days, .slice Am s.moves.length cm, .slice Aw s.wgs.length cw], .slice AW ws.length cW, .int .u8 (m : Int)] w fun e w' => LivV s m Ar Am cr cm w' e ∧ Below w.heap.size w w' := by
  have HWB := Lib.hid hwb
  clear hwb
  have hb1 := ex_alloc (ex_alloc (ex_alloc (Below.refl w.heap.size w) (.cells #[.slice Ar s.rooms.length cr, .int .i64 s.days, .slice Am s.moves.length cm, .slice Aw s.wgs.length cw] 26)) (.cells #[.slice none 0 0, .int .i64 0, .slice none 0 0, .slice none 0 0] 26)) (.cells #[.slice none 0 0, .slice none 0 0, .slice none 0 0] 31)
  have q0 : Blk (((w.alloc (.cells #[.slice Ar s.rooms.length cr, .int .i64 s.days, .slice Am s.moves.length cm, .slice Aw s.wgs.length cw] 26)).alloc (.cells #[.slice none 0 0, .int .i64 0, .slice none 0 0, .slice none 0 0] 26)).alloc (.cells #[.slice none 0 0, .slice none 0 0, .slice none 0 0] 31)) w.heap.size 26 #[.slice Ar s.rooms.length cr, .int .i64 s.days, .slice Am s.moves.length cm, .slice Aw s.wgs.length cw] := ((Blk.new _ _ _).alloc _).alloc _
  have q1 : Blk (((w.alloc (.cells #[.slice Ar s.rooms.length cr, .int .i64 s.days, .slice Am s.moves.length cm, .slice Aw s.wgs.length cw] 26)).alloc (.cells #[.slice none 0 0, .int .i64 0, .slice none 0 0, .slice none 0 0] 26)).alloc (.cells #[.slice none 0 0, .slice none 0 0, .slice none 0 0] 31)) (w.heap.size + 1) 26 #[.slice none 0 0, .int .i64 0, .slice none 0 0, .slice none 0 0] := (Blk.new' _ _ _ (by simp)).alloc _
  have q2 : Blk (((w.alloc (.cells #[.slice Ar s.rooms.length cr, .int .i64 s.days, .slice Am s.moves.length cm, .slice Aw s.wgs.length cw] 26)).alloc (.cells #[.slice none 0 0, .int .i64 0, .slice none 0 0, .slice none 0 0] 26)).alloc (.cells #[.slice none 0 0, .slice none 0 0, .slice none 0 0] 31)) (w.heap.size + 1 + 1) 31 #[.slice none 0 0, .slice none 0 0, .slice none 0 0] := Blk.new' _ _ _ (by simp)
  replace hs := hs.go hb1
  replace hwd := (hwd.below hb1).up hb1.size
  go_enter Try.func32, Try.ntmps32
  go_upto_region 1 with fail
  show Code.wp _ _ _ _ (((w.alloc (.cells #[.slice Ar s.rooms.length cr, .int .i64 s.days, .slice Am s.moves.length cm, .slice Aw s.wgs.length cw] 26)).alloc (.cells #[.slice none 0 0, .int .i64 0, .slice none 0 0, .slice none 0 0] 26)).alloc (.cells #[.slice none 0 0, .slice none 0 0, .slice none 0 0] 31))
  generalize ((w.alloc (.cells #[.slice Ar s.rooms.length cr, .int .i64 s.days, .slice Am s.moves.length cm, .slice Aw s.wgs.length cw] 26)).alloc (.cells #[.slice none 0 0, .int .i64 0, .slice none 0 0, .slice none 0 0] 26)).alloc (.cells #[.slice none 0 0, .slice none 0 0, .slice none 0 0] 31) = V at *
  have a0 : V.cell? ⟨w.heap.size, 0, none⟩ = some (.slice Ar s.rooms.length cr) := q0.cell 0
  have a1 : V.cell? ⟨w.heap.size, 1, none⟩ = some (.int .i64 s.days) := q0.cell 1
  have a2 : V.cell? ⟨w.heap.size, 2, none⟩ = some (.slice Am s.moves.length cm) := q0.cell 2
  have a3 : V.cell? ⟨w.heap.size, 3, none⟩ = some (.slice Aw s.wgs.length cw) := q0.cell 3
  have l0 := q0.lt
  go_wp2_with fail
  refine (Thin_any s Ar Am Aw cr cm cw V hs ⟨[], [], []⟩ none none none 0 0 0 (fun _ => none) (fun _ => 0) ⟨fun h => absurd h (by simp), fun h => absurd h (by simp), fun k h => absurd h (by simp), fun h => absurd h (by simp)⟩).mono ?_
  rintro e V1 ⟨rfl, hV1⟩
  replace q0 := q0.below hV1 q0.lt
  replace q1 := q1.below hV1 q1.lt
  replace q2 := q2.below hV1 q2.lt
  replace hs := hs.go hV1
  replace hwd := (hwd.below hV1).up hV1.size
  have B_V1 := ex_trans hb1 hV1
  clear a0 a1 a2 a3 l0
  have a0 : V1.cell? ⟨w.heap.size, 0, none⟩ = some (.slice Ar s.rooms.length cr) := q0.cell 0
  have a1 : V1.cell? ⟨w.heap.size, 1, none⟩ = some (.int .i64 s.days) := q0.cell 1
  have a2 : V1.cell? ⟨w.heap.size, 2, none⟩ = some (.slice Am s.moves.length cm) := q0.cell 2
  have a3 : V1.cell? ⟨w.heap.size, 3, none⟩ = some (.slice Aw s.wgs.length cw) := q0.cell 3
  have l0 := q0.lt
  cases hth : thinB s ⟨[], [], []⟩
  · clear hth
    have z0 : V1.cell? ⟨w.heap.size + 1, 0, none⟩ = some (.slice none 0 0) := q1.cell 0
    have z1 : V1.cell? ⟨w.heap.size + 1, 1, none⟩ = some (.int .i64 0) := q1.cell 1
    have z2 : V1.cell? ⟨w.heap.size + 1, 2, none⟩ = some (.slice none 0 0) := q1.cell 2
    have z3 : V1.cell? ⟨w.heap.size + 1, 3, none⟩ = some (.slice none 0 0) := q1.cell 3
    have y0 : V1.cell? ⟨w.heap.size + 1 + 1, 0, none⟩ = some (.slice none 0 0) := q2.cell 0
    have y1 : V1.cell? ⟨w.heap.size + 1 + 1, 1, none⟩ = some (.slice none 0 0) := q2.cell 1
    have y2 : V1.cell? ⟨w.heap.size + 1 + 1, 2, none⟩ = some (.slice none 0 0) := q2.cell 2
    have l1 := q1.lt
    have l2 := q2.lt
    have f1 := q1.frozen0
    have f2 := q2.frozen0
    go_upto_region 2 with fail
    have hF : Fr (fun b => b = w.heap.size + 1 ∨ b = w.heap.size + 1 + 1) V1 (((((((V1.setCell ⟨w.heap.size + 1, 0, none⟩ (.slice Ar s.rooms.length cr)).setCell ⟨w.heap.size + 1, 1, none⟩ (.int .i64 s.days)).setCell ⟨w.heap.size + 1, 2, none⟩ (.slice Am s.moves.length cm)).setCell ⟨w.heap.size + 1, 3, none⟩ (.slice Aw s.wgs.length cw)).setCell ⟨w.heap.size + 1 + 1, 0, none⟩ (.slice none 0 0)).setCell ⟨w.heap.size + 1 + 1, 1, none⟩ (.slice none 0 0)).setCell ⟨w.heap.size + 1 + 1, 2, none⟩ (.slice none 0 0)) := (((((((Fr.refl (fun b => b = w.heap.size + 1 ∨ b = w.heap.size + 1 + 1) V1).andSet (.inl rfl)).andSet (.inl rfl)).andSet (.inl rfl)).andSet (.inl rfl)).andSet (.inr rfl)).andSet (.inr rfl)).andSet (.inr rfl)
    have Bz := hF.toBelow B_V1 B_V1.size (fun x hx => by omega)
    have p1 := ((((((q1.set_ 0 (.slice Ar s.rooms.length cr)).set_ 1 (.int .i64 s.days)).set_ 2 (.slice Am s.moves.length cm)).set_ 3 (.slice Aw s.wgs.length cw)).far (p := ⟨w.heap.size + 1 + 1, 0, none⟩) (by show w.heap.size + 1 ≠ w.heap.size + 1 + 1; omega) (.slice none 0 0)).far (p := ⟨w.heap.size + 1 + 1, 1, none⟩) (by show w.heap.size + 1 ≠ w.heap.size + 1 + 1; omega) (.slice none 0 0)).far (p := ⟨w.heap.size + 1 + 1, 2, none⟩) (by show w.heap.size + 1 ≠ w.heap.size + 1 + 1; omega) (.slice none 0 0)
    have p2 := ((((((q2.far (p := ⟨w.heap.size + 1, 0, none⟩) (by show w.heap.size + 1 + 1 ≠ w.heap.size + 1; omega) (.slice Ar s.rooms.length cr)).far (p := ⟨w.heap.size + 1, 1, none⟩) (by show w.heap.size + 1 + 1 ≠ w.heap.size + 1; omega) (.int .i64 s.days)).far (p := ⟨w.heap.size + 1, 2, none⟩) (by show w.heap.size + 1 + 1 ≠ w.heap.size + 1; omega) (.slice Am s.moves.length cm)).far (p := ⟨w.heap.size + 1, 3, none⟩) (by show w.heap.size + 1 + 1 ≠ w.heap.size + 1; omega) (.slice Aw s.wgs.length cw)).set_ 0 (.slice none 0 0)).set_ 1 (.slice none 0 0)).set_ 2 (.slice none 0 0)
    simp only [List.setIfInBounds_toArray, List.set_cons_zero, List.set_cons_succ] at p1 p2
    go_wp2
    refine bodyPost_ret (results_cctt_row rfl _ _ (w.heap.size + 1) (w.heap.size + 1 + 1) 26 31 _ _ (0, 0) (0, 0) _ _ rfl p1 rfl p2 rfl rfl rfl rfl rfl rfl) rfl ?_
    exact ⟨⟨.inl ⟨_, _, _, _, _, _, _, _, _, _, _, _, _, _, _, _, _, _, _, _, _, _, rfl⟩⟩, Bz⟩
  have HT := Lib.hid (thinB_iff.1 hth)
  clear hth
  go_wp2_with fail
  refine (fault_any s Ar Am Aw cr cm cw V1 hs).mono ?_
  rintro e V2 ⟨rfl, hV2⟩
  replace q0 := q0.below hV2 q0.lt
  replace q1 := q1.below hV2 q1.lt
  replace q2 := q2.below hV2 q2.lt
  replace hs := hs.go hV2
  replace hwd := (hwd.below hV2).up hV2.size
  have B_V2 := ex_trans B_V1 hV2
  clear a0 a1 a2 a3 l0
  have a0 : V2.cell? ⟨w.heap.size, 0, none⟩ = some (.slice Ar s.rooms.length cr) := q0.cell 0
  have a1 : V2.cell? ⟨w.heap.size, 1, none⟩ = some (.int .i64 s.days) := q0.cell 1
  have a2 : V2.cell? ⟨w.heap.size, 2, none⟩ = some (.slice Am s.moves.length cm) := q0.cell 2
  have a3 : V2.cell? ⟨w.heap.size, 3, none⟩ = some (.slice Aw s.wgs.length cw) := q0.cell 3
  have l0 := q0.lt
  by_cases hck : ckWs s = 0
  · obtain ⟨hwo, hdd⟩ := ckWs_iff.1 hck
    have HCK := Lib.hid hck
    rw [hck]
    have HWO := Lib.hid hwo
    have HDD := Lib.hid hdd
    clear hck hwo hdd
    have hbP : w.heap.size + 1 + 1 + 1 ≤ V2.heap.size := by have := q2.lt; omega
    go_wp2_with fail
    refine (Picked_any s Ar Am Aw cr cm cw V2 hs HWO.out HDD.out AW cW ws hwd HWB.out hwl).mono ?_
    rintro e V3 ⟨⟨⟨t, A4, A5, A6, c4, c5, c6, rfl, htr, htt⟩⟩, hV3⟩
    replace q0 := q0.below hV3 q0.lt
    replace q1 := q1.below hV3 q1.lt
    replace q2 := q2.below hV3 q2.lt
    replace hs := hs.go hV3
    replace hwd := (hwd.below hV3).up hV3.size
    have B_V3 := ex_trans B_V2 hV3
    replace htt := htt.base hbP
    have HTR := Lib.hid htr
    clear htr
    clear a0 a1 a2 a3 l0
    have a0 : V3.cell? ⟨w.heap.size, 0, none⟩ = some (.slice Ar s.rooms.length cr) := q0.cell 0
    have a1 : V3.cell? ⟨w.heap.size, 1, none⟩ = some (.int .i64 s.days) := q0.cell 1
    have a2 : V3.cell? ⟨w.heap.size, 2, none⟩ = some (.slice Am s.moves.length cm) := q0.cell 2
    have a3 : V3.cell? ⟨w.heap.size, 3, none⟩ = some (.slice Aw s.wgs.length cw) := q0.cell 3
    have l0 := q0.lt
    have hl2 : w.heap.size + 1 + 1 < V3.heap.size := q2.lt
    have q3 : Blk (V3.alloc (.cells #[.slice A4 t.fs.length c4, .slice A5 t.vs.length c5, .slice A6 t.gs.length c6] 31)) V3.heap.size 31 #[.slice A4 t.fs.length c4, .slice A5 t.vs.length c5, .slice A6 t.gs.length c6] := Blk.new _ _ _
    have N3 := ex_alloc (Below.refl V3.heap.size V3) (.cells #[.slice A4 t.fs.length c4, .slice A5 t.vs.length c5, .slice A6 t.gs.length c6] 31)
    go_upto_region 4 with fail
    clear a0 a1 a2 a3 l0
    replace q0 := q0.below N3 q0.lt
    replace q1 := q1.below N3 q1.lt
    replace q2 := q2.below N3 q2.lt
    replace hs := hs.go N3
    replace hwd := (hwd.below N3).up N3.size
    replace htt := htt.below N3
    have B_V4 := ex_trans B_V3 N3
    obtain ⟨p3, hp3⟩ : ∃ p, V3.heap.size = p := ⟨_, rfl⟩
    have hp3g : Hid (w.heap.size + 1 + 1 < p3) := Lib.hid (by rw [← hp3]; exact hl2)
    rw [hp3] at q3 ⊢
    clear N3 hp3 hl2
    generalize V3.alloc (.cells #[.slice A4 t.fs.length c4, .slice A5 t.vs.length c5, .slice A6 t.gs.length c6] 31) = V4 at *
    have a0 : V4.cell? ⟨w.heap.size, 0, none⟩ = some (.slice Ar s.rooms.length cr) := q0.cell 0
    have a1 : V4.cell? ⟨w.heap.size, 1, none⟩ = some (.int .i64 s.days) := q0.cell 1
    have a2 : V4.cell? ⟨w.heap.size, 2, none⟩ = some (.slice Am s.moves.length cm) := q0.cell 2
    have a3 : V4.cell? ⟨w.heap.size, 3, none⟩ = some (.slice Aw s.wgs.length cw) := q0.cell 3
    have l0 := q0.lt
    have t0 : V4.cell? ⟨p3, 0, none⟩ = some (.slice A4 t.fs.length c4) := q3.cell 0
    have t1 : V4.cell? ⟨p3, 1, none⟩ = some (.slice A5 t.vs.length c5) := q3.cell 1
    have t2 : V4.cell? ⟨p3, 2, none⟩ = some (.slice A6 t.gs.length c6) := q3.cell 2
    have l3 := q3.lt
    obtain ⟨rV, rcV, ht0⟩ := htt.tt
    have hbQ : w.heap.size + 1 + 1 + 1 ≤ V4.heap.size := by have := q2.lt; omega
    go_wp2_with fail
    refine (Play_own s Ar Am Aw cr cm cw V4 hs HWO.out HDD.out t A4 A5 A6 c4 c5 c6 rV rcV ht0 HTR.out).mono ?_
    rintro e V5 ⟨⟨A7, c7, X7, rfl, hmt, hmx⟩, hV5⟩
    replace q0 := q0.below hV5 q0.lt
    replace q1 := q1.below hV5 q1.lt
    replace q2 := q2.below hV5 q2.lt
    replace hs := hs.go hV5
    replace hwd := (hwd.below hV5).up hV5.size
    replace htt := htt.below hV5
    replace q3 := q3.below hV5 q3.lt
    have B_V5 := ex_trans B_V4 hV5
    replace hmt := hmt.base hbQ
    have HMX := Lib.hid hmx
    clear hmx ht0
    clear a0 a1 a2 a3 l0
    have a0 : V5.cell? ⟨w.heap.size, 0, none⟩ = some (.slice Ar s.rooms.length cr) := q0.cell 0
    have a1 : V5.cell? ⟨w.heap.size, 1, none⟩ = some (.int .i64 s.days) := q0.cell 1
    have a2 : V5.cell? ⟨w.heap.size, 2, none⟩ = some (.slice Am s.moves.length cm) := q0.cell 2
    have a3 : V5.cell? ⟨w.heap.size, 3, none⟩ = some (.slice Aw s.wgs.length cw) := q0.cell 3
    have l0 := q0.lt
    clear t0 t1 t2 l3
    have t0 : V5.cell? ⟨p3, 0, none⟩ = some (.slice A4 t.fs.length c4) := q3.cell 0
    have t1 : V5.cell? ⟨p3, 1, none⟩ = some (.slice A5 t.vs.length c5) := q3.cell 1
    have t2 : V5.cell? ⟨p3, 2, none⟩ = some (.slice A6 t.gs.length c6) := q3.cell 2
    have l3 := q3.lt
    cases hcn : canT s t
    · clear hcn
      have z0 : V5.cell? ⟨w.heap.size + 1, 0, none⟩ = some (.slice none 0 0) := q1.cell 0
      have z1 : V5.cell? ⟨w.heap.size + 1, 1, none⟩ = some (.int .i64 0) := q1.cell 1
      have z2 : V5.cell? ⟨w.heap.size + 1, 2, none⟩ = some (.slice none 0 0) := q1.cell 2
      have z3 : V5.cell? ⟨w.heap.size + 1, 3, none⟩ = some (.slice none 0 0) := q1.cell 3
      have y0 : V5.cell? ⟨w.heap.size + 1 + 1, 0, none⟩ = some (.slice none 0 0) := q2.cell 0
      have y1 : V5.cell? ⟨w.heap.size + 1 + 1, 1, none⟩ = some (.slice none 0 0) := q2.cell 1
      have y2 : V5.cell? ⟨w.heap.size + 1 + 1, 2, none⟩ = some (.slice none 0 0) := q2.cell 2
      have l1 := q1.lt
      have l2 := q2.lt
      have f1 := q1.frozen0
      have f2 := q2.frozen0
      have hp3 : w.heap.size + 1 + 1 < p3 := by have := q2.lt; have := q3.lt; have := hp3g.out; omega
      have n5 : ¬ w.heap.size = w.heap.size + 1 := by omega
      have n6 : ¬ w.heap.size = w.heap.size + 1 + 1 := by omega
      have n1 : ¬ p3 = w.heap.size + 1 := by omega
      have n2 : ¬ p3 = w.heap.size + 1 + 1 := by omega
      go_upto_region 6 with fail
      have D6 := (Below.refl V5.heap.size V5).drew
      have F0 : Fr (fun b => b = w.heap.size + 1 ∨ b = w.heap.size + 1 + 1) V5 V5.drew := Fr.below D6
      refine wp_region_fx_mix (fun b => b = w.heap.size + 1 ∨ b = w.heap.size + 1 + 1) 6 [(false, 0), (false, 1), (false, 2), (true, 3), (true, 4), (false, 5)] (by kernel_rfl) (by kernel_rfl) (by intro d _ _ _ _ h; cases d <;> exact h) ?_
      repeat (refine mix_quiet rfl ?_; go_big_quiet_step (fail); refine wpQuiet_nil ?_)
      obtain ⟨Y6, hY⟩ : ∃ Y, V5.drew = Y := ⟨_, rfl⟩
      rw [hY] at D6 F0 ⊢
      clear hY a0 a1 a2 a3 l0 t0 t1 t2 l3 z0 z1 z2 z3 y0 y1 y2 l1 l2 f1 f2
      replace q0 := q0.below D6 q0.lt
      replace q1 := q1.below D6 q1.lt
      replace q2 := q2.below D6 q2.lt
      replace hs := hs.go D6
      replace hwd := (hwd.below D6).up D6.size
      replace htt := htt.below D6
      replace q3 := q3.below D6 q3.lt
      replace hmt := hmt.below D6
      have B_Y6 := ex_trans B_V5 D6
      have z0 : Y6.cell? ⟨w.heap.size + 1, 0, none⟩ = some (.slice none 0 0) := q1.cell 0
      have z1 : Y6.cell? ⟨w.heap.size + 1, 1, none⟩ = some (.int .i64 0) := q1.cell 1
      have z2 : Y6.cell? ⟨w.heap.size + 1, 2, none⟩ = some (.slice none 0 0) := q1.cell 2
      have z3 : Y6.cell? ⟨w.heap.size + 1, 3, none⟩ = some (.slice none 0 0) := q1.cell 3
      have y0 : Y6.cell? ⟨w.heap.size + 1 + 1, 0, none⟩ = some (.slice none 0 0) := q2.cell 0
      have y1 : Y6.cell? ⟨w.heap.size + 1 + 1, 1, none⟩ = some (.slice none 0 0) := q2.cell 1
      have y2 : Y6.cell? ⟨w.heap.size + 1 + 1, 2, none⟩ = some (.slice none 0 0) := q2.cell 2
      have l1 := q1.lt
      have l2 := q2.lt
      have f1 := q1.frozen0
      have f2 := q2.frozen0
      have hF : Fr (fun b => b = w.heap.size + 1 ∨ b = w.heap.size + 1 + 1) Y6 (((((((Y6.setCell ⟨w.heap.size + 1, 0, none⟩ (.slice Ar s.rooms.length cr)).setCell ⟨w.heap.size + 1, 1, none⟩ (.int .i64 s.days)).setCell ⟨w.heap.size + 1, 2, none⟩ (.slice Am s.moves.length cm)).setCell ⟨w.heap.size + 1, 3, none⟩ (.slice Aw s.wgs.length cw)).setCell ⟨w.heap.size + 1 + 1, 0, none⟩ (.slice A4 t.fs.length c4)).setCell ⟨w.heap.size + 1 + 1, 1, none⟩ (.slice A5 t.vs.length c5)).setCell ⟨w.heap.size + 1 + 1, 2, none⟩ (.slice A6 t.gs.length c6)) := (((((((Fr.refl (fun b => b = w.heap.size + 1 ∨ b = w.heap.size + 1 + 1) Y6).andSet (.inl rfl)).andSet (.inl rfl)).andSet (.inl rfl)).andSet (.inl rfl)).andSet (.inr rfl)).andSet (.inr rfl)).andSet (.inr rfl)
      have Bz := hF.toBelow B_Y6 B_Y6.size (fun x hx => by omega)
      have p1 := ((((((q1.set_ 0 (.slice Ar s.rooms.length cr)).set_ 1 (.int .i64 s.days)).set_ 2 (.slice Am s.moves.length cm)).set_ 3 (.slice Aw s.wgs.length cw)).far (p := ⟨w.heap.size + 1 + 1, 0, none⟩) (by show w.heap.size + 1 ≠ w.heap.size + 1 + 1; omega) (.slice A4 t.fs.length c4)).far (p := ⟨w.heap.size + 1 + 1, 1, none⟩) (by show w.heap.size + 1 ≠ w.heap.size + 1 + 1; omega) (.slice A5 t.vs.length c5)).far (p := ⟨w.heap.size + 1 + 1, 2, none⟩) (by show w.heap.size + 1 ≠ w.heap.size + 1 + 1; omega) (.slice A6 t.gs.length c6)
      have p2 := ((((((q2.far (p := ⟨w.heap.size + 1, 0, none⟩) (by show w.heap.size + 1 + 1 ≠ w.heap.size + 1; omega) (.slice Ar s.rooms.length cr)).far (p := ⟨w.heap.size + 1, 1, none⟩) (by show w.heap.size + 1 + 1 ≠ w.heap.size + 1; omega) (.int .i64 s.days)).far (p := ⟨w.heap.size + 1, 2, none⟩) (by show w.heap.size + 1 + 1 ≠ w.heap.size + 1; omega) (.slice Am s.moves.length cm)).far (p := ⟨w.heap.size + 1, 3, none⟩) (by show w.heap.size + 1 + 1 ≠ w.heap.size + 1; omega) (.slice Aw s.wgs.length cw)).set_ 0 (.slice A4 t.fs.length c4)).set_ 1 (.slice A5 t.vs.length c5)).set_ 2 (.slice A6 t.gs.length c6)
      simp only [List.setIfInBounds_toArray, List.set_cons_zero, List.set_cons_succ] at p1 p2
      have F3 : Fr (fun b => b = w.heap.size + 1 ∨ b = w.heap.size + 1 + 1) V5 ((((Y6.setCell ⟨w.heap.size + 1, 0, none⟩ (.slice Ar s.rooms.length cr)).setCell ⟨w.heap.size + 1, 1, none⟩ (.int .i64 s.days)).setCell ⟨w.heap.size + 1, 2, none⟩ (.slice Am s.moves.length cm)).setCell ⟨w.heap.size + 1, 3, none⟩ (.slice Aw s.wgs.length cw)) := ((((F0).andSet (.inl rfl)).andSet (.inl rfl)).andSet (.inl rfl)).andSet (.inl rfl)
      have F4 : Fr (fun b => b = w.heap.size + 1 ∨ b = w.heap.size + 1 + 1) V5 (((((((Y6.setCell ⟨w.heap.size + 1, 0, none⟩ (.slice Ar s.rooms.length cr)).setCell ⟨w.heap.size + 1, 1, none⟩ (.int .i64 s.days)).setCell ⟨w.heap.size + 1, 2, none⟩ (.slice Am s.moves.length cm)).setCell ⟨w.heap.size + 1, 3, none⟩ (.slice Aw s.wgs.length cw)).setCell ⟨w.heap.size + 1 + 1, 0, none⟩ (.slice A4 t.fs.length c4)).setCell ⟨w.heap.size + 1 + 1, 1, none⟩ (.slice A5 t.vs.length c5)).setCell ⟨w.heap.size + 1 + 1, 2, none⟩ (.slice A6 t.gs.length c6)) := ((F3.andSet (.inr rfl)).andSet (.inr rfl)).andSet (.inr rfl)
      refine mix_loud rfl ?_
      go_wp2_with fail
      refine ⟨inFx F3, ?_⟩
      repeat (refine mix_quiet rfl ?_; go_big_quiet_step (fail); refine wpQuiet_nil ?_)
      refine mix_loud rfl ?_
      go_wp2_with fail
      refine ⟨inFx F4, ?_⟩
      repeat (refine mix_quiet rfl ?_; go_big_quiet_step (fail); refine wpQuiet_nil ?_)
      refine mix_nil (r := [_]) rfl ?_
      go_wp2
      refine bodyPost_ret (results_cctt_row rfl _ _ (w.heap.size + 1) (w.heap.size + 1 + 1) 26 31 _ _ (0, 0) (0, 0) _ _ rfl p1 rfl p2 rfl rfl rfl rfl rfl rfl) rfl ?_
      exact ⟨⟨.inl ⟨_, _, _, _, _, _, _, _, _, _, _, _, _, _, _, _, _, _, _, _, _, _, rfl⟩⟩, Bz⟩
    · have HCN := Lib.hid hcn
      clear hcn
      have hbS : ∀ r d, r < s.rooms.length → d < s.wo.days → 0 ≤ stk s.wo t.F t.V t.G r d ∧ stk s.wo t.F t.V t.G r d ≤ 1000000 := fun r d hr hd => ⟨canT_iff.1 HCN.out r d hr hd, by
        have h1 := stk_le HWO.out ((truT_iff HDD.out).1 HTR.out).2.2 (r := r) hr d hd
        have h2 := HWO.out.days.2
        omega⟩
      have HBS := Lib.hid hbS
      clear hbS
      skip
      obtain ⟨A7', c7', rA, rc, e7, hm7⟩ := IOwn.lays hmt HMX.out
      injection e7 with e71 _ e72
      subst e71 e72
      have hbR : w.heap.size + 1 + 1 + 1 ≤ V5.heap.size := by have := q2.lt; omega
      go_wp2_with fail
      refine (Weighed_any s Ar Am Aw cr cm cw V5 hs HWO.out (stk s.wo t.F t.V t.G) A7 c7 rA rc hm7 HBS.out AW cW ws hwd HWB.out hwl m hm).mono ?_
      rintro e V6 ⟨⟨⟨L, A3, c3, rfl, hwg, hsl⟩⟩, hV6⟩
      replace q0 := q0.below hV6 q0.lt
      replace q1 := q1.below hV6 q1.lt
      replace q2 := q2.below hV6 q2.lt
      replace hs := hs.go hV6
      replace hwd := (hwd.below hV6).up hV6.size
      replace htt := htt.below hV6
      replace q3 := q3.below hV6 q3.lt
      replace hmt := hmt.below hV6
      have B_V6 := ex_trans B_V5 hV6
      replace hsl := hsl.base hbR
      have HWG := Lib.hid hwg
      clear hwg hm7
      have hl2 : w.heap.size + 1 + 1 < V6.heap.size := q2.lt
      have q4 : Blk (V6.alloc (.cells #[.slice Ar s.rooms.length cr, .int .i64 s.days, .slice Am s.moves.length cm, .slice A3 L.length c3] 26)) V6.heap.size 26 #[.slice Ar s.rooms.length cr, .int .i64 s.days, .slice Am s.moves.length cm, .slice A3 L.length c3] := Blk.new _ _ _
      have N6 := ex_alloc (Below.refl V6.heap.size V6) (.cells #[.slice Ar s.rooms.length cr, .int .i64 s.days, .slice Am s.moves.length cm, .slice A3 L.length c3] 26)
      go_upto_region 8 with fail
      clear a0 a1 a2 a3 l0 t0 t1 t2 l3
      replace q0 := q0.below N6 q0.lt
      replace q1 := q1.below N6 q1.lt
      replace q2 := q2.below N6 q2.lt
      replace hs := hs.go N6
      replace hwd := (hwd.below N6).up N6.size
      replace htt := htt.below N6
      replace q3 := q3.below N6 q3.lt
      replace hmt := hmt.below N6
      replace hsl := hsl.below N6
      have B_V7 := ex_trans B_V6 N6
      obtain ⟨p4, hp4⟩ : ∃ p, V6.heap.size = p := ⟨_, rfl⟩
      have hp4g : Hid (w.heap.size + 1 + 1 < p4) := Lib.hid (by rw [← hp4]; exact hl2)
      rw [hp4] at q4 ⊢
      clear N6 hp4 hl2
      generalize V6.alloc (.cells #[.slice Ar s.rooms.length cr, .int .i64 s.days, .slice Am s.moves.length cm, .slice A3 L.length c3] 26) = V7 at *
      have x0 : V7.cell? ⟨p4, 0, none⟩ = some (.slice Ar s.rooms.length cr) := q4.cell 0
      have x1 : V7.cell? ⟨p4, 1, none⟩ = some (.int .i64 s.days) := q4.cell 1
      have x2 : V7.cell? ⟨p4, 2, none⟩ = some (.slice Am s.moves.length cm) := q4.cell 2
      have x3 : V7.cell? ⟨p4, 3, none⟩ = some (.slice A3 L.length c3) := q4.cell 3
      have l4 := q4.lt
      have t0 : V7.cell? ⟨p3, 0, none⟩ = some (.slice A4 t.fs.length c4) := q3.cell 0
      have t1 : V7.cell? ⟨p3, 1, none⟩ = some (.slice A5 t.vs.length c5) := q3.cell 1
      have t2 : V7.cell? ⟨p3, 2, none⟩ = some (.slice A6 t.gs.length c6) := q3.cell 2
      have l3 := q3.lt
      have D8 := (Below.refl V7.heap.size V7).drew
      have n5 : ¬ w.heap.size = w.heap.size + 1 := by omega
      have n6 : ¬ w.heap.size = w.heap.size + 1 + 1 := by omega
      have n1 : ¬ p3 = w.heap.size + 1 := by have := hp3g.out; omega
      have n2 : ¬ p3 = w.heap.size + 1 + 1 := by have := hp3g.out; omega
      have n3 : ¬ p4 = w.heap.size + 1 := by have := hp4g.out; omega
      have n4 : ¬ p4 = w.heap.size + 1 + 1 := by have := hp4g.out; omega
      refine wp_region_fx_mix (fun b => b = w.heap.size + 1 ∨ b = w.heap.size + 1 + 1) 9 [(false, 0), (false, 1), (false, 2), (false, 3), (true, 4), (false, 5), (true, 6), (true, 7), (false, 8)] (by kernel_rfl) (by kernel_rfl) (by intro d _ _ _ _ h; cases d <;> exact h) ?_
      repeat (refine mix_quiet rfl ?_; go_big_quiet_step (fail); refine wpQuiet_nil ?_)
      obtain ⟨Y8, hY⟩ : ∃ Y, V7.drew = Y := ⟨_, rfl⟩
      rw [hY] at D8 ⊢
      clear hY x0 x1 x2 x3 l4 t0 t1 t2 l3
      replace q0 := q0.below D8 q0.lt
      replace q1 := q1.below D8 q1.lt
      replace q2 := q2.below D8 q2.lt
      replace hs := hs.go D8
      replace hwd := (hwd.below D8).up D8.size
      replace htt := htt.below D8
      replace q3 := q3.below D8 q3.lt
      replace hmt := hmt.below D8
      replace hsl := hsl.below D8
      replace q4 := q4.below D8 q4.lt
      have B_Y8 := ex_trans B_V7 D8
      refine mix_loud rfl ?_
      go_wp2_with fail
      refine (fault_any ⟨s.rooms, s.days, s.moves, L⟩ Ar Am A3 cr cm c3 Y8 ⟨hs.rooms, hs.moves, hsl.sl⟩).mono ?_
      rintro e V9 ⟨rfl, hV9⟩
      replace q0 := q0.below hV9 q0.lt
      replace q1 := q1.below hV9 q1.lt
      replace q2 := q2.below hV9 q2.lt
      replace hs := hs.go hV9
      replace hwd := (hwd.below hV9).up hV9.size
      replace htt := htt.below hV9
      replace q3 := q3.below hV9 q3.lt
      replace hmt := hmt.below hV9
      replace hsl := hsl.below hV9
      replace q4 := q4.below hV9 q4.lt
      have B_V9 := ex_trans B_Y8 hV9
      have X_V9 := ex_trans D8 hV9
      go_wp2_with fail
      have F0 : Fr (fun b => b = w.heap.size + 1 ∨ b = w.heap.size + 1 + 1) V7 V9 := Fr.below X_V9
      refine ⟨inFx F0, ?_⟩
      repeat (refine mix_quiet rfl ?_; go_big_quiet_step (fail); refine wpQuiet_nil ?_)
      have z0 : V9.cell? ⟨w.heap.size + 1, 0, none⟩ = some (.slice none 0 0) := q1.cell 0
      have z1 : V9.cell? ⟨w.heap.size + 1, 1, none⟩ = some (.int .i64 0) := q1.cell 1
      have z2 : V9.cell? ⟨w.heap.size + 1, 2, none⟩ = some (.slice none 0 0) := q1.cell 2
      have z3 : V9.cell? ⟨w.heap.size + 1, 3, none⟩ = some (.slice none 0 0) := q1.cell 3
      have y0 : V9.cell? ⟨w.heap.size + 1 + 1, 0, none⟩ = some (.slice none 0 0) := q2.cell 0
      have y1 : V9.cell? ⟨w.heap.size + 1 + 1, 1, none⟩ = some (.slice none 0 0) := q2.cell 1
      have y2 : V9.cell? ⟨w.heap.size + 1 + 1, 2, none⟩ = some (.slice none 0 0) := q2.cell 2
      have l1 := q1.lt
      have l2 := q2.lt
      have f1 := q1.frozen0
      have f2 := q2.frozen0
      have hF : Fr (fun b => b = w.heap.size + 1 ∨ b = w.heap.size + 1 + 1) V9 (((((((V9.setCell ⟨w.heap.size + 1, 0, none⟩ (.slice Ar s.rooms.length cr)).setCell ⟨w.heap.size + 1, 1, none⟩ (.int .i64 s.days)).setCell ⟨w.heap.size + 1, 2, none⟩ (.slice Am s.moves.length cm)).setCell ⟨w.heap.size + 1, 3, none⟩ (.slice A3 L.length c3)).setCell ⟨w.heap.size + 1 + 1, 0, none⟩ (.slice A4 t.fs.length c4)).setCell ⟨w.heap.size + 1 + 1, 1, none⟩ (.slice A5 t.vs.length c5)).setCell ⟨w.heap.size + 1 + 1, 2, none⟩ (.slice A6 t.gs.length c6)) := (((((((Fr.refl (fun b => b = w.heap.size + 1 ∨ b = w.heap.size + 1 + 1) V9).andSet (.inl rfl)).andSet (.inl rfl)).andSet (.inl rfl)).andSet (.inl rfl)).andSet (.inr rfl)).andSet (.inr rfl)).andSet (.inr rfl)
      have Bz := hF.toBelow B_V9 B_V9.size (fun x hx => by omega)
      have p1 := ((((((q1.set_ 0 (.slice Ar s.rooms.length cr)).set_ 1 (.int .i64 s.days)).set_ 2 (.slice Am s.moves.length cm)).set_ 3 (.slice A3 L.length c3)).far (p := ⟨w.heap.size + 1 + 1, 0, none⟩) (by show w.heap.size + 1 ≠ w.heap.size + 1 + 1; omega) (.slice A4 t.fs.length c4)).far (p := ⟨w.heap.size + 1 + 1, 1, none⟩) (by show w.heap.size + 1 ≠ w.heap.size + 1 + 1; omega) (.slice A5 t.vs.length c5)).far (p := ⟨w.heap.size + 1 + 1, 2, none⟩) (by show w.heap.size + 1 ≠ w.heap.size + 1 + 1; omega) (.slice A6 t.gs.length c6)
      have p2 := ((((((q2.far (p := ⟨w.heap.size + 1, 0, none⟩) (by show w.heap.size + 1 + 1 ≠ w.heap.size + 1; omega) (.slice Ar s.rooms.length cr)).far (p := ⟨w.heap.size + 1, 1, none⟩) (by show w.heap.size + 1 + 1 ≠ w.heap.size + 1; omega) (.int .i64 s.days)).far (p := ⟨w.heap.size + 1, 2, none⟩) (by show w.heap.size + 1 + 1 ≠ w.heap.size + 1; omega) (.slice Am s.moves.length cm)).far (p := ⟨w.heap.size + 1, 3, none⟩) (by show w.heap.size + 1 + 1 ≠ w.heap.size + 1; omega) (.slice A3 L.length c3)).set_ 0 (.slice A4 t.fs.length c4)).set_ 1 (.slice A5 t.vs.length c5)).set_ 2 (.slice A6 t.gs.length c6)
      simp only [List.setIfInBounds_toArray, List.set_cons_zero, List.set_cons_succ] at p1 p2
      skip
      obtain ⟨cx, hcx⟩ : ∃ x, ckWs ⟨s.rooms, s.days, s.moves, L⟩ = x := ⟨_, rfl⟩
      rw [hcx]
      have HCX := Lib.hid hcx
      clear hcx
      have F3 : Fr (fun b => b = w.heap.size + 1 ∨ b = w.heap.size + 1 + 1) V7 ((((V9.setCell ⟨w.heap.size + 1, 0, none⟩ (.slice Ar s.rooms.length cr)).setCell ⟨w.heap.size + 1, 1, none⟩ (.int .i64 s.days)).setCell ⟨w.heap.size + 1, 2, none⟩ (.slice Am s.moves.length cm)).setCell ⟨w.heap.size + 1, 3, none⟩ (.slice A3 L.length c3)) := ((((F0).andSet (.inl rfl)).andSet (.inl rfl)).andSet (.inl rfl)).andSet (.inl rfl)
      have F4 : Fr (fun b => b = w.heap.size + 1 ∨ b = w.heap.size + 1 + 1) V7 (((((((V9.setCell ⟨w.heap.size + 1, 0, none⟩ (.slice Ar s.rooms.length cr)).setCell ⟨w.heap.size + 1, 1, none⟩ (.int .i64 s.days)).setCell ⟨w.heap.size + 1, 2, none⟩ (.slice Am s.moves.length cm)).setCell ⟨w.heap.size + 1, 3, none⟩ (.slice A3 L.length c3)).setCell ⟨w.heap.size + 1 + 1, 0, none⟩ (.slice A4 t.fs.length c4)).setCell ⟨w.heap.size + 1 + 1, 1, none⟩ (.slice A5 t.vs.length c5)).setCell ⟨w.heap.size + 1 + 1, 2, none⟩ (.slice A6 t.gs.length c6)) := ((F3.andSet (.inr rfl)).andSet (.inr rfl)).andSet (.inr rfl)
      refine mix_loud rfl ?_
      go_wp2_with fail
      refine ⟨inFx F3, ?_⟩
      repeat (refine mix_quiet rfl ?_; go_big_quiet_step (fail); refine wpQuiet_nil ?_)
      refine mix_loud rfl ?_
      go_wp2_with fail
      refine ⟨inFx F4, ?_⟩
      repeat (refine mix_quiet rfl ?_; go_big_quiet_step (fail); refine wpQuiet_nil ?_)
      refine mix_nil (r := [_]) rfl ?_
      by_cases hc0 : cx = 0
      · have e0 : (cx == 0) = true := by simp [hc0]
        have hlx : LivX s m t L := ⟨HT.out, HCK.out, HTR.out, HCN.out, HWG.out, by rw [← hc0]; exact HCX.out⟩
        have HLX := Lib.hid hlx
        rw [e0]
        clear hlx hc0
        have h1 := Lib.hid (hsl.fr hF (fun g hg _ e => by omega)).sl
        obtain ⟨rV', rcV', h2'⟩ := (htt.fr hF (fun g hg _ e => by omega)).tt
        have h2 := Lib.hid h2'
        obtain ⟨A7', c7', rA', rc', e7, hm7⟩ := IOwn.lays (hmt.fr hF (fun g hg _ e => by omega)) HMX.out
        injection e7 with e71 _ e72
        subst e71 e72
        have h3 := Lib.hid hm7
        clear h2' hm7 hsl htt hmt hF
        go_wp2
        refine bodyPost_ret (results_cctt_row rfl _ _ (w.heap.size + 1) (w.heap.size + 1 + 1) 26 31 _ _ (0, 0) (0, 0) _ _ rfl p1 rfl p2 rfl rfl rfl rfl rfl rfl) rfl ?_
        exact ⟨⟨.inr ⟨t, L, _, _, _, _, _, _, _, _, _, _, rV', rcV', rA', rc', rfl, HLX.out, h1.out, h2.out, h3.out⟩⟩, Bz⟩
      · have e0 : (cx == 0) = false := by simp [hc0]
        rw [e0]
        clear hc0
        go_wp2
        refine bodyPost_ret (results_cctt_row rfl _ _ (w.heap.size + 1) (w.heap.size + 1 + 1) 26 31 _ _ (0, 0) (0, 0) _ _ rfl p1 rfl p2 rfl rfl rfl rfl rfl rfl) rfl ?_
        exact ⟨⟨.inl ⟨_, _, _, _, _, _, _, _, _, _, _, _, _, _, _, _, _, _, _, _, _, _, rfl⟩⟩, Bz⟩
  · have e0 : (ckWs s == 0) = false := by simp [hck]
    have e1 : (ckWs s != 0) = true := by simp [hck]
    generalize ckWs s = cc at *
    clear hck
    have z0 : V2.cell? ⟨w.heap.size + 1, 0, none⟩ = some (.slice none 0 0) := q1.cell 0
    have z1 : V2.cell? ⟨w.heap.size + 1, 1, none⟩ = some (.int .i64 0) := q1.cell 1
    have z2 : V2.cell? ⟨w.heap.size + 1, 2, none⟩ = some (.slice none 0 0) := q1.cell 2
    have z3 : V2.cell? ⟨w.heap.size + 1, 3, none⟩ = some (.slice none 0 0) := q1.cell 3
    have y0 : V2.cell? ⟨w.heap.size + 1 + 1, 0, none⟩ = some (.slice none 0 0) := q2.cell 0
    have y1 : V2.cell? ⟨w.heap.size + 1 + 1, 1, none⟩ = some (.slice none 0 0) := q2.cell 1
    have y2 : V2.cell? ⟨w.heap.size + 1 + 1, 2, none⟩ = some (.slice none 0 0) := q2.cell 2
    have l1 := q1.lt
    have l2 := q2.lt
    have f1 := q1.frozen0
    have f2 := q2.frozen0
    go_upto_region 2 with fail
    have hF : Fr (fun b => b = w.heap.size + 1 ∨ b = w.heap.size + 1 + 1) V2 (((((((V2.setCell ⟨w.heap.size + 1, 0, none⟩ (.slice Ar s.rooms.length cr)).setCell ⟨w.heap.size + 1, 1, none⟩ (.int .i64 s.days)).setCell ⟨w.heap.size + 1, 2, none⟩ (.slice Am s.moves.length cm)).setCell ⟨w.heap.size + 1, 3, none⟩ (.slice Aw s.wgs.length cw)).setCell ⟨w.heap.size + 1 + 1, 0, none⟩ (.slice none 0 0)).setCell ⟨w.heap.size + 1 + 1, 1, none⟩ (.slice none 0 0)).setCell ⟨w.heap.size + 1 + 1, 2, none⟩ (.slice none 0 0)) := (((((((Fr.refl (fun b => b = w.heap.size + 1 ∨ b = w.heap.size + 1 + 1) V2).andSet (.inl rfl)).andSet (.inl rfl)).andSet (.inl rfl)).andSet (.inl rfl)).andSet (.inr rfl)).andSet (.inr rfl)).andSet (.inr rfl)
    have Bz := hF.toBelow B_V2 B_V2.size (fun x hx => by omega)
    have p1 := ((((((q1.set_ 0 (.slice Ar s.rooms.length cr)).set_ 1 (.int .i64 s.days)).set_ 2 (.slice Am s.moves.length cm)).set_ 3 (.slice Aw s.wgs.length cw)).far (p := ⟨w.heap.size + 1 + 1, 0, none⟩) (by show w.heap.size + 1 ≠ w.heap.size + 1 + 1; omega) (.slice none 0 0)).far (p := ⟨w.heap.size + 1 + 1, 1, none⟩) (by show w.heap.size + 1 ≠ w.heap.size + 1 + 1; omega) (.slice none 0 0)).far (p := ⟨w.heap.size + 1 + 1, 2, none⟩) (by show w.heap.size + 1 ≠ w.heap.size + 1 + 1; omega) (.slice none 0 0)
    have p2 := ((((((q2.far (p := ⟨w.heap.size + 1, 0, none⟩) (by show w.heap.size + 1 + 1 ≠ w.heap.size + 1; omega) (.slice Ar s.rooms.length cr)).far (p := ⟨w.heap.size + 1, 1, none⟩) (by show w.heap.size + 1 + 1 ≠ w.heap.size + 1; omega) (.int .i64 s.days)).far (p := ⟨w.heap.size + 1, 2, none⟩) (by show w.heap.size + 1 + 1 ≠ w.heap.size + 1; omega) (.slice Am s.moves.length cm)).far (p := ⟨w.heap.size + 1, 3, none⟩) (by show w.heap.size + 1 + 1 ≠ w.heap.size + 1; omega) (.slice Aw s.wgs.length cw)).set_ 0 (.slice none 0 0)).set_ 1 (.slice none 0 0)).set_ 2 (.slice none 0 0)
    simp only [List.setIfInBounds_toArray, List.set_cons_zero, List.set_cons_succ] at p1 p2
    go_wp2
    refine bodyPost_ret (results_cctt_row rfl _ _ (w.heap.size + 1) (w.heap.size + 1 + 1) 26 31 _ _ (0, 0) (0, 0) _ _ rfl p1 rfl p2 rfl rfl rfl rfl rfl rfl) rfl ?_
    exact ⟨⟨.inl ⟨_, _, _, _, _, _, _, _, _, _, _, _, _, _, _, _, _, _, _, _, _, _, rfl⟩⟩, Bz⟩
end Go.Proofs.Ythihdiilokdidaa
end

section
namespace Go.Proofs.Ythihdiilokdidaa

/-- the weighings that bits leave out. -/
def bitO (m : Nat) : Nat → Bool := fun i => decide (m / 2 ^ i % 2 = 1)
theorem bitO_zero : bitO 0 = off0 := by
  funext i
  unfold bitO off0
  rw [Nat.zero_div]
  rfl
section
variable {s : Ws} {m : Nat} {t : Tt} {L : List Wg}
theorem stk_wgL (s : Ws) (L : List Wg) (F : Nat → Int) (V : Nat → Nat → Int) (G : Nat → Int) (r d : Nat) : stk (s.wg L).wo F V G r d = stk s.wo F V G r d := (SameMv.wgs s.wo s.wgs L).stk F V G r d
theorem LivX.wo (h : LivX s m t L) : WoOk s.wo ∧ s.days = (s.wo.days : Int) := ckWs_iff.1 h.ck
theorem LivX.wox (h : LivX s m t L) : WoOk (s.wg L).wo ∧ (s.wg L).days = ((s.wg L).wo.days : Int) := ckWs_iff.1 h.ckx
theorem LivX.sm (h : LivX s m t L) : (s.wg L).rooms.length ≤ 1000 ∧ (s.wg L).moves.length ≤ 1000 ∧ (s.wg L).wgs.length ≤ 1000 := by
  have h1 := h.wox.1.len
  have a : (s.wg L).wo.rooms.length = (s.wg L).rooms.length := rfl
  have b : (s.wg L).wo.moves.length = (s.wg L).moves.length := rfl
  have c : (s.wg L).wo.wgs.length = (s.wg L).wgs.length := rfl
  omega
theorem LivX.tru' (h : LivX s m t L) : TruF s.wo t.F t.V t.G := ((truT_iff h.wo.2).1 h.tru).2.2
theorem LivX.good (h : LivX s m t L) : GoodF (s.wg L).wo (bitO m) t.F t.V t.G where
  tru := ⟨h.tru'.fst, h.tru'.vap, h.tru'.mov⟩
  can := fun r d hr hd => by rw [stk_wgL]; exact canT_iff.1 h.can r d hr hd
  agr := fun i hi ho => by
    have hl := h.wg.len
    have hi2 : i < s.wgs.length := by rw [← hl]; exact hi
    obtain ⟨h1, h2, h3⟩ := h.wg.ok i hi2
    have hz : m / 2 ^ i % 2 = 0 := by
      have := of_decide_eq_false ho
      omega
    have h4 := h3 hz
    show inR (stk (s.wg L).wo t.F t.V t.G (gWg L i).room.toNat (gWg L i).day.toNat) (gWg L i).g
    rw [stk_wgL, h1, h2]
    exact h4
theorem LivX.stk_in (h : LivX s 0 t L) {r d : Nat} : StkZ (s.wg L).wo off0 r d (stk s.wo t.F t.V t.G r d) := ⟨_, _, _, bitO_zero ▸ h.good, stk_wgL _ _ _ _ _ _ _⟩
theorem LivX.len (h : LivX s m t L) : L.length = s.wgs.length := h.wg.len
end
/-- the ends, and what lies just beyond them. -/
def endV (lo hi : Int) : Nat → Int
  | 0 => lo
  | 1 => hi
  | 2 => lo - 1
  | _ => hi + 1
/-- the ranges of stocks lie between 0 and a great number. -/
theorem stkR_bd {w : Wo} (hw : WoOk w) (h : Good w off0) {r d : Nat} (hr : r < w.rooms.length) (hd : d < w.days) : 0 ≤ (stkR w off0 r d).lo ∧ (stkR w off0 r d).lo ≤ (stkR w off0 r d).hi ∧ (stkR w off0 r d).hi ≤ 1000000 := by
  have he := good_ends hw h hr hd
  have h2 := hw.days
  have key : ∀ z, StkZ w off0 r d z → 0 ≤ z ∧ z ≤ 1000000 := fun z ⟨F, V, G, hg, e⟩ => by
    have a := hg.can r d hr hd
    have b := stk_le hw hg.tru hr d hd
    omega
  have a := key _ he.1
  have b := key _ he.2.1
  have c := he.2.2 _ he.1
  omega
end Go.Proofs.Ythihdiilokdidaa
end

section
namespace Go.Proofs.Ythihdiilokdidaa

/-- how many of f numbers from n on are left out. -/
def cnt (O : Nat → Bool) (n : Nat) : Nat → Nat
  | 0 => 0
  | f + 1 => (if O n then 1 else 0) + cnt O (n + 1) f
theorem cnt_zero {O : Nat → Bool} : ∀ {f n : Nat}, cnt O n f = 0 → ∀ j, n ≤ j → j < n + f → O j = false
  | 0, n, _, j, h1, h2 => by omega
  | f + 1, n, h, j, h1, h2 => by
    rw [cnt] at h
    cases ho : O n
    · rw [ho] at h
      rcases Nat.eq_or_lt_of_le h1 with he | hlt
      · subst he; exact ho
      · exact cnt_zero (f := f) (n := n + 1) (by simpa using h) j hlt (by omega)
    · rw [ho] at h; simp at h
theorem setO_self {o : Nat → Bool} {n : Nat} : setO o n n = true := by simp [setO]
theorem setO_ne {o : Nat → Bool} {n j : Nat} (h : j ≠ n) : setO o n j = o j := by simp [setO, h]
/-- whatever numbers, so many, may be left out: they are among those that are tried. -/
theorem pick_ne {A : (Nat → Bool) → Bool} {N many : Nat} {O : Nat → Bool} (hA : ∀ o, (∀ j, j < N → o j = O j) → A o = true) : ∀ (f n : Nat) (lv : List Int) (o : Nat → Bool), n + f = N → (∀ j, j < n → o j = O j) → (∀ j, n ≤ j → o j = false) → lv.length + cnt O n f = many → pickL A many f lv o n ≠ [] := by
  intro f
  induction f with
  | zero =>
    intro n lv o h1 h2 h3 h4
    unfold pickL
    rw [cnt] at h4
    rw [if_pos (by omega), if_pos (hA o (fun j hj => h2 j (by omega)))]
    simp
  | succ f ih =>
    intro n lv o h1 h2 h3 h4
    by_cases hm : lv.length = many
    · unfold pickL
      have hz := cnt_zero (show cnt O n (f + 1) = 0 by omega)
      rw [if_pos hm, if_pos (hA o (fun j hj => by
        rcases Nat.lt_or_ge j n with h | h
        · exact h2 j h
        · rw [h3 j h, hz j h (by omega)]))]
      simp
    · unfold pickL
      rw [if_neg hm, loopL_succ]
      rw [cnt] at h4
      cases ho : O n
      · rw [ho] at h4
        have := ih (n + 1) lv o (by omega) (fun j hj => by
          rcases Nat.lt_succ_iff_lt_or_eq.1 hj with h | h
          · exact h2 j h
          · subst h; rw [h3 j (Nat.le_refl _), ho]) (fun j hj => h3 j (by omega)) (by simpa using h4)
        unfold pickL at this
        rw [if_neg hm] at this
        simp [this]
      · rw [ho] at h4
        have := ih (n + 1) (lv ++ [(n : Int)]) (setO o n) (by omega) (fun j hj => by
          rcases Nat.lt_succ_iff_lt_or_eq.1 hj with h | h
          · rw [setO_ne (by omega)]; exact h2 j h
          · subst h; rw [setO_self, ho]) (fun j hj => by rw [setO_ne (by omega)]; exact h3 j (by omega)) (by simp at h4 ⊢; omega)
        simp [this]
/-- those that are told may be left out. -/
theorem pick_mem {A : (Nat → Bool) → Bool} {many : Nat} {L : List Int} : ∀ (f n : Nat) (lv : List Int) (o : Nat → Bool), (∀ j : Nat, o j = true ↔ (j : Int) ∈ lv) → L ∈ pickL A many f lv o n → ∃ o', A o' = true ∧ (∀ j : Nat, o' j = true ↔ (j : Int) ∈ L) := by
  have hset : ∀ (n : Nat) (lv : List Int) (o : Nat → Bool), (∀ j : Nat, o j = true ↔ (j : Int) ∈ lv) → ∀ j : Nat, setO o n j = true ↔ (j : Int) ∈ lv ++ [(n : Int)] := fun n lv o h j => by
    by_cases hj : j = n
    · subst hj; simp [setO_self]
    · rw [setO_ne hj, h j]; simp; omega
  intro f
  induction f with
  | zero =>
    intro n lv o h hL
    unfold pickL at hL
    split at hL
    · split at hL
      · rename_i ha
        rw [List.mem_singleton] at hL
        subst hL; exact ⟨o, ha, h⟩
      · cases hL
    · simp [loopL] at hL
  | succ f ih =>
    intro n lv o h hL
    unfold pickL at hL
    split at hL
    · split at hL
      · rename_i ha
        rw [List.mem_singleton] at hL
        subst hL; exact ⟨o, ha, h⟩
      · cases hL
    · rename_i hm
      rw [loopL_succ, List.mem_append] at hL
      rcases hL with hL | hL
      · exact ih (n + 1) _ _ (hset n lv o h) hL
      · exact ih (n + 1) lv o h (by unfold pickL; rw [if_neg hm]; exact hL)

theorem cnt_congr {O O' : Nat → Bool} : ∀ {f n : Nat}, (∀ j, n ≤ j → j < n + f → O j = O' j) → cnt O n f = cnt O' n f
  | 0, _, _ => rfl
  | f + 1, n, h => by rw [cnt, cnt, h n (Nat.le_refl _) (by omega), cnt_congr (f := f) (n := n + 1) (fun j h1 h2 => h j (by omega) (by omega))]
/-- those that are told: some numbers more, one greater than the other. -/
theorem pick_up {A : (Nat → Bool) → Bool} {many : Nat} {L : List Int} : ∀ (f n : Nat) (lv : List Int) (o : Nat → Bool), L ∈ pickL A many f lv o n → ∃ m : List Int, L = lv ++ m ∧ m.Pairwise (· < ·) ∧ ∀ x ∈ m, (n : Int) ≤ x ∧ x < (n : Int) + f := by
  intro f
  induction f with
  | zero =>
    intro n lv o hL
    unfold pickL at hL
    split at hL
    · split at hL
      · rw [List.mem_singleton] at hL
        exact ⟨[], by simp [hL], List.Pairwise.nil, fun x hx => by cases hx⟩
      · cases hL
    · simp [loopL] at hL
  | succ f ih =>
    intro n lv o hL
    unfold pickL at hL
    split at hL
    · split at hL
      · rw [List.mem_singleton] at hL
        exact ⟨[], by simp [hL], List.Pairwise.nil, fun x hx => by cases hx⟩
      · cases hL
    · rename_i hm
      rw [loopL_succ, List.mem_append] at hL
      rcases hL with hL | hL
      · obtain ⟨m, e, h1, h2⟩ := ih (n + 1) _ _ hL
        refine ⟨(n : Int) :: m, by rw [e]; simp, List.pairwise_cons.2 ⟨fun x hx => by have := h2 x hx; omega, h1⟩, fun x hx => ?_⟩
        rcases List.mem_cons.1 hx with rfl | hx
        · omega
        · have := h2 x hx; omega
      · obtain ⟨m, e, h1, h2⟩ := ih (n + 1) lv o (by unfold pickL; rw [if_neg hm]; exact hL)
        exact ⟨m, e, h1, fun x hx => by have := h2 x hx; omega⟩
/-- the numbers of a list, as those that are left out. -/
def outL (L : List Int) : Nat → Bool := fun j => decide ((j : Int) ∈ L)
theorem good_off {w : Wo} {o o' : Nat → Bool} (h : ∀ j, j < w.wgs.length → o j = o' j) : Good w o ↔ Good w o' := by
  have key : ∀ o o' : Nat → Bool, (∀ j, j < w.wgs.length → o j = o' j) → Good w o → Good w o' := fun o o' h ⟨F, V, G, hg⟩ => ⟨F, V, G, hg.tru, hg.can, fun i hi ho => hg.agr i hi (by rw [h i hi]; exact ho)⟩
  exact ⟨key o o' h, key o' o (fun j hj => (h j hj).symm)⟩
/-- a list that is told: it may be left out, and goes up. -/
structure Told (s : Ws) (L : List Int) : Prop where
  good : Good s.wo (outL L)
  up : L.Pairwise (· < ·)
  bd : ∀ x ∈ L, 0 ≤ x ∧ x < (s.wgs.length : Int)
theorem listsL_told {s : Ws} {many : Nat} {L : List Int} (h : L ∈ listsL s many) : Told s L ∧ L.length = many := by
  unfold listsL at h
  obtain ⟨m, e, h1, h2⟩ := pick_up _ _ _ _ h
  obtain ⟨o', ha, ho⟩ := pick_mem s.wgs.length 0 [] off0 (fun j => by simp [off0]) h
  simp only [List.nil_append] at e
  subst e
  refine ⟨⟨?_, h1, fun x hx => by have := h2 x hx; omega⟩, listsL_mem (s := s) (by unfold listsL; exact h)⟩
  refine (good_off (fun j _ => ?_)).1 (truB_iff.1 ha)
  unfold outL
  cases hj : o' j
  · symm; rw [decide_eq_false_iff_not]
    intro hm; rw [(ho j).2 hm] at hj; cases hj
  · symm; rw [decide_eq_true_eq]; exact (ho j).1 hj
theorem listsL_ne {s : Ws} {O : Nat → Bool} (h : Good s.wo O) : listsL s (cnt O 0 s.wgs.length) ≠ [] := by
  unfold listsL
  refine pick_ne (N := s.wgs.length) (O := O) (fun o ho => truB_iff.2 ((good_off (fun j hj => ho j hj)).2 h)) s.wgs.length 0 [] off0 (by omega) (fun j hj => by omega) (fun _ _ => rfl) (by simp)
theorem cnt_le (O : Nat → Bool) : ∀ f n, cnt O n f ≤ f
  | 0, _ => Nat.le_refl _
  | f + 1, n => by
    have := cnt_le O f (n + 1)
    rw [cnt]; split <;> omega
theorem fewK_le {s : Ws} {O : Nat → Bool} (h : Good s.wo O) : 0 ≤ fewK s ∧ fewK s ≤ (cnt O 0 s.wgs.length : Nat) := by
  have hc := cnt_le O s.wgs.length 0
  have hne := listsL_ne h
  have hpos : decide (0 < (listsL s (cnt O 0 s.wgs.length)).length) = true := by
    rw [decide_eq_true_eq]; exact List.length_pos_iff.2 hne
  have key : ∀ n k : Nat, k < n → (fun k => decide (0 < (listsL s k).length)) k = true → 0 ≤ firstOf (fun k => decide (0 < (listsL s k).length)) n ∧ firstOf (fun k => decide (0 < (listsL s k).length)) n ≤ k := by
    intro n
    induction n with
    | zero => intro k hk; omega
    | succ n ih =>
      intro k hk hf
      rw [firstOf]
      rcases Nat.lt_succ_iff_lt_or_eq.1 hk with hlt | rfl
      · have := ih k hlt hf
        rw [if_neg (by omega)]; exact this
      · by_cases hn : firstOf (fun k => decide (0 < (listsL s k).length)) k < 0
        · rw [if_pos hn, if_pos hf]; omega
        · rw [if_neg hn]
          refine ⟨by omega, ?_⟩
          have hb : ∀ n, firstOf (fun k => decide (0 < (listsL s k).length)) n < (n : Int) := by
            intro n
            induction n with
            | zero => simp [firstOf]
            | succ n ih => rw [firstOf]; split <;> (try split) <;> omega
          have := hb k; omega
  exact key _ _ (by omega) hpos
theorem firstOf_hit {f : Nat → Bool} : ∀ {n : Nat}, 0 ≤ firstOf f n → f (firstOf f n).toNat = true ∧ (firstOf f n).toNat < n
  | 0, h => by simp [firstOf] at h
  | n + 1, h => by
    rw [firstOf] at h ⊢
    by_cases hn : firstOf f n < 0
    · rw [if_pos hn] at h ⊢
      by_cases hf : f n = true
      · rw [if_pos hf]; simp [hf]
      · rw [if_neg hf] at h; omega
    · rw [if_neg hn] at h ⊢
      have := firstOf_hit (f := f) (n := n) (by omega)
      exact ⟨this.1, by omega⟩
theorem firstOf_min {f : Nat → Bool} {k : Nat} : ∀ {n : Nat}, k < n → f k = true → 0 ≤ firstOf f n ∧ firstOf f n ≤ k
  | 0, hk, _ => by omega
  | n + 1, hk, hf => by
    rw [firstOf]
    rcases Nat.lt_succ_iff_lt_or_eq.1 hk with hlt | rfl
    · have := firstOf_min (n := n) hlt hf
      rw [if_neg (by omega)]; exact this
    · by_cases hn : firstOf f k < 0
      · rw [if_pos hn, if_pos hf]; omega
      · rw [if_neg hn]
        have := (firstOf_hit (f := f) (n := k) (by omega)).2
        omega
theorem headD_mem {α : Type} {l : List α} (z : α) (h : l ≠ []) : l.headD z ∈ l := by cases l with
  | nil => exact absurd rfl h
  | cons a l => simp
/-- what Fewest tells. -/
structure FwIs (s : Ws) : Prop where
  told : Told s (fwL s)
  min : ∀ O, Good s.wo O → (fwL s).length ≤ cnt O 0 s.wgs.length
theorem fw_ok {s : Ws} (hc : ckWs s = 0) (h : fwE s = 0) : FwIs s := by
  have hk : 0 ≤ fewK s := by
    unfold fwE at h
    rw [if_pos hc] at h
    by_cases hk : 0 ≤ fewK s
    · exact hk
    · rw [if_neg hk] at h; cases h
  have hh := (firstOf_hit (f := fun k => decide (0 < (listsL s k).length)) (n := s.wgs.length + 1) hk).1
  have hh' : 0 < (listsL s (fewK s).toNat).length := of_decide_eq_true hh
  have hm : fwL s ∈ listsL s (fewK s).toNat := by
    unfold fwL
    rw [if_pos h]
    exact headD_mem _ (List.length_pos_iff.1 hh')
  obtain ⟨ht, hl⟩ := listsL_told hm
  refine ⟨ht, fun O hO => ?_⟩
  have := fewK_le hO
  omega
theorem fw_yes {s : Ws} {O : Nat → Bool} (hc : ckWs s = 0) (h : Good s.wo O) : fwE s = 0 := by
  unfold fwE
  rw [if_pos hc, if_pos (fewK_le h).1]
theorem fw_no {s : Ws} (hc : ckWs s = 0) (h : ¬ fwE s = 0) : fwE s = 9 ∧ ∀ O, ¬ Good s.wo O := by
  refine ⟨?_, fun O hO => h (fw_yes hc hO)⟩
  unfold fwE at h ⊢
  rw [if_pos hc] at h ⊢
  by_cases hk : 0 ≤ fewK s
  · rw [if_pos hk] at h; exact absurd rfl h
  · rw [if_neg hk]
theorem cnt_off0 : ∀ f n, cnt off0 n f = 0
  | 0, _ => rfl
  | f + 1, n => by rw [cnt, cnt_off0 f]; rfl
theorem fw_nil {s : Ws} (hc : ckWs s = 0) : (fwE s = 0 ∧ (fwL s).length = 0) ↔ Good s.wo off0 := by
  constructor
  · rintro ⟨h, h0⟩
    have := (fw_ok hc h).told.good
    rw [List.length_eq_zero_iff.1 h0] at this
    exact (good_off (fun j _ => by simp [outL, off0])).1 this
  · intro h
    have hf := fw_yes hc h
    have := (fw_ok hc hf).min off0 h
    rw [cnt_off0] at this
    exact ⟨hf, by omega⟩
/-- a list that goes up, of numbers below n: so many are left out. -/
theorem cnt_up : ∀ (f n : Nat) (L : List Int), L.Pairwise (· < ·) → (∀ x ∈ L, (n : Int) ≤ x ∧ x < (n : Int) + f) → cnt (outL L) n f = L.length
  | 0, n, L, _, h => by
    cases L with
    | nil => rfl
    | cons x L => have := h x (by simp); omega
  | f + 1, n, L, hp, h => by
    rw [cnt]
    by_cases hm : (n : Int) ∈ L
    · rw [if_pos (by unfold outL; exact decide_eq_true hm)]
      cases L with
      | nil => cases hm
      | cons x L =>
        have hp := List.pairwise_cons.1 hp
        have hx : x = n := by
          rcases List.mem_cons.1 hm with e | e
          · exact e.symm
          · have := hp.1 _ e; have := h x (by simp); omega
        subst hx
        have ih := cnt_up f (n + 1) L hp.2 (fun y hy => by have := hp.1 y hy; have := h y (by simp [hy]); omega)
        have hc : cnt (outL ((n : Int) :: L)) (n + 1) f = cnt (outL L) (n + 1) f := by
          refine cnt_congr ?_
          intro j hj _
          unfold outL
          rw [decide_eq_decide]
          simp only [List.mem_cons]
          constructor
          · rintro (e | e)
            · omega
            · exact e
          · exact .inr
        rw [hc, ih]; simp; omega
    · rw [if_neg (by unfold outL; simpa using hm)]
      rw [cnt_up f (n + 1) L hp (fun y hy => by
        have := h y hy
        have hne : y ≠ n := fun e => hm (e ▸ hy)
        omega)]
      omega
theorem lt_of_nil {s : Ws} (h : ¬ Good s.wo off0) : listsL s 0 = [] := by
  cases hl : listsL s 0 with
  | nil => rfl
  | cons L M =>
    obtain ⟨ht, h0⟩ := listsL_told (s := s) (many := 0) (L := L) (by rw [hl]; simp)
    rw [List.length_eq_zero_iff.1 h0] at ht
    exact absurd ((good_off (fun j _ => by simp [outL, off0])).1 ht.good) h
/-- what Blame tells is what Fewest does. -/
theorem bm_ok {s : Ws} (hc : ckWs s = 0) (h : bmE s = 0) : fwE s = 0 ∧ fwL s = [bmV s] := by
  have hv : bmV s = ((listsL s 1).headD []).headD 0 := by unfold bmV; rw [if_pos h]
  unfold bmE at h
  rw [if_pos hc] at h
  by_cases hb : (listsL s 1).length = 1 ∧ agrO s off0 = false
  · obtain ⟨h1, h2⟩ := hb
    have hng : ¬ Good s.wo off0 := fun hg => by rw [show agrO s off0 = true from truB_iff.2 hg] at h2; cases h2
    have hm1 : (listsL s 1).headD [] ∈ listsL s 1 := headD_mem _ (fun e => by rw [e] at h1; cases h1)
    obtain ⟨ht, hl⟩ := listsL_told hm1
    have hk := firstOf_min (f := fun k => decide (0 < (listsL s k).length)) (k := 1) (n := s.wgs.length + 1) (by
      cases hL : (listsL s 1).headD [] with
      | nil => rw [hL] at hl; cases hl
      | cons x M => have := ht.bd x (by rw [hL]; simp); omega) (by rw [decide_eq_true_eq]; omega)
    have hk0 : fewK s ≠ 0 := fun e => by
      have hh := (firstOf_hit (f := fun k => decide (0 < (listsL s k).length)) (n := s.wgs.length + 1) hk.1).1
      rw [show firstOf (fun k => decide (0 < (listsL s k).length)) (s.wgs.length + 1) = 0 from e] at hh
      have : 0 < (listsL s 0).length := of_decide_eq_true hh
      rw [lt_of_nil hng] at this
      cases this
    have hk1 : fewK s = 1 := by
      have : 0 ≤ fewK s ∧ fewK s ≤ 1 := hk
      omega
    have hf : fwE s = 0 := by unfold fwE; rw [if_pos hc, hk1]; rfl
    refine ⟨hf, ?_⟩
    unfold fwL
    rw [if_pos hf, hk1, hv]
    show (listsL s 1).headD [] = _
    cases hL : (listsL s 1).headD [] with
    | nil => rw [hL] at hl; cases hl
    | cons x M =>
      rw [hL] at hl
      cases M with
      | nil => rfl
      | cons y M => simp at hl
  · rw [if_neg hb] at h; cases h
theorem bm_cases {s : Ws} (hc : ckWs s = 0) : bmE s = 0 ∨ bmE s = 7 := by
  unfold bmE
  rw [if_pos hc]
  split
  · exact .inl rfl
  · exact .inr rfl
end Go.Proofs.Ythihdiilokdidaa
end

section
namespace Go.Proofs.Ythihdiilokdidaa

/-- the product of the first so many widths. -/
def prodW (wd : Nat → Nat) : Nat → Nat
  | 0 => 1
  | k + 1 => prodW wd k * wd k
/-- what is left of a number after so many places. -/
def remW (wd : Nat → Nat) (n : Nat) : Nat → Nat
  | 0 => n
  | k + 1 => remW wd n k / wd k
theorem remW_div (wd : Nat → Nat) (n : Nat) : ∀ k, remW wd n k = n / prodW wd k
  | 0 => by simp [remW, prodW]
  | k + 1 => by rw [remW, remW_div wd n k, prodW, Nat.div_div_eq_div_mul]
theorem prodW_pos {wd : Nat → Nat} : ∀ {K : Nat}, (∀ k, k < K → 0 < wd k) → 0 < prodW wd K
  | 0, _ => Nat.one_pos
  | K + 1, h => Nat.mul_pos (prodW_pos (fun k hk => h k (by omega))) (h K (by omega))
theorem prodW_dvd (wd : Nat → Nat) {k : Nat} : ∀ {K : Nat}, k < K → ∃ q, prodW wd K = prodW wd k * (wd k * q)
  | 0, h => by omega
  | K + 1, h => by
    rcases Nat.lt_succ_iff_lt_or_eq.1 h with h | rfl
    · obtain ⟨q, hq⟩ := prodW_dvd wd h
      exact ⟨q * wd K, by rw [prodW, hq, Nat.mul_assoc, Nat.mul_assoc]⟩
    · exact ⟨1, by rw [prodW, Nat.mul_one]⟩
/-- any places are those of a number. -/
theorem remW_ex {wd c : Nat → Nat} : ∀ {K : Nat}, (∀ k, k < K → c k < wd k) → ∃ n, n < prodW wd K ∧ ∀ k, k < K → remW wd n k % wd k = c k
  | 0, _ => ⟨0, Nat.one_pos, fun k hk => by omega⟩
  | K + 1, h => by
    obtain ⟨n, hn, hk⟩ := remW_ex (K := K) (fun k hk => h k (by omega))
    have hc := h K (by omega)
    have hp : 0 < prodW wd K := by omega
    refine ⟨n + prodW wd K * c K, ?_, fun k hkK => ?_⟩
    · rw [prodW]
      calc n + prodW wd K * c K < prodW wd K + prodW wd K * c K := by omega
        _ = prodW wd K * (c K + 1) := by rw [Nat.mul_add, Nat.mul_one, Nat.add_comm]
        _ ≤ prodW wd K * wd K := Nat.mul_le_mul_left _ hc
    · rw [remW_div]
      rcases Nat.lt_succ_iff_lt_or_eq.1 hkK with hlt | rfl
      · obtain ⟨q, hq⟩ := prodW_dvd wd hlt
        have hpk : 0 < prodW wd k := prodW_pos (fun j hj => by have := h j (by omega); omega)
        rw [hq, Nat.mul_assoc, Nat.add_mul_div_left _ _ hpk, Nat.mul_assoc, Nat.add_mul_mod_self_left, ← remW_div]
        exact hk k hlt
      · rw [Nat.add_mul_div_left _ _ hp, Nat.div_eq_of_lt hn, Nat.zero_add, Nat.mod_eq_of_lt hc]
/-- the product, but at most a great number. -/
def wideTo (wd : Nat → Nat) : Nat → Nat
  | 0 => 1
  | k + 1 => min 1048576 (wideTo wd k * wd k)
theorem wideTo_eq {wd : Nat → Nat} : ∀ {K : Nat}, (∀ k, k < K → 0 < wd k) → wideTo wd K = min 1048576 (prodW wd K)
  | 0, _ => by simp [wideTo, prodW]
  | K + 1, h => by
    rw [wideTo, wideTo_eq (fun k hk => h k (by omega)), prodW]
    have hw := h K (by omega)
    rcases Nat.le_total (prodW wd K) 1048576 with hle | hle
    · rw [Nat.min_eq_right hle]
    · rw [Nat.min_eq_left hle]
      have h1 : 1048576 ≤ 1048576 * wd K := Nat.le_mul_of_pos_right _ hw
      have h2 : prodW wd K ≤ prodW wd K * wd K := Nat.le_mul_of_pos_right _ hw
      omega
theorem wideTo_le {wd : Nat → Nat} {K : Nat} (h : ∀ k, k < K → 0 < wd k) (hk : wideTo wd K < 1048576) : wideTo wd K = prodW wd K := by
  have := wideTo_eq h
  omega
theorem wideTo_bd {wd : Nat → Nat} {K : Nat} (h : ∀ k, k < K → 0 < wd k) : 1 ≤ wideTo wd K ∧ wideTo wd K ≤ 1048576 := by
  have := wideTo_eq h
  have := prodW_pos h
  omega

/-- how wide a range is. -/
def wdR (r : Rg) : Nat := (r.hi - r.lo + 1).toNat
/-- the range at a place: of each room its first and the vapours of all days, then the moves. -/
def rgP (w : Wo) (k : Nat) : Rg :=
  if k < w.rooms.length * (w.days + 1) then (if k % (w.days + 1) = 0 then (gRm w.rooms (k / (w.days + 1))).fst else (gRm w.rooms (k / (w.days + 1))).vap) else (gMv w.moves (k - w.rooms.length * (w.days + 1))).g
def wdP (w : Wo) (k : Nat) : Nat := wdR (rgP w k)
def placesP (w : Wo) : Nat := w.rooms.length * (w.days + 1) + w.moves.length
section
variable {w : Wo}
theorem place_lt {R D i j : Nat} (hi : i < R) (hj : j < D) : i * D + j < R * D := by
  have : (i + 1) * D ≤ R * D := Nat.mul_le_mul_right _ hi
  rw [Nat.add_mul, Nat.one_mul] at this
  omega
theorem rgP_fst {i : Nat} (hi : i < w.rooms.length) : rgP w (i * (w.days + 1)) = (gRm w.rooms i).fst := by
  unfold rgP
  rw [if_pos (by have := place_lt (D := w.days + 1) (j := 0) hi (by omega); omega), if_pos (by simp), Nat.mul_div_cancel _ (by omega)]
theorem rgP_vap {i d : Nat} (hi : i < w.rooms.length) (hd : d < w.days) : rgP w (i * (w.days + 1) + 1 + d) = (gRm w.rooms i).vap := by
  have hm : (i * (w.days + 1) + 1 + d) % (w.days + 1) = 1 + d := by rw [Nat.add_assoc, Nat.mul_comm, Nat.mul_add_mod, Nat.mod_eq_of_lt (by omega)]
  have hq : (i * (w.days + 1) + 1 + d) / (w.days + 1) = i := by rw [Nat.add_assoc, Nat.mul_comm, Nat.mul_add_div (by omega), Nat.div_eq_of_lt (by omega), Nat.add_zero]
  unfold rgP
  rw [if_pos (by have := place_lt (D := w.days + 1) (j := 1 + d) hi (by omega); omega), hm, if_neg (by omega), hq]
theorem rgP_mov (i : Nat) : rgP w (w.rooms.length * (w.days + 1) + i) = (gMv w.moves i).g := by
  unfold rgP
  rw [if_neg (by omega), Nat.add_sub_cancel_left]
theorem wdP_pos (hw : WoOk w) {k : Nat} (hk : k < placesP w) : 0 < wdP w k := by
  have key : ∀ r : Rg, r.lo ≤ r.hi → 0 < wdR r := fun r h => by unfold wdR; omega
  unfold wdP
  refine key _ ?_
  unfold rgP
  split
  · rename_i h
    have hq : k / (w.days + 1) < w.rooms.length := Nat.div_lt_of_lt_mul (by rw [Nat.mul_comm]; exact h)
    have := hw.rooms _ hq
    split <;> omega
  · have := hw.grams (k - w.rooms.length * (w.days + 1)) (by unfold placesP at hk; omega)
    omega
/-- the truth with a number. -/
def valP (w : Wo) (n k : Nat) : Int := (rgP w k).lo + ((remW (wdP w) n k % wdP w k : Nat) : Int)
def nthF (w : Wo) (n : Nat) : Nat → Int := fun i => valP w n (i * (w.days + 1))
def nthV (w : Wo) (n : Nat) : Nat → Nat → Int := fun i d => valP w n (i * (w.days + 1) + 1 + d)
def nthG (w : Wo) (n : Nat) : Nat → Int := fun i => valP w n (w.rooms.length * (w.days + 1) + i)
theorem valP_in (hw : WoOk w) (n : Nat) {k : Nat} (hk : k < placesP w) : inR (valP w n k) (rgP w k) := by
  have h1 := wdP_pos hw hk
  have h2 := Nat.mod_lt (remW (wdP w) n k) h1
  unfold valP inR
  unfold wdP wdR at h1
  have : wdP w k = ((rgP w k).hi - (rgP w k).lo + 1).toNat := rfl
  omega
theorem nth_tru (hw : WoOk w) (n : Nat) : TruF w (nthF w n) (nthV w n) (nthG w n) where
  fst := fun r hr => by
    have := valP_in hw n (k := r * (w.days + 1)) (by unfold placesP; have := place_lt (D := w.days + 1) (j := 0) hr (by omega); omega)
    rwa [rgP_fst hr] at this
  vap := fun r d hr hd => by
    have := valP_in hw n (k := r * (w.days + 1) + 1 + d) (by unfold placesP; have := place_lt (D := w.days + 1) (j := 1 + d) hr (by omega); omega)
    rwa [rgP_vap hr hd] at this
  mov := fun i hi => by
    have := valP_in hw n (k := w.rooms.length * (w.days + 1) + i) (by unfold placesP; omega)
    rwa [rgP_mov] at this
/-- a number's truth is the same in these. -/
structure SameT (w : Wo) (F : Nat → Int) (V : Nat → Nat → Int) (G : Nat → Int) (F' : Nat → Int) (V' : Nat → Nat → Int) (G' : Nat → Int) : Prop where
  fst : ∀ r, r < w.rooms.length → F r = F' r
  vap : ∀ r d, r < w.rooms.length → d < w.days → V r d = V' r d
  mov : ∀ i, i < w.moves.length → G i = G' i
theorem SameT.stk {F : Nat → Int} {V : Nat → Nat → Int} {G : Nat → Int} {F' : Nat → Int} {V' : Nat → Nat → Int} {G' : Nat → Int} (h : SameT w F V G F' V' G') {r : Nat} (hr : r < w.rooms.length) : ∀ d, d < w.days → stk w F V G r d = stk w F' V' G' r d := by
  have hc : ∀ d : Int, comes w G r d w.moves.length = comes w G' r d w.moves.length := fun d => by
    unfold comes
    refine esum_congr (fun i hi => ?_)
    rw [h.mov i (by simpa using hi)]
  intro d
  induction d with
  | zero =>
    intro hd
    show F r + (comes w G r 0 w.moves.length - V r 0) = F' r + (comes w G' r 0 w.moves.length - V' r 0)
    rw [h.fst r hr, h.vap r 0 hr hd, hc]
  | succ d ih =>
    intro hd
    show Proofs.Ythihdiilokdidaa.stk w F V G r d + (comes w G r ((d : Int) + 1) w.moves.length - V r (d + 1)) = Proofs.Ythihdiilokdidaa.stk w F' V' G' r d + (comes w G' r ((d : Int) + 1) w.moves.length - V' r (d + 1))
    rw [ih (by omega), h.vap r (d + 1) hr hd, hc]
theorem SameT.good {F : Nat → Int} {V : Nat → Nat → Int} {G : Nat → Int} {F' : Nat → Int} {V' : Nat → Nat → Int} {G' : Nat → Int} {out : Nat → Bool} (h : SameT w F V G F' V' G') (hw : WoOk w) (hg : GoodF w out F V G) : GoodF w out F' V' G' where
  tru := ⟨fun r hr => by rw [← h.fst r hr]; exact hg.tru.fst r hr, fun r d hr hd => by rw [← h.vap r d hr hd]; exact hg.tru.vap r d hr hd, fun i hi => by rw [← h.mov i hi]; exact hg.tru.mov i hi⟩
  can := fun r d hr hd => by rw [← h.stk hr d hd]; exact hg.can r d hr hd
  agr := fun i hi ho => by
    have := hw.wgs i hi
    rw [← h.stk (by omega) _ (by omega)]
    exact hg.agr i hi ho
/-- EACH TRUTH HAS A NUMBER. -/
theorem nth_ex (hw : WoOk w) {F : Nat → Int} {V : Nat → Nat → Int} {G : Nat → Int} (ht : TruF w F V G) : ∃ n, n < prodW (wdP w) (placesP w) ∧ SameT w F V G (nthF w n) (nthV w n) (nthG w n) := by
  have hD : 0 < w.days + 1 := by omega
  let C : Nat → Int := fun k => if k < w.rooms.length * (w.days + 1) then (if k % (w.days + 1) = 0 then F (k / (w.days + 1)) else V (k / (w.days + 1)) (k % (w.days + 1) - 1)) else G (k - w.rooms.length * (w.days + 1))
  have hC : ∀ k, k < placesP w → inR (C k) (rgP w k) := fun k hk => by
    show inR (if k < w.rooms.length * (w.days + 1) then (if k % (w.days + 1) = 0 then F (k / (w.days + 1)) else V (k / (w.days + 1)) (k % (w.days + 1) - 1)) else G (k - w.rooms.length * (w.days + 1))) (rgP w k)
    unfold rgP
    by_cases h : k < w.rooms.length * (w.days + 1)
    · have hq : k / (w.days + 1) < w.rooms.length := Nat.div_lt_of_lt_mul (by rw [Nat.mul_comm]; exact h)
      rw [if_pos h, if_pos h]
      by_cases h0 : k % (w.days + 1) = 0
      · rw [if_pos h0, if_pos h0]; exact ht.fst _ hq
      · rw [if_neg h0, if_neg h0]
        have := Nat.mod_lt k hD
        exact ht.vap _ _ hq (by omega)
    · rw [if_neg h, if_neg h]
      exact ht.mov _ (by unfold placesP at hk; omega)
  obtain ⟨n, hn, hd⟩ := remW_ex (wd := wdP w) (c := fun k => (C k - (rgP w k).lo).toNat) (K := placesP w) (fun k hk => by
    have h1 := hC k hk
    unfold inR at h1
    show (C k - (rgP w k).lo).toNat < ((rgP w k).hi - (rgP w k).lo + 1).toNat
    omega)
  have hv : ∀ k, k < placesP w → valP w n k = C k := fun k hk => by
    have h1 := hC k hk
    have h2 := hd k hk
    unfold inR at h1
    unfold valP
    rw [h2]
    omega
  refine ⟨n, hn, fun r hr => ?_, fun r d hr hdd => ?_, fun i hi => ?_⟩
  · have hlt := place_lt (D := w.days + 1) (j := 0) hr hD
    show F r = valP w n (r * (w.days + 1))
    rw [hv _ (by unfold placesP; omega)]
    show F r = if r * (w.days + 1) < w.rooms.length * (w.days + 1) then _ else _
    rw [if_pos (by omega), if_pos (by simp), Nat.mul_div_cancel _ hD]
  · have hlt := place_lt (D := w.days + 1) (j := 1 + d) hr (by omega)
    have hm : (r * (w.days + 1) + 1 + d) % (w.days + 1) = 1 + d := by rw [Nat.add_assoc, Nat.mul_comm, Nat.mul_add_mod, Nat.mod_eq_of_lt (by omega)]
    have hq : (r * (w.days + 1) + 1 + d) / (w.days + 1) = r := by rw [Nat.add_assoc, Nat.mul_comm, Nat.mul_add_div (by omega), Nat.div_eq_of_lt (by omega), Nat.add_zero]
    show V r d = valP w n (r * (w.days + 1) + 1 + d)
    rw [hv _ (by unfold placesP; omega)]
    show V r d = if r * (w.days + 1) + 1 + d < w.rooms.length * (w.days + 1) then _ else _
    rw [if_pos (by omega), hm, if_neg (by omega), hq, Nat.add_sub_cancel_left]
  · show G i = valP w n (w.rooms.length * (w.days + 1) + i)
    rw [hv _ (by unfold placesP; omega)]
    show G i = if w.rooms.length * (w.days + 1) + i < w.rooms.length * (w.days + 1) then _ else _
    rw [if_neg (by omega), Nat.add_sub_cancel_left]
/-- a truth with a number that can be, and agrees with all weighings but some. -/
def goodN (w : Wo) (out : Nat → Bool) (n : Nat) : Prop := GoodF w out (nthF w n) (nthV w n) (nthG w n)
def stkN (w : Wo) (n : Nat) : Nat → Nat → Int := stk w (nthF w n) (nthV w n) (nthG w n)
theorem good_iff (hw : WoOk w) (out : Nat → Bool) : Good w out ↔ ∃ n, n < prodW (wdP w) (placesP w) ∧ goodN w out n := by
  constructor
  · rintro ⟨F, V, G, hg⟩
    obtain ⟨n, hn, hs⟩ := nth_ex hw hg.tru
    exact ⟨n, hn, hs.good hw hg⟩
  · rintro ⟨n, _, hg⟩; exact ⟨_, _, _, hg⟩
theorem stkZ_iff (hw : WoOk w) (out : Nat → Bool) {r d : Nat} (hr : r < w.rooms.length) (hd : d < w.days) (z : Int) : StkZ w out r d z ↔ ∃ n, n < prodW (wdP w) (placesP w) ∧ goodN w out n ∧ stkN w n r d = z := by
  constructor
  · rintro ⟨F, V, G, hg, e⟩
    obtain ⟨n, hn, hs⟩ := nth_ex hw hg.tru
    exact ⟨n, hn, hs.good hw hg, by rw [← e]; exact (hs.stk hr d hd).symm⟩
  · rintro ⟨n, _, hg, e⟩; exact ⟨_, _, _, hg, e⟩
end
end Go.Proofs.Ythihdiilokdidaa
end

section
namespace Go.Proofs.Ythihdiilokdidaa
open Go.RowKit
section
variable {α : Type} {f : α → List Value} {sz : Nat} {w : World} {base : Nat} {e : TypeId} {v : Value} {l : List α}
theorem row_at (hf : ∀ a, (f a).length = sz) (hsz : 0 < sz) (h : w.ownsRow base e sz v l.length (l.flatMap f)) {k : Nat} (hk : k < l.length) :
    ∃ g cap, v = .slice (some ⟨g, 0, none⟩) l.length cap ∧ base ≤ g ∧ g < w.heap.size ∧ (∀ j, j < sz → w.cell? ⟨g, k * sz + j, none⟩ = (f l[k])[j]?) ∧ ∀ i, w.frozen? ⟨g, i, none⟩ = false := by
  obtain ⟨g, cap, rfl, hb, hl, _, _, hc, hfz⟩ := own_cell h (by omega)
  refine ⟨g, cap, rfl, hb, hl, fun j hj => ?_, hfz⟩
  have hlen := flat_len (f := f) (sz := sz) hf l
  have hlt : k * sz + j < l.length * sz := place_lt hk hj
  rw [hc _ (by rw [hlen]; exact hlt)]
  exact flat_get (f := f) (sz := sz) hf hk hj
theorem row_put (hf : ∀ a, (f a).length = sz) (h : w.ownsRow base e sz v l.length (l.flatMap f)) {g : Nat} (hg : v.ownBlock = some g) {k : Nat} (hk : k < l.length) {j : Nat} (hj : j < sz) {u : Value} {a : α} (ha : (f l[k]).set j u = f a) :
    (w.setCell ⟨g, k * sz + j, none⟩ u).ownsRow base e sz v (l.set k a).length ((l.set k a).flatMap f) := by
  have hlen := flat_len (f := f) (sz := sz) hf l
  have hlt : k * sz + j < l.length * sz := place_lt hk hj
  have := own_set h hg (j := k * sz + j) (by rw [hlen]; exact hlt) u
  rw [flat_set (f := f) (sz := sz) hf hk hj ha] at this
  rw [List.length_set]
  exact this
end
theorem cRm_at (l : List Rm) (k : Nat) (hk : k < l.length) (j : Nat) (hj : j < 4) : (cRm l[k])[j]? = some (fRm l k j) := by
  have hg := gRm_at hk
  match j, hj with
  | 0, _ => simp [cRm, fRm, hg]
  | 1, _ => simp [cRm, fRm, hg]
  | 2, _ => simp [cRm, fRm, hg]
  | 3, _ => simp [cRm, fRm, hg]
theorem cRm_one (a : Rm) (u : Value) (hu : u ∈ cRm a) : u.oneCell' = true := by
  simp only [cRm, List.mem_cons, List.not_mem_nil, or_false] at hu
  rcases hu with rfl | rfl | rfl | rfl <;> rfl
theorem cMv_at (l : List Mv) (k : Nat) (hk : k < l.length) (j : Nat) (hj : j < 5) : (cMv l[k])[j]? = some (fMv l k j) := by
  have hg := gMv_at hk
  match j, hj with
  | 0, _ => simp [cMv, fMv, hg]
  | 1, _ => simp [cMv, fMv, hg]
  | 2, _ => simp [cMv, fMv, hg]
  | 3, _ => simp [cMv, fMv, hg]
  | 4, _ => simp [cMv, fMv, hg]
theorem cMv_one (a : Mv) (u : Value) (hu : u ∈ cMv a) : u.oneCell' = true := by
  simp only [cMv, List.mem_cons, List.not_mem_nil, or_false] at hu
  rcases hu with rfl | rfl | rfl | rfl | rfl <;> rfl
theorem roomR_info : (Try.prog.info? 76).map (fun i => (i.zero, i.size, i.bytes)) = some (some (.agg #[.int .i64 0, .int .i64 0, .int .i64 0, .int .i64 0]), 4, 32) := by kernel_rfl
theorem moveR_info : (Try.prog.info? 78).map (fun i => (i.zero, i.size, i.bytes)) = some (some (.agg #[.int .i64 0, .int .i64 0, .int .i64 0, .int .i64 0, .int .i64 0]), 5, 40) := by kernel_rfl
theorem gRm_set {l : List Rm} {k : Nat} (hk : k < l.length) (a : Rm) (j : Nat) : gRm (l.set k a) j = if j = k then a else gRm l j := by
  unfold gRm
  rw [List.getD_eq_getElem?_getD, List.getD_eq_getElem?_getD, List.getElem?_set]
  by_cases h : k = j
  · subst h; rw [if_pos rfl, if_pos hk, if_pos rfl]; rfl
  · rw [if_neg h, if_neg (fun e => h e.symm)]
theorem gMv_set {l : List Mv} {k : Nat} (hk : k < l.length) (a : Mv) (j : Nat) : gMv (l.set k a) j = if j = k then a else gMv l j := by
  unfold gMv
  rw [List.getD_eq_getElem?_getD, List.getD_eq_getElem?_getD, List.getElem?_set]
  by_cases h : k = j
  · subst h; rw [if_pos rfl, if_pos hk, if_pos rfl]; rfl
  · rw [if_neg h, if_neg (fun e => h e.symm)]
theorem gWg_set {l : List Wg} {k : Nat} (hk : k < l.length) (a : Wg) (j : Nat) : gWg (l.set k a) j = if j = k then a else gWg l j := by
  unfold gWg
  rw [List.getD_eq_getElem?_getD, List.getD_eq_getElem?_getD, List.getElem?_set]
  by_cases h : k = j
  · subst h; rw [if_pos rfl, if_pos hk, if_pos rfl]; rfl
  · rw [if_neg h, if_neg (fun e => h e.symm)]
/-- a works with other rooms. -/
abbrev zW (s : Ws) (R : List Rm) : Ws := ⟨R, s.days, s.moves, s.wgs⟩
/-- a works with one day more. -/
abbrev Ws.more (s : Ws) : Ws := ⟨s.rooms, s.days + 1, s.moves, s.wgs⟩
/-- with one day more, and no vapour that must be. -/
structure MoreIs (s : Ws) : Prop where
  yes : stE s.more = 0
  same : ∀ r d, r < s.rooms.length → d < s.wo.days → stkR s.more.wo off0 r d = stkR s.wo off0 r d
end Go.Proofs.Ythihdiilokdidaa
end
