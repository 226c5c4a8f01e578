/- Bath's laws: Series (walk). · Bath's reference: Fault (walk). · Bath's laws: Thin, ranges, wider (walks). · Bath: a proposition as a Bool. · Bath's reference: Narrow (plain): what is left when nothing changes any more is had, end by end. -/
import Derived.Test.YtnplefhigbkbbaaQ8
import Derived.Test.YtnplefhigbkbbaaQ7
import Derived.Test.YtnplefhigbkbbaaQ2
import Derived.Test.YtnplefhigbkbbaaQ4
set_option linter.unusedVariables false
set_option linter.unusedSimpArgs false
set_option linter.unusedSectionVars false
section
namespace Go.Proofs.Ytnplefhigbkbbaa
open Go.RowKit
attribute [local go_sem] Ex.cell? Ex.frozen? Gx.cell?

/-- a series of at most nine of everything. -/
structure Thn (s : Se) : Prop where
  no : s.offs.length ≤ 9
  nb : s.baths.length ≤ 9
  nr : ∀ b, b < s.baths.length → (gBt s.baths b).reads.length ≤ 9
theorem Thn.sm {s : Se} (h : Thn s) : Sm s := ⟨by have := h.no; omega, by have := h.nb; omega, fun k hk => by have := h.nr k hk; omega⟩
theorem rd_info : (Try.prog.info? 118).map (fun i => (i.zero, i.size, i.bytes)) = some (some (.agg #[.int .i64 0, .int .i64 0]), 2, 16) := by kernel_rfl
theorem gBt_at {l : List Bt} {k : Nat} (hk : k < l.length) : gBt l k = l[k] := by simp [gBt, hk]

set_option maxRecDepth 100000 in
set_option maxHeartbeats 12800000 in
theorem Series_law (s : Se) (Ao Ab : Option Addr) (co cb : Nat) (rA : Nat → Option Addr) (rc : Nat → Nat) (w : World) (hs : SeIn w w.heap.size s Ao Ab rA rc) (ht : Thn s) :
    Calls Try.prog 22 #[.agg #[.slice Ao s.offs.length co, .int .i64 s.err, .slice Ab s.baths.length cb]] w fun e w' => (∃ Ao' Ab' co' cb' rA' rc', e = .returned (.agg #[.slice Ao' s.offs.length co', .int .i64 s.err, .slice Ab' s.baths.length cb']) ∧ SeIn w' w'.heap.size s Ao' Ab' rA' rc') ∧ Below w.heap.size w w' := by
  obtain ⟨i0, hi0, hz0, hz1, hz2⟩ := info_parts range_info
  have HI := Lib.hid hi0
  obtain ⟨i1, hi1, hy0, hy1, hy2⟩ := info_parts rd_info
  have HJ := Lib.hid hi1
  obtain ⟨i2, hi2, hu0, hu1, hu2⟩ := info_parts bath_info
  have HK := Lib.hid hi2
  clear hi0 hi1 hi2
  have hno := ht.no
  have hnb := ht.nb
  have HT := Lib.hid ht
  clear ht
  have hb1 := ex_alloc (ex_alloc (ex_alloc (Below.refl w.heap.size w) (.cells #[.slice Ao s.offs.length co, .int .i64 s.err, .slice Ab s.baths.length cb] 25)) (.cells #[.slice none 0 0, .int .i64 0, .slice none 0 0] 34)) (.cells #[.slice none 0 0, .int .i64 s.err, .slice none 0 0] 34)
  have q0 : Blk (((w.alloc (.cells #[.slice Ao s.offs.length co, .int .i64 s.err, .slice Ab s.baths.length cb] 25)).alloc (.cells #[.slice none 0 0, .int .i64 0, .slice none 0 0] 34)).alloc (.cells #[.slice none 0 0, .int .i64 s.err, .slice none 0 0] 34)) w.heap.size 25 #[.slice Ao s.offs.length co, .int .i64 s.err, .slice Ab s.baths.length cb] := ((Blk.new _ _ _).alloc _).alloc _
  have q1 : Blk (((w.alloc (.cells #[.slice Ao s.offs.length co, .int .i64 s.err, .slice Ab s.baths.length cb] 25)).alloc (.cells #[.slice none 0 0, .int .i64 0, .slice none 0 0] 34)).alloc (.cells #[.slice none 0 0, .int .i64 s.err, .slice none 0 0] 34)) (w.heap.size + 1) 34 #[.slice none 0 0, .int .i64 0, .slice none 0 0] := (Blk.new' _ _ _ (by simp)).alloc _
  have q2 : Blk (((w.alloc (.cells #[.slice Ao s.offs.length co, .int .i64 s.err, .slice Ab s.baths.length cb] 25)).alloc (.cells #[.slice none 0 0, .int .i64 0, .slice none 0 0] 34)).alloc (.cells #[.slice none 0 0, .int .i64 s.err, .slice none 0 0] 34)) (w.heap.size + 1 + 1) 34 #[.slice none 0 0, .int .i64 s.err, .slice none 0 0] := Blk.new' _ _ _ (by simp)
  go_enter Try.func22, Try.ntmps22
  go_wp2_with fail
  have hVs : w.heap.size + 1 + 1 + 1 ≤ (((w.alloc (.cells #[.slice Ao s.offs.length co, .int .i64 s.err, .slice Ab s.baths.length cb] 25)).alloc (.cells #[.slice none 0 0, .int .i64 0, .slice none 0 0] 34)).alloc (.cells #[.slice none 0 0, .int .i64 s.err, .slice none 0 0] 34)).heap.size := by simp
  generalize ((w.alloc (.cells #[.slice Ao s.offs.length co, .int .i64 s.err, .slice Ab s.baths.length cb] 25)).alloc (.cells #[.slice none 0 0, .int .i64 0, .slice none 0 0] 34)).alloc (.cells #[.slice none 0 0, .int .i64 s.err, .slice none 0 0] 34) = V at *
  refine wp_loop (fun a W => Rel (fun a W => ∃ k : Nat, k ≤ s.offs.length ∧ Below w.heap.size w W ∧ w.heap.size + 1 + 1 + 1 ≤ W.heap.size ∧ Blk W w.heap.size 25 #[.slice Ao s.offs.length co, .int .i64 s.err, .slice Ab s.baths.length cb] ∧ Blk W (w.heap.size + 1) 34 #[.slice none 0 0, .int .i64 0, .slice none 0 0] ∧ ∃ v, ∃ L : List Rg, Hid (L = s.offs.take k) ∧ Blk W (w.heap.size + 1 + 1) 34 #[v, .int .i64 s.err, .slice none 0 0] ∧ W.ownsRow (w.heap.size + 1 + 1 + 1) 41 2 v L.length (L.flatMap cR) ∧ ∃ u : Nat → Value, a = ⟨List.toArray (u 0 :: .pointer (some ⟨w.heap.size, 0, none⟩) :: .pointer (some ⟨w.heap.size + 1, 0, none⟩) :: .pointer (some ⟨w.heap.size + 1 + 1, 0, none⟩) :: .int .i64 (k : Int) :: u 5 :: u 6 :: u 7 :: u 8 :: u 9 :: u 10 :: u 11 :: u 12 :: u 13 :: u 14 :: u 15 :: u 16 :: u 17 :: u 18 :: u 19 :: u 20 :: u 21 :: u 22 :: u 23 :: u 24 :: u 25 :: u 26 :: u 27 :: u 28 :: u 29 :: u 30 :: u 31 :: u 32 :: u 33 :: u 34 :: u 35 :: u 36 :: u 37 :: u 38 :: u 39 :: u 40 :: u 41 :: u 42 :: u 43 :: u 44 :: u 45 :: u 46 :: u 47 :: u 48 :: u 49 :: u 50 :: u 51 :: u 52 :: u 53 :: u 54 :: u 55 :: u 56 :: u 57 :: u 58 :: u 59 :: u 60 :: u 61 :: u 62 :: u 63 :: u 64 :: u 65 :: u 66 :: u 67 :: u 68 :: u 69 :: u 70 :: u 71 :: u 72 :: u 73 :: u 74 :: u 75 :: u 76 :: u 77 :: u 78 :: u 79 :: u 80 :: u 81 :: []), []⟩) a W)
    (fun a _ => s.offs.length - (intOf (a.tmps.getD 4 undef)).toNat) ⟨⟨0, by omega, hb1, hVs, q0, q1, .slice none 0 0, [], Lib.hid rfl, q2, ⟨rfl, .inl ⟨rfl, rfl⟩⟩, exFrame (by kernel_rfl)⟩⟩ ?_
  clear hb1 hVs q0 q1 q2 V
  rintro a W ⟨⟨k, hk, hbl, hsz, q0, q1, v, L, HL, q2, hown, u, rfl⟩⟩
  have l0 := q0.lt
  have l1 := q1.lt
  have l2 := q2.lt
  have a0 : W.cell? ⟨w.heap.size, 0, none⟩ = some (.slice Ao s.offs.length co) := q0.cell 0
  by_cases hlt : k < s.offs.length
  · --BEGIN o1
    obtain ⟨br, orr, rfl, hbr, r0, r1⟩ := IsRgs.at_ (hs.offs.below hbl) hlt
    have lbr : br < W.heap.size := by omega
    have hlen : L.length = k := by rw [HL.out, List.length_take]; omega
    have hat : (s.offs[k] : Rg) = gR s.offs k := (gR_at hlt).symm
    obtain ⟨lo, hlo⟩ : ∃ lo, (gR s.offs k).lo = lo := ⟨_, rfl⟩
    obtain ⟨hi, hhi⟩ : ∃ hi, (gR s.offs k).hi = hi := ⟨_, rfl⟩
    rw [hlo] at r0
    rw [hhi] at r1
    have HN : Hid (L ++ [⟨lo, hi⟩] = s.offs.take (k + 1)) := Lib.hid (take_push hlt HL.out (by rw [hat, ← hlo, ← hhi]))
    have HLEN := Lib.hid hlen
    clear hlo hhi hat hlen
    obtain ⟨row, hrow⟩ : ∃ row, v.ownBlock = row := ⟨_, rfl⟩
    have hge := fun (j : Nat) (hj : v.ownBlock = some j) => own_ge hown hj
    have hn0 : ¬ some w.heap.size = row := fun e => by have := hge _ (hrow.trans e.symm); omega
    have hn1 : ¬ some (w.heap.size + 1) = row := fun e => by have := hge _ (hrow.trans e.symm); omega
    have hn2 : ¬ some (w.heap.size + 1 + 1) = row := fun e => by have := hge _ (hrow.trans e.symm); omega
    have hnr : ¬ some br = row := fun e => by have := hge _ (hrow.trans e.symm); omega
    have hrw : ∀ j, row = some j → w.heap.size ≤ j := fun j hj => by have := hge _ (hrow.trans hj); omega
    have e2 : W.cell? ⟨w.heap.size + 1 + 1, 0, none⟩ = some v := q2.cell 0
    have HROW := Lib.hid hrow
    have hlk : L.length ≤ 1000 := by rw [HLEN.out]; omega
    clear hrow hge
    go_wp2_with fail
    refine wp_region_gx_mix row 11 [(false, 0), (false, 1), (false, 2), (false, 3), (false, 4), (false, 5), (false, 6), (true, 7), (true, 8), (true, 9), (false, 10)] (by kernel_rfl) (by kernel_rfl) (by intro d _ _ _ _ h; cases d <;> exact h) ?_
    repeat (refine mix_quiet rfl ?_; go_big_quiet_step (fail); refine wpQuiet_nil ?_)
    have hX0 := (Below.refl W.heap.size W).drew
    refine mix_loud rfl ?_
    go_wp2_with fail
    refine (to_law lo hi W.drew).mono ?_
    rintro e x1 ⟨rfl, hx1⟩
    have hX_x1 := ex_trans hX0 hx1
    go_wp2_with fail
    refine ⟨inGx (grown_row hX_x1), ?_⟩
    repeat (refine mix_quiet rfl ?_; go_big_quiet_step (fail); refine wpQuiet_nil ?_)
    refine mix_loud rfl ?_
    go_wp2_with fail
    have hX2 := ex_alloc hX_x1 (.cells #[.int .i64 lo, .int .i64 hi] 41)
    refine ⟨inGx (grown_row hX2), ?_⟩
    repeat (refine mix_quiet rfl ?_; go_big_quiet_step (fail); refine wpQuiet_nil ?_)
    have y4 := own_below hown hX2
    have c63 : L.length + 1 ≤ maxLen := by unfold maxLen; omega
    have cby : (L.length + 1) * 16 ≤ 140737488355328 := by omega
    have hbase : w.heap.size + 1 + 1 + 1 ≤ (x1.alloc (.cells #[.int .i64 lo, .int .i64 hi] 41)).heap.size := by have := hX2.size; omega
    refine mix_loud rfl ?_
    go_wp2_with (at_builtin; refine wpList_append_lies _ rfl _ _ _ rfl (w.heap.size + 1 + 1 + 1) 41 i0 _ 2 16 Try.underlying28 HI.out hz0 hz1 hz2 rfl (by omega) v _ _ rfl y4 ⟨x1.heap.size, 0, none⟩ 1 1 [.int .i64 lo, .int .i64 hi] rfl rfl (World.news_of_block (heap_alloc_new x1 _)) (by simp [Value.oneCell']) (by omega) c63 cby hbase (x1.heap.size + 1) (by simp) ?_; intro gg cap w1 hown' hgrow hat hlt')
    rw [HROW.out] at hgrow
    have hgB := (grown_row (r := row) hX2).andThen hgrow (fun j hj => .inr hj)
    refine ⟨inGx hgB, ?_⟩
    repeat (refine mix_quiet rfl ?_; go_big_quiet_step (fail); refine wpQuiet_nil ?_)
    refine mix_nil rfl ?_
    have B5 := hbl.grown hgB hbl.size hrw
    have p0 := q0.grown hgB hn0
    have p1 := q1.grown hgB hn1
    have p2 := q2.grown hgB hn2
    have f0 : w1.cell? ⟨w.heap.size + 1 + 1, 0, none⟩ = some v := p2.cell 0
    have ff := p2.frozen0
    have lp0 := p0.lt
    have lp1 := p1.lt
    have lp2 := p2.lt
    have hs7 : w.heap.size + 1 + 1 + 1 ≤ w1.heap.size := by have := hgB.size; omega
    have own7 := own_push (f := cR) (x := ⟨lo, hi⟩) rfl hown'
    have own8 := own_far own7 (p := ⟨w.heap.size + 1 + 1, 0, none⟩) (by show w.heap.size + 1 + 1 < w.heap.size + 1 + 1 + 1; omega) (.slice (some ⟨gg, 0, none⟩) (L.length + 1) cap)
    have B8 := ex_set B5 (p := ⟨w.heap.size + 1 + 1, 0, none⟩) (by show w.heap.size ≤ w.heap.size + 1 + 1; omega) (.slice (some ⟨gg, 0, none⟩) (L.length + 1) cap)
    have p08 := p0.far (p := ⟨w.heap.size + 1 + 1, 0, none⟩) (by show w.heap.size ≠ w.heap.size + 1 + 1; omega) (.slice (some ⟨gg, 0, none⟩) (L.length + 1) cap)
    have p18 := p1.far (p := ⟨w.heap.size + 1 + 1, 0, none⟩) (by show w.heap.size + 1 ≠ w.heap.size + 1 + 1; omega) (.slice (some ⟨gg, 0, none⟩) (L.length + 1) cap)
    have p28 := p2.set_ 0 (.slice (some ⟨gg, 0, none⟩) (L.length + 1) cap)
    simp only [List.setIfInBounds_toArray, List.set_cons_zero] at p28
    clear hown' own7 hgB hgrow y4 hX2 hX_x1 hX0 hx1 e2 a0 q0 q1 q2 p0 p1 hown hnr hn0 hn1 hn2 r0 r1
    go_wp2_with fail
    refine ⟨⟨⟨k + 1, by omega, B8, by simp; omega, p08, p18, _, _, HN, p28, own8, exFrame (by kernel_rfl)⟩⟩, ?_⟩
    show s.offs.length - (intOf (.int .i64 ((k : Int) + 1))).toNat < s.offs.length - (intOf (.int .i64 (k : Int))).toNat
    simp [intOf]
    omega
  obtain rfl : k = s.offs.length := by omega
  have hLL : L = s.offs := HL.out.trans List.take_length
  clear HL
  subst hLL
  obtain ⟨A1, c1, rfl, _, _, ro⟩ := own_row (c := cR) (sz := 2) (fun _ => rfl) (f := fR s.offs) (fun k hk j hj => by
    have e := gR_at hk
    match j, hj with
    | 0, _ => simp [cR, fR, e]
    | 1, _ => simp [cR, fR, e]) hown
  clear hown
  go_wp2_with fail
  refine wp_loop (fun a W => Rel (fun a W => ∃ k : Nat, k ≤ s.baths.length ∧ Below w.heap.size w W ∧ w.heap.size + 1 + 1 + 1 ≤ W.heap.size ∧ Blk W w.heap.size 25 #[.slice Ao s.offs.length co, .int .i64 s.err, .slice Ab s.baths.length cb] ∧ Blk W (w.heap.size + 1) 34 #[.slice none 0 0, .int .i64 0, .slice none 0 0] ∧ RowAt W (w.heap.size + 1 + 1 + 1) 41 2 A1 s.offs.length (fR s.offs) ∧ ∃ v, ∃ X : List Xb, Hid (X.map (·.1) = s.baths.take k) ∧ Blk W (w.heap.size + 1 + 1) 34 #[.slice A1 s.offs.length c1, .int .i64 s.err, v] ∧ BOwn W (w.heap.size + 1 + 1 + 1) v X ∧ ∃ u : Nat → Value, a = ⟨List.toArray (u 0 :: .pointer (some ⟨w.heap.size, 0, none⟩) :: .pointer (some ⟨w.heap.size + 1, 0, none⟩) :: .pointer (some ⟨w.heap.size + 1 + 1, 0, none⟩) :: u 4 :: .int .i64 (k : Int) :: u 6 :: u 7 :: u 8 :: u 9 :: u 10 :: u 11 :: u 12 :: u 13 :: u 14 :: u 15 :: u 16 :: u 17 :: u 18 :: u 19 :: u 20 :: u 21 :: u 22 :: u 23 :: u 24 :: u 25 :: u 26 :: u 27 :: u 28 :: u 29 :: u 30 :: u 31 :: u 32 :: u 33 :: u 34 :: u 35 :: u 36 :: u 37 :: u 38 :: u 39 :: u 40 :: u 41 :: u 42 :: u 43 :: u 44 :: u 45 :: u 46 :: u 47 :: u 48 :: u 49 :: u 50 :: u 51 :: u 52 :: u 53 :: u 54 :: u 55 :: u 56 :: u 57 :: u 58 :: u 59 :: u 60 :: u 61 :: u 62 :: u 63 :: u 64 :: u 65 :: u 66 :: u 67 :: u 68 :: u 69 :: u 70 :: u 71 :: u 72 :: u 73 :: u 74 :: u 75 :: u 76 :: u 77 :: u 78 :: u 79 :: u 80 :: u 81 :: []), []⟩) a W)
    (fun a _ => s.baths.length - (intOf (a.tmps.getD 5 undef)).toNat) ⟨⟨0, by omega, hbl, hsz, q0, q1, ro, .slice none 0 0, [], Lib.hid rfl, q2, NOwn.nil, exFrame (by kernel_rfl)⟩⟩ ?_
  clear hbl hsz q0 q1 ro q2 a0 l0 l1 l2 hlt hk W
  rintro a W ⟨⟨k, hk, hbl, hsz, q0, q1, ro, v, X, HL, q2, hN, u, rfl⟩⟩
  have l0 := q0.lt
  have l1 := q1.lt
  have l2 := q2.lt
  have a2 : W.cell? ⟨w.heap.size, 2, none⟩ = some (.slice Ab s.baths.length cb) := q0.cell 2
  by_cases hlt : k < s.baths.length
  rotate_left
  · --BEGIN o2
    obtain rfl : k = s.baths.length := by omega
    have hXb : X.map (·.1) = s.baths := HL.out.trans List.take_length
    have HXB := Lib.hid hXb
    obtain ⟨A', c', e, _, _, _⟩ := own_row (c := cB) (sz := 3) (fun _ => rfl) (cB_at X) hN.own
    have hXl : X.length = s.baths.length := by rw [← hXb, List.length_map]
    rw [hXl] at e
    subst e
    clear HL hXb hXl
    have z0 : W.cell? ⟨w.heap.size + 1, 0, none⟩ = some (.slice none 0 0) := q1.cell 0
    have z1 : W.cell? ⟨w.heap.size + 1, 1, none⟩ = some (.int .i64 0) := q1.cell 1
    have z2 : W.cell? ⟨w.heap.size + 1, 2, none⟩ = some (.slice none 0 0) := q1.cell 2
    have b0 : W.cell? ⟨w.heap.size + 1 + 1, 0, none⟩ = some (.slice A1 s.offs.length c1) := q2.cell 0
    have b1 : W.cell? ⟨w.heap.size + 1 + 1, 1, none⟩ = some (.int .i64 s.err) := q2.cell 1
    have b2 : W.cell? ⟨w.heap.size + 1 + 1, 2, none⟩ = some (.slice A' s.baths.length c') := q2.cell 2
    have ff := q1.frozen0
    have hw1 : w.heap.size ≤ w.heap.size + 1 := by omega
    have B9 := ex_set (ex_set (ex_set hbl (p := ⟨w.heap.size + 1, 0, none⟩) hw1 (.slice A1 s.offs.length c1)) (p := ⟨w.heap.size + 1, 1, none⟩) hw1 (.int .i64 s.err)) (p := ⟨w.heap.size + 1, 2, none⟩) hw1 (.slice A' s.baths.length c')
    have q8a := q1.set_ 0 (.slice A1 s.offs.length c1)
    have q8b := q8a.set_ 1 (.int .i64 s.err)
    have q8 := q8b.set_ 2 (.slice A' s.baths.length c')
    have ro9 := ((ro.set q1 (by decide) 0 (.slice A1 s.offs.length c1)).set q8a (by decide) 1 (.int .i64 s.err)).set q8b (by decide) 2 (.slice A' s.baths.length c')
    have hN9 := ((hN.set q1 (by decide) (by decide) 0 (.slice A1 s.offs.length c1)).set q8a (by decide) (by decide) 1 (.int .i64 s.err)).set q8b (by decide) (by decide) 2 (.slice A' s.baths.length c')
    simp only [List.setIfInBounds_toArray, List.set_cons_zero, List.set_cons_succ] at q8
    clear q8a q8b
    obtain ⟨Ab9, cb9, rA9, rc9, e9, hse⟩ := BOwn.se hN9 HXB.out ro9.sl
    injection e9 with e9 _ e92
    subst e9 e92
    clear hN hN9 ro ro9 HXB
    go_wp2
    refine bodyPost_ret (results_cell_row rfl _ _ (w.heap.size + 1) 34 #[.slice A1 s.offs.length c1, .int .i64 s.err, .slice A' s.baths.length c'] (0, 0) _ rfl q8 rfl rfl rfl) rfl ?_
    exact ⟨⟨_, _, ⟨_, _, rfl⟩, _, _, hse⟩, B9⟩
  have hsW := hs.below hbl
  obtain ⟨bb, ob, rfl, hbb, g0, g1, g2⟩ := IsBts.at_ hsW.baths hlt
  have hrd := hs.reads k hlt
  have hrl := HT.out.nr k hlt
  have hlen : X.length = k := by
    have := congrArg List.length HL.out
    rw [List.length_map, List.length_take] at this
    omega
  have hat := gBt_at hlt
  obtain ⟨lo, hlo⟩ : ∃ lo, (gBt s.baths k).heat.lo = lo := ⟨_, rfl⟩
  obtain ⟨hi, hhi⟩ : ∃ hi, (gBt s.baths k).heat.hi = hi := ⟨_, rfl⟩
  obtain ⟨rd, hrdE⟩ : ∃ rd, (gBt s.baths k).reads = rd := ⟨_, rfl⟩
  obtain ⟨Ar, hAr⟩ : ∃ Ar, rA k = Ar := ⟨_, rfl⟩
  obtain ⟨cr, hcr⟩ : ∃ cr, rc k = cr := ⟨_, rfl⟩
  have hgb : ∀ Y, Below w.heap.size w Y → Y.cell? ⟨bb, ob + k * 3 + 2, none⟩ = some (.slice Ar rd.length cr) := fun Y hY => by
    obtain ⟨b', o', e, _, _, _, h⟩ := IsBts.at_ (hs.baths.below hY) hlt
    injection e with e
    injection e with e1 e2
    subst e1 e2
    rw [h, hAr, hcr, hrdE]
  rw [hlo] at g0
  rw [hhi] at g1
  rw [hrdE, hAr] at hrd
  rw [hrdE] at hrl
  rw [hrdE, hAr, hcr] at g2
  have HBK : Hid (s.baths[k] = ⟨⟨lo, hi⟩, rd⟩) := Lib.hid (by rw [← hat, ← hlo, ← hhi, ← hrdE])
  have HLEN := Lib.hid hlen
  have hxl : X.length ≤ 1000 := by omega
  clear hlo hhi hrdE hAr hcr hat hlen hsW
  have HGB := Lib.hid hgb
  clear hgb
  have lbb : bb < W.heap.size := by omega
  go_wp2_with fail
  refine (to_law lo hi W).mono ?_
  rintro e X1 ⟨rfl, hX1⟩
  have B1 := ex_trans hbl hX1
  have q01 := q0.below hX1 l0
  have q11 := q1.below hX1 l1
  have q21 := q2.below hX1 l2
  have ro1 := ro.below hX1
  have hN1 := hN.below hX1
  have hs1 := hX1.size
  have HX0 := Blk.new X1 116 #[.int .i64 lo, .int .i64 hi, .slice none 0 0]
  have hX2 := ex_alloc (Below.refl X1.heap.size X1) (.cells #[.int .i64 lo, .int .i64 hi, .slice none 0 0] 116)
  have hX2s : X1.heap.size + 1 ≤ (X1.alloc (.cells #[.int .i64 lo, .int .i64 hi, .slice none 0 0] 116)).heap.size := by simp
  go_wp2_with fail
  obtain ⟨px, hpx⟩ : ∃ px, X1.heap.size = px := ⟨_, rfl⟩
  have HPX := Lib.hid hpx
  generalize X1.alloc (.cells #[.int .i64 lo, .int .i64 hi, .slice none 0 0] 116) = X2 at *
  rw [hpx] at HX0 hX2s ⊢
  clear hpx q0 q1 q2 ro hN hbl l0 l1 l2 a2 g0 g1 g2 hX1
  refine wp_loop (fun a Y => Rel (fun a Y => ∃ i : Nat, i ≤ rd.length ∧ Below X1.heap.size X1 Y ∧ px + 1 ≤ Y.heap.size ∧ ∃ A3 c3, ∃ L3 : List Rd, Hid (L3 = rd.take i) ∧ Blk Y px 116 #[.int .i64 lo, .int .i64 hi, .slice A3 L3.length c3] ∧ Y.ownsRow (px + 1) 118 2 (.slice A3 L3.length c3) L3.length (L3.flatMap cRd) ∧ ∃ u : Nat → Value, a = ⟨List.toArray (u 0 :: .pointer (some ⟨w.heap.size, 0, none⟩) :: .pointer (some ⟨w.heap.size + 1, 0, none⟩) :: .pointer (some ⟨w.heap.size + 1 + 1, 0, none⟩) :: u 4 :: .int .i64 (k : Int) :: .pointer (some ⟨px, 0, none⟩) :: .int .i64 (i : Int) :: u 8 :: u 9 :: u 10 :: u 11 :: u 12 :: u 13 :: u 14 :: u 15 :: u 16 :: u 17 :: u 18 :: u 19 :: u 20 :: u 21 :: u 22 :: u 23 :: u 24 :: u 25 :: u 26 :: u 27 :: u 28 :: u 29 :: u 30 :: u 31 :: u 32 :: u 33 :: u 34 :: u 35 :: u 36 :: u 37 :: u 38 :: u 39 :: u 40 :: u 41 :: u 42 :: u 43 :: u 44 :: u 45 :: u 46 :: u 47 :: u 48 :: u 49 :: u 50 :: u 51 :: u 52 :: u 53 :: u 54 :: u 55 :: u 56 :: u 57 :: u 58 :: u 59 :: u 60 :: u 61 :: u 62 :: u 63 :: u 64 :: u 65 :: u 66 :: u 67 :: u 68 :: u 69 :: u 70 :: u 71 :: u 72 :: u 73 :: u 74 :: u 75 :: u 76 :: u 77 :: u 78 :: u 79 :: u 80 :: u 81 :: []), []⟩) a Y)
    (fun a _ => rd.length - (intOf (a.tmps.getD 7 undef)).toNat) ⟨⟨0, by omega, hX2, hX2s, none, 0, [], Lib.hid rfl, HX0, ⟨rfl, .inl ⟨rfl, rfl⟩⟩, exFrame (by kernel_rfl)⟩⟩ ?_
  clear HX0 hX2 hX2s X2
  rintro a Y ⟨⟨i, hi', hbX, hsY, A3, c3, L3, HL3, qx, own3, u, rfl⟩⟩
  have BY := ex_trans B1 hbX
  have q0 := q01.below hbX q01.lt
  have q1 := q11.below hbX q11.lt
  have q2 := q21.below hbX q21.lt
  have l0 := q0.lt
  have l1 := q1.lt
  have l2 := q2.lt
  have lx := qx.lt
  have a2 : Y.cell? ⟨w.heap.size, 2, none⟩ = some (.slice (some ⟨bb, ob, none⟩) s.baths.length cb) := q0.cell 2
  have g2 := HGB.out Y BY
  have lbY : bb < Y.heap.size := by have := hbX.size; omega
  have hpX := HPX.out
  by_cases hli : i < rd.length
  · --BEGIN o4
    obtain ⟨br, orr, rfl, hbr, r0, r1⟩ := IsRds.at_ (hrd.below BY) hli
    have lbr : br < Y.heap.size := by have := BY.size; omega
    have hlen3 : L3.length = i := by rw [HL3.out, List.length_take]; omega
    have hat3 := gRd_at hli
    obtain ⟨iv, hiv⟩ : ∃ iv, (gRd rd i).inst = iv := ⟨_, rfl⟩
    obtain ⟨vv, hvv⟩ : ∃ vv, (gRd rd i).val = vv := ⟨_, rfl⟩
    rw [hiv] at r0
    rw [hvv] at r1
    have HN3 : Hid (L3 ++ [⟨iv, vv⟩] = rd.take (i + 1)) := Lib.hid (take_push hli HL3.out (by rw [← hat3, ← hiv, ← hvv]))
    have hl3 : L3.length ≤ 1000 := by omega
    clear hiv hvv hat3 hlen3
    have hY1 := ex_alloc (Below.refl Y.heap.size Y) (.cells #[.int .i64 iv, .int .i64 vv] 89)
    have x1' : Y.cell? ⟨px, 2, none⟩ = some (.slice A3 L3.length c3) := qx.cell 2
    have qx1 := qx.below hY1 lx
    have own31 := own_below own3 hY1
    have c63 : L3.length + 1 ≤ maxLen := by unfold maxLen; omega
    have cby : (L3.length + 1) * 16 ≤ 140737488355328 := by omega
    have y4 := own31.alloc (.cells #[.int .i64 iv, .int .i64 vv] 118)
    have hY2 := ex_alloc hY1 (.cells #[.int .i64 iv, .int .i64 vv] 118)
    have qx2 := qx.below hY2 lx
    have hbase : px + 1 ≤ ((Y.alloc (.cells #[.int .i64 iv, .int .i64 vv] 89)).alloc (.cells #[.int .i64 iv, .int .i64 vv] 118)).heap.size := by have := hY2.size; omega
    have hge := fun (j : Nat) (hj : (Value.slice A3 L3.length c3).ownBlock = some j) => own_ge own31 hj
    have hnx : some px ≠ (Value.slice A3 L3.length c3).ownBlock := fun e => by have := hge _ e.symm; omega
    have hX1Y2 := ex_trans hbX hY2
    clear own3
    go_wp2_with (refine pause_at 73 rfl ?_)
    refine Paused.mk ?_
    refine wpList_append_lies _ rfl _ _ _ rfl (px + 1) 118 i1 _ 2 16 Try.underlying114 HJ.out hy0 hy1 hy2 rfl (by omega) (.slice A3 L3.length c3) _ _ rfl y4 ⟨Y.heap.size + 1, 0, none⟩ 1 1 [.int .i64 iv, .int .i64 vv] rfl rfl (World.news_of_block (heap_alloc_at _ _ (by simp))) (by simp [Value.oneCell']) (by omega) c63 cby hbase (Y.heap.size + 1 + 1) (by simp) ?_
    intro gg cap w1 hown' hgrow hat hlt'
    have qx3 := qx2.grown hgrow hnx
    have x13 : w1.cell? ⟨px, 2, none⟩ = some (.slice A3 L3.length c3) := qx3.cell 2
    have lx3 := qx3.lt
    have fx3 := qx3.frozen0
    go_wp2_with fail
    have qx4 := qx3.set_ 2 (.slice (some ⟨gg, 0, none⟩) (L3.length + 1) cap)
    simp only [List.setIfInBounds_toArray, List.set_cons_zero, List.set_cons_succ] at qx4
    have own4 := own_far (own_push (f := cRd) (x := ⟨iv, vv⟩) rfl hown') (p := ⟨px, 2, none⟩) (by show px < px + 1; omega) (.slice (some ⟨gg, 0, none⟩) (L3.length + 1) cap)
    have hB4 : Below X1.heap.size X1 w1 := hX1Y2.grown hgrow hX1Y2.size (fun j hj => by have := hge j hj; omega)
    have hB5 := ex_set hB4 (p := ⟨px, 2, none⟩) (by show X1.heap.size ≤ px; omega) (.slice (some ⟨gg, 0, none⟩) (L3.length + 1) cap)
    have hs5 : px + 1 ≤ (w1.setCell ⟨px, 2, none⟩ (.slice (some ⟨gg, 0, none⟩) (L3.length + 1) cap)).heap.size := by have := hgrow.size; simp; omega
    generalize hL4 : L3 ++ [(⟨iv, vv⟩ : Rd)] = L4 at *
    have hl4 : L3.length + 1 = L4.length := by rw [← hL4]; simp
    have HL4 := Lib.hid hl4
    clear hL4 hl4
    rw [HL4.out] at qx4 own4 hB5 hs5 ⊢
    refine ⟨⟨⟨i + 1, by omega, hB5, hs5, _, _, L4, HN3, qx4, own4, exFrame (by kernel_rfl)⟩⟩, ?_⟩
    show rd.length - (intOf (.int .i64 ((i : Int) + 1))).toNat < rd.length - (intOf (.int .i64 (i : Int))).toNat
    simp [intOf]
    omega
  obtain rfl : i = rd.length := by omega
  have hL3 : L3 = rd := HL3.out.trans List.take_length
  clear HL3
  subst hL3
  obtain ⟨A5, c5, e5, _, _, hr5⟩ := own_row (c := cRd) (sz := 2) (fun _ => rfl) (f := fRd L3) (fun k hk j hj => by
    have e := gRd_at hk
    match j, hj with
    | 0, _ => simp [cRd, fRd, e]
    | 1, _ => simp [cRd, fRd, e]) own3
  injection e5 with e5 _ e52
  subst e5 e52
  have roY := ro1.below hbX
  have hNY := hN1.below hbX
  clear own3 q01 q11 q21 ro1 hN1
  have x0 : Y.cell? ⟨px, 0, none⟩ = some (.int .i64 lo) := qx.cell 0
  have x1 : Y.cell? ⟨px, 1, none⟩ = some (.int .i64 hi) := qx.cell 1
  have x2 : Y.cell? ⟨px, 2, none⟩ = some (.slice A3 L3.length c3) := qx.cell 2
  have b2 : Y.cell? ⟨w.heap.size + 1 + 1, 2, none⟩ = some v := q2.cell 2
  have c63 : X.length + 1 ≤ maxLen := by unfold maxLen; omega
  have cby : (X.length + 1) * 40 ≤ 140737488355328 := by omega
  have hZ := ex_alloc (Below.refl Y.heap.size Y) (.cells #[.int .i64 lo, .int .i64 hi, .slice A3 L3.length c3] 116)
  have y4 := hNY.own.alloc (.cells #[.int .i64 lo, .int .i64 hi, .slice A3 L3.length c3] 116)
  have hbase : w.heap.size + 1 + 1 + 1 ≤ (Y.alloc (.cells #[.int .i64 lo, .int .i64 hi, .slice A3 L3.length c3] 116)).heap.size := by have := hZ.size; omega
  have hge := fun (j : Nat) (hj : v.ownBlock = some j) => own_ge hNY.own hj
  have hn0 : some w.heap.size ≠ v.ownBlock := fun e => by have := hge _ e.symm; omega
  have hn1 : some (w.heap.size + 1) ≠ v.ownBlock := fun e => by have := hge _ e.symm; omega
  have hn2 : some (w.heap.size + 1 + 1) ≠ v.ownBlock := fun e => by have := hge _ e.symm; omega
  have q0Z := q0.below hZ l0
  have q1Z := q1.below hZ l1
  have q2Z := q2.below hZ l2
  go_wp2_with (refine pause_at 79 rfl ?_)
  refine Paused.mk ?_
  refine wpList_append_lies _ rfl _ _ _ rfl (w.heap.size + 1 + 1 + 1) 116 i2 _ 3 40 Try.underlying32 HK.out hu0 hu1 hu2 rfl (by omega) v _ _ rfl y4 ⟨Y.heap.size, 0, none⟩ 1 1 [.int .i64 lo, .int .i64 hi, .slice A3 L3.length c3] rfl rfl (World.news_of_block (heap_alloc_new Y _)) (by simp [Value.oneCell']) (by omega) c63 cby hbase (Y.heap.size + 1) (by simp) ?_
  intro gg cap w1 hown' hgrow hat hlt'
  have q23 := q2Z.grown hgrow hn2
  have b23 : w1.cell? ⟨w.heap.size + 1 + 1, 2, none⟩ = some v := q23.cell 2
  have l23 := q23.lt
  have f23 := q23.frozen0
  go_wp2_with fail
  have q03 := q0Z.grown hgrow hn0
  have q13 := q1Z.grown hgrow hn1
  have hN3 : BOwn w1 (w.heap.size + 1 + 1 + 1) (.slice (some ⟨gg, 0, none⟩) (X.length + 1) cap) (X ++ [((⟨⟨lo, hi⟩, L3⟩ : Bt), A3, c3)]) :=
    NOwn.push (hNY.below hZ) hgrow (by decide) rfl (own_push (f := cB) (x := ((⟨⟨lo, hi⟩, L3⟩ : Bt), A3, c3)) rfl hown') (fun y hy => by
      obtain rfl := List.mem_singleton.1 hy
      exact (hr5.below hZ).base (by omega))
  have ro3 := (roY.below hZ).grown hgrow y4 (by decide)
  have HN : Hid ((X ++ [((⟨⟨lo, hi⟩, L3⟩ : Bt), A3, c3)]).map (·.1) = s.baths.take (k + 1)) := Lib.hid (by
    rw [List.map_append, HL.out]
    exact take_push hlt rfl HBK.out)
  generalize X ++ [((⟨⟨lo, hi⟩, L3⟩ : Bt), A3, c3)] = X' at *
  have B3 : Below w.heap.size w w1 := (ex_trans BY hZ).grown hgrow (by have := BY.size; have := hZ.size; omega) (fun j hj => by have := hge j hj; omega)
  have B4 := ex_set B3 (p := ⟨w.heap.size + 1 + 1, 2, none⟩) (by show w.heap.size ≤ w.heap.size + 1 + 1; omega) (.slice (some ⟨gg, 0, none⟩) (X.length + 1) cap)
  have q04 := q03.far (p := ⟨w.heap.size + 1 + 1, 2, none⟩) (by show w.heap.size ≠ w.heap.size + 1 + 1; omega) (.slice (some ⟨gg, 0, none⟩) (X.length + 1) cap)
  have q14 := q13.far (p := ⟨w.heap.size + 1 + 1, 2, none⟩) (by show w.heap.size + 1 ≠ w.heap.size + 1 + 1; omega) (.slice (some ⟨gg, 0, none⟩) (X.length + 1) cap)
  have q24 := q23.set_ 2 (.slice (some ⟨gg, 0, none⟩) (X.length + 1) cap)
  simp only [List.setIfInBounds_toArray, List.set_cons_zero, List.set_cons_succ] at q24
  have ro4 := ro3.set q23 (by decide) 2 (.slice (some ⟨gg, 0, none⟩) (X.length + 1) cap)
  have hN4 := hN3.set q23 (by decide) (by decide) 2 (.slice (some ⟨gg, 0, none⟩) (X.length + 1) cap)
  have hs4 : w.heap.size + 1 + 1 + 1 ≤ (w1.setCell ⟨w.heap.size + 1 + 1, 2, none⟩ (.slice (some ⟨gg, 0, none⟩) (X.length + 1) cap)).heap.size := by have := hgrow.size; simp; omega
  refine ⟨⟨⟨k + 1, by omega, B4, hs4, q04, q14, ro4, _, X', HN, q24, hN4, exFrame (by kernel_rfl)⟩⟩, ?_⟩
  show s.baths.length - (intOf (.int .i64 ((k : Int) + 1))).toNat < s.baths.length - (intOf (.int .i64 (k : Int))).toNat
  simp [intOf]
  omega
end Go.Proofs.Ytnplefhigbkbbaa
end

section
namespace Go.Proofs.Ytnplefhigbkbbaa
open Go.RowKit
attribute [local go_sem] Ex.cell? Ex.frozen?

theorem ck_one {s : Se} (h1 : ¬ (s.offs.length > 6 ∨ s.baths.length > 6)) (h : s.offs.length = 0 ∨ offsB s.offs = false ∨ ¬ (0 ≤ s.err ∧ s.err ≤ 20) ∨ btsB s.offs.length s.baths = false) : ckSe s = 1 := by unfold ckSe; rw [if_neg h1, if_pos h]
theorem ck_zero {s : Se} (h1 : ¬ (s.offs.length > 6 ∨ s.baths.length > 6)) (h : ¬ (s.offs.length = 0 ∨ offsB s.offs = false ∨ ¬ (0 ≤ s.err ∧ s.err ≤ 20) ∨ btsB s.offs.length s.baths = false)) : ckSe s = 0 := by unfold ckSe; rw [if_neg h1, if_neg h]

set_option maxRecDepth 100000 in
set_option maxHeartbeats 12800000 in
theorem fault_ref (s : Se) (Ao Ab : Option Addr) (co cb : Nat) (rA : Nat → Option Addr) (rc : Nat → Nat) (w : World) (hs : SeIn w w.heap.size s Ao Ab rA rc) (hsm : Sm s) :
    Calls Try.prog 73 #[.agg #[.slice Ao s.offs.length co, .int .i64 s.err, .slice Ab s.baths.length cb]] w fun e w' => e = .returned (.int .i64 (ckSe s)) ∧ Below w.heap.size w w' := by
  have hno := hsm.offs
  have hnb := hsm.baths
  have hb1 := ex_alloc (Below.refl w.heap.size w) (.cells #[.slice Ao s.offs.length co, .int .i64 s.err, .slice Ab s.baths.length cb] 25)
  have q1 : Blk (w.alloc (.cells #[.slice Ao s.offs.length co, .int .i64 s.err, .slice Ab s.baths.length cb] 25)) w.heap.size 25 #[.slice Ao s.offs.length co, .int .i64 s.err, .slice Ab s.baths.length cb] := Blk.new _ _ _
  by_cases h1 : 6 < s.offs.length
  · have HF : Hid (ckSe s = 3) := Lib.hid (by unfold ckSe; rw [if_pos (.inl h1)])
    have d1 : decide ((6 : Int) < (s.offs.length : Int)) = true := decide_eq_true (by omega)
    go_enter Try.func73, Try.ntmps73
    go_wp2
    go_ret
    exact ⟨ret_int HF.out.symm, hb1⟩
  have d1 : decide ((6 : Int) < (s.offs.length : Int)) = false := decide_eq_false (by omega)
  by_cases h2 : 6 < s.baths.length
  · have HF : Hid (ckSe s = 3) := Lib.hid (by unfold ckSe; rw [if_pos (.inr h2)])
    have d2 : decide ((6 : Int) < (s.baths.length : Int)) = true := decide_eq_true (by omega)
    go_enter Try.func73, Try.ntmps73
    go_wp2
    go_ret
    exact ⟨ret_int HF.out.symm, hb1⟩
  have d2 : decide ((6 : Int) < (s.baths.length : Int)) = false := decide_eq_false (by omega)
  have HL : Hid (¬ (s.offs.length > 6 ∨ s.baths.length > 6)) := Lib.hid (by omega)
  by_cases h3 : s.offs.length = 0
  · have HF : Hid (ckSe s = 1) := Lib.hid (ck_one HL.out (.inl h3))
    have c1 : (s.offs.length == 0) = true := by simp [h3]
    have c2 : ((s.offs.length : Int) == 0) = true := by simp [h3]
    clear h3
    go_enter Try.func73, Try.ntmps73
    go_wp2
    go_ret
    exact ⟨ret_int HF.out.symm, hb1⟩
  have c1 : (s.offs.length == 0) = false := by simp [h3]
  have c2 : ((s.offs.length : Int) == 0) = false := by rw [beq_eq_false_iff_ne]; omega
  have HN := Lib.hid h3
  clear h3
  go_enter Try.func73, Try.ntmps73
  go_wp2_with fail
  refine (In_any _ _ _ _).mono ?_
  rintro e w' ⟨rfl, rfl⟩
  have HE : Hid (inB s.err 0 20 = true ↔ (0 ≤ s.err ∧ s.err ≤ 20)) := Lib.hid inB_iff
  generalize inB s.err 0 20 = x at HE ⊢
  cases x
  · have HF : Hid (ckSe s = 1) := Lib.hid (ck_one HL.out (.inr (.inr (.inl (fun h => by have := HE.out.2 h; cases this)))))
    clear HE
    go_wp2
    go_ret
    exact ⟨ret_int HF.out.symm, hb1⟩
  have HE2 : Hid (0 ≤ s.err ∧ s.err ≤ 20) := Lib.hid (HE.out.1 rfl)
  clear HE
  go_wp2_with fail
  generalize w.alloc (.cells #[.slice Ao s.offs.length co, .int .i64 s.err, .slice Ab s.baths.length cb] 25) = V at *
  refine wp_loop (fun a W => Rel (fun a W => ∃ k : Nat, k ≤ s.offs.length ∧ Below w.heap.size w W ∧ Blk W w.heap.size 25 #[.slice Ao s.offs.length co, .int .i64 s.err, .slice Ab s.baths.length cb] ∧ Hid (∀ j, j < k → spanB (gR s.offs j) (-100) 100 = true) ∧ ∃ u : Nat → Value, a = ⟨List.toArray (u 0 :: .pointer (some ⟨w.heap.size, 0, none⟩) :: u 2 :: .int .i64 (k : Int) :: u 4 :: u 5 :: u 6 :: u 7 :: u 8 :: u 9 :: u 10 :: u 11 :: u 12 :: u 13 :: u 14 :: u 15 :: u 16 :: u 17 :: u 18 :: u 19 :: u 20 :: u 21 :: u 22 :: u 23 :: u 24 :: u 25 :: u 26 :: u 27 :: u 28 :: u 29 :: u 30 :: u 31 :: u 32 :: u 33 :: u 34 :: u 35 :: u 36 :: u 37 :: u 38 :: u 39 :: u 40 :: u 41 :: u 42 :: u 43 :: u 44 :: u 45 :: u 46 :: u 47 :: u 48 :: u 49 :: u 50 :: u 51 :: u 52 :: u 53 :: u 54 :: u 55 :: u 56 :: u 57 :: u 58 :: u 59 :: u 60 :: u 61 :: u 62 :: u 63 :: u 64 :: u 65 :: u 66 :: u 67 :: u 68 :: u 69 :: u 70 :: u 71 :: u 72 :: u 73 :: u 74 :: u 75 :: u 76 :: u 77 :: u 78 :: u 79 :: u 80 :: u 81 :: u 82 :: u 83 :: u 84 :: u 85 :: u 86 :: u 87 :: u 88 :: u 89 :: u 90 :: u 91 :: u 92 :: u 93 :: u 94 :: u 95 :: u 96 :: u 97 :: u 98 :: u 99 :: u 100 :: u 101 :: u 102 :: u 103 :: u 104 :: []), []⟩) a W)
    (fun a _ => s.offs.length - (intOf (a.tmps.getD 3 undef)).toNat) ⟨⟨0, by omega, hb1, q1, Lib.hid (fun j hj => by omega), exFrame (by kernel_rfl)⟩⟩ ?_
  clear hb1 q1 V
  rintro a W ⟨⟨k, hk, hbl, q0, HA, u, rfl⟩⟩
  have l0 := q0.lt
  have a0 : W.cell? ⟨w.heap.size, 0, none⟩ = some (.slice Ao s.offs.length co) := q0.cell 0
  by_cases hlt : k < s.offs.length
  · obtain ⟨br, orr, rfl, hbr, r0, r1⟩ := IsRgs.at_ (hs.offs.below hbl) hlt
    have lbr : br < W.heap.size := by have := hbl.size; omega
    have HF2 : Hid (spanB (gR s.offs k) (-100) 100 = false → ckSe s = 1) := Lib.hid (fun h => ck_one HL.out (.inr (.inl (allTo_false hlt h))))
    have HA2 : Hid (spanB (gR s.offs k) (-100) 100 = true → ∀ j, j < k + 1 → spanB (gR s.offs j) (-100) 100 = true) := Lib.hid (fun h j hj => by
      rcases Nat.lt_succ_iff_lt_or_eq.1 hj with h2 | h2
      · exact HA.out j h2
      · rw [h2]; exact h)
    obtain ⟨lo, hlo⟩ : ∃ lo, (gR s.offs k).lo = lo := ⟨_, rfl⟩
    obtain ⟨hi, hhi⟩ : ∃ hi, (gR s.offs k).hi = hi := ⟨_, rfl⟩
    have HG : Hid (spanB (gR s.offs k) (-100) 100 = spanB ⟨lo, hi⟩ (-100) 100) := Lib.hid (by rw [← hlo, ← hhi])
    rw [hlo] at r0
    rw [hhi] at r1
    clear hlo hhi
    go_wp2_with fail
    refine (span_ref lo hi (-100) 100 _).mono ?_
    rintro e W2 ⟨rfl, hX⟩
    have B2 := ex_trans hbl hX
    have p0 := q0.below hX l0
    have HX : Hid (∀ b, spanB ⟨lo, hi⟩ (-100) 100 = b → spanB (gR s.offs k) (-100) 100 = b) := Lib.hid (fun b h => HG.out.trans h)
    clear HG
    generalize spanB ⟨lo, hi⟩ (-100) 100 = x at HX ⊢
    cases x
    · have HF := Lib.hid (HF2.out (HX.out _ rfl))
      clear HX
      go_wp2
      go_ret
      exact ⟨ret_int HF.out.symm, B2⟩
    · have HA3 := Lib.hid (HA2.out (HX.out _ rfl))
      clear HX
      go_wp2_with fail
      refine ⟨⟨⟨k + 1, by omega, B2, p0, HA3, exFrame (by kernel_rfl)⟩⟩, ?_⟩
      show s.offs.length - (intOf (.int .i64 ((k : Int) + 1))).toNat < s.offs.length - (intOf (.int .i64 (k : Int))).toNat
      simp [intOf]
      omega
  obtain rfl : k = s.offs.length := by omega
  have HOB : Hid (offsB s.offs = true) := Lib.hid (allTo_iff.2 (fun j hj => HA.out j hj))
  clear HA
  go_wp2_with fail
  refine wp_loop (fun a W => Rel (fun a W => ∃ k : Nat, k ≤ s.baths.length ∧ Below w.heap.size w W ∧ Blk W w.heap.size 25 #[.slice Ao s.offs.length co, .int .i64 s.err, .slice Ab s.baths.length cb] ∧ Hid (∀ j, j < k → btOk s.offs.length (gBt s.baths j) = true) ∧ ∃ u : Nat → Value, a = ⟨List.toArray (u 0 :: .pointer (some ⟨w.heap.size, 0, none⟩) :: u 2 :: u 3 :: .int .i64 (k : Int) :: u 5 :: u 6 :: u 7 :: u 8 :: u 9 :: u 10 :: u 11 :: u 12 :: u 13 :: u 14 :: u 15 :: u 16 :: u 17 :: u 18 :: u 19 :: u 20 :: u 21 :: u 22 :: u 23 :: u 24 :: u 25 :: u 26 :: u 27 :: u 28 :: u 29 :: u 30 :: u 31 :: u 32 :: u 33 :: u 34 :: u 35 :: u 36 :: u 37 :: u 38 :: u 39 :: u 40 :: u 41 :: u 42 :: u 43 :: u 44 :: u 45 :: u 46 :: u 47 :: u 48 :: u 49 :: u 50 :: u 51 :: u 52 :: u 53 :: u 54 :: u 55 :: u 56 :: u 57 :: u 58 :: u 59 :: u 60 :: u 61 :: u 62 :: u 63 :: u 64 :: u 65 :: u 66 :: u 67 :: u 68 :: u 69 :: u 70 :: u 71 :: u 72 :: u 73 :: u 74 :: u 75 :: u 76 :: u 77 :: u 78 :: u 79 :: u 80 :: u 81 :: u 82 :: u 83 :: u 84 :: u 85 :: u 86 :: u 87 :: u 88 :: u 89 :: u 90 :: u 91 :: u 92 :: u 93 :: u 94 :: u 95 :: u 96 :: u 97 :: u 98 :: u 99 :: u 100 :: u 101 :: u 102 :: u 103 :: u 104 :: []), []⟩) a W)
    (fun a _ => s.baths.length - (intOf (a.tmps.getD 4 undef)).toNat) ⟨⟨0, by omega, hbl, q0, Lib.hid (fun j hj => by omega), exFrame (by kernel_rfl)⟩⟩ ?_
  clear hbl q0 a0 l0 hlt hk W
  rintro a W ⟨⟨k, hk, hbl, q0, HA, u, rfl⟩⟩
  have l0 := q0.lt
  have a2 : W.cell? ⟨w.heap.size, 2, none⟩ = some (.slice Ab s.baths.length cb) := q0.cell 2
  by_cases hlt : k < s.baths.length
  rotate_left
  · obtain rfl : k = s.baths.length := by omega
    have HF : Hid (ckSe s = 0) := Lib.hid (ck_zero HL.out (by
      rintro (h | h | h | h)
      · exact HN.out h
      · rw [HOB.out] at h; cases h
      · exact h HE2.out
      · have : btsB s.offs.length s.baths = true := allTo_iff.2 (fun j hj => HA.out j hj)
        rw [this] at h; cases h))
    go_wp2
    go_ret
    exact ⟨ret_int HF.out.symm, hbl⟩
  have HFB : Hid (btOk s.offs.length (gBt s.baths k) = false → ckSe s = 1) := Lib.hid (fun h => ck_one HL.out (.inr (.inr (.inr (allTo_false hlt h)))))
  have HA2 : Hid (btOk s.offs.length (gBt s.baths k) = true → ∀ j, j < k + 1 → btOk s.offs.length (gBt s.baths j) = true) := Lib.hid (fun h j hj => by
    rcases Nat.lt_succ_iff_lt_or_eq.1 hj with h2 | h2
    · exact HA.out j h2
    · rw [h2]; exact h)
  obtain ⟨bb, ob, rfl, hbb, g0, g1, g2⟩ := IsBts.at_ (hs.baths.below hbl) hlt
  have hrd := hs.reads k hlt
  have hrl := hsm.reads k hlt
  obtain ⟨lo, hlo⟩ : ∃ lo, (gBt s.baths k).heat.lo = lo := ⟨_, rfl⟩
  obtain ⟨hi, hhi⟩ : ∃ hi, (gBt s.baths k).heat.hi = hi := ⟨_, rfl⟩
  obtain ⟨rd, hrdE⟩ : ∃ rd, (gBt s.baths k).reads = rd := ⟨_, rfl⟩
  obtain ⟨Ar, hAr⟩ : ∃ Ar, rA k = Ar := ⟨_, rfl⟩
  obtain ⟨cr, hcr⟩ : ∃ cr, rc k = cr := ⟨_, rfl⟩
  have HBT : Hid (btOk s.offs.length (gBt s.baths k) = (rdsB s.offs.length rd && spanB ⟨lo, hi⟩ 0 1000)) := Lib.hid (by rw [← hlo, ← hhi, ← hrdE]; rfl)
  rw [hlo] at g0
  rw [hhi] at g1
  rw [hrdE, hAr] at hrd
  rw [hrdE] at hrl
  rw [hrdE, hAr, hcr] at g2
  clear hlo hhi hrdE hAr hcr
  have lbb : bb < W.heap.size := by have := hbl.size; omega
  have hX1 := ex_alloc (Below.refl W.heap.size W) (.cells #[.int .i64 lo, .int .i64 hi, .slice Ar rd.length cr] 82)
  have n1 : Blk (W.alloc (.cells #[.int .i64 lo, .int .i64 hi, .slice Ar rd.length cr] 82)) W.heap.size 82 #[.int .i64 lo, .int .i64 hi, .slice Ar rd.length cr] := Blk.new _ _ _
  have q01 := q0.below hX1 l0
  have B1 := ex_trans hbl hX1
  go_wp2_with fail
  refine (span_ref lo hi 0 1000 _).mono ?_
  rintro e W2 ⟨rfl, hX⟩
  have n2 := n1.below hX n1.lt
  have q02 := q01.below hX q01.lt
  have B2 := ex_trans B1 hX
  obtain ⟨px, hpx⟩ : ∃ px, W.heap.size = px := ⟨_, rfl⟩
  rw [hpx] at n2 ⊢
  clear hpx n1 q01 B1 hX hX1 q0 hbl l0 a2 g0 g1 g2 lbb
  have HFS : Hid (spanB ⟨lo, hi⟩ 0 1000 = false → ckSe s = 1) := Lib.hid (fun h => HFB.out (by rw [HBT.out, h, Bool.and_false]))
  have HTS : Hid (spanB ⟨lo, hi⟩ 0 1000 = true → rdsB s.offs.length rd = true → btOk s.offs.length (gBt s.baths k) = true) := Lib.hid (fun h h2 => by rw [HBT.out, h, h2]; rfl)
  have HFR : Hid (∀ j, j < rd.length → rdOk s.offs.length rd j = false → ckSe s = 1) := Lib.hid (fun j hj h => HFB.out (by rw [HBT.out]; unfold rdsB; rw [allTo_false hj h, Bool.false_and]))
  generalize spanB ⟨lo, hi⟩ 0 1000 = x at HFS HTS ⊢
  cases x
  · have HF := Lib.hid (HFS.out rfl)
    clear HFS HTS
    go_wp2
    go_ret
    exact ⟨ret_int HF.out.symm, B2⟩
  have HTR := Lib.hid (HTS.out rfl)
  clear HFS HTS
  go_wp2_with fail
  refine wp_loop (fun a Y => Rel (fun a Y => ∃ i : Nat, i ≤ rd.length ∧ Below w.heap.size w Y ∧ Blk Y w.heap.size 25 #[.slice Ao s.offs.length co, .int .i64 s.err, .slice (some ⟨bb, ob, none⟩) s.baths.length cb] ∧ Blk Y px 82 #[.int .i64 lo, .int .i64 hi, .slice Ar rd.length cr] ∧ Hid (∀ j, j < i → rdOk s.offs.length rd j = true) ∧ ∃ u : Nat → Value, a = ⟨List.toArray (u 0 :: .pointer (some ⟨w.heap.size, 0, none⟩) :: u 2 :: u 3 :: .int .i64 (k : Int) :: .pointer (some ⟨px, 0, none⟩) :: .int .i64 (i : Int) :: u 7 :: u 8 :: u 9 :: u 10 :: u 11 :: u 12 :: u 13 :: u 14 :: u 15 :: u 16 :: u 17 :: u 18 :: u 19 :: u 20 :: u 21 :: u 22 :: u 23 :: u 24 :: u 25 :: u 26 :: u 27 :: u 28 :: u 29 :: u 30 :: u 31 :: u 32 :: u 33 :: u 34 :: u 35 :: u 36 :: u 37 :: u 38 :: u 39 :: u 40 :: u 41 :: u 42 :: u 43 :: u 44 :: u 45 :: u 46 :: u 47 :: u 48 :: u 49 :: u 50 :: u 51 :: u 52 :: u 53 :: u 54 :: u 55 :: u 56 :: u 57 :: u 58 :: u 59 :: u 60 :: u 61 :: u 62 :: u 63 :: u 64 :: u 65 :: u 66 :: u 67 :: u 68 :: u 69 :: u 70 :: u 71 :: u 72 :: u 73 :: u 74 :: u 75 :: u 76 :: u 77 :: u 78 :: u 79 :: u 80 :: u 81 :: u 82 :: u 83 :: u 84 :: u 85 :: u 86 :: u 87 :: u 88 :: u 89 :: u 90 :: u 91 :: u 92 :: u 93 :: u 94 :: u 95 :: u 96 :: u 97 :: u 98 :: u 99 :: u 100 :: u 101 :: u 102 :: u 103 :: u 104 :: []), []⟩) a Y)
    (fun a _ => rd.length - (intOf (a.tmps.getD 6 undef)).toNat) ⟨⟨0, by omega, B2, q02, n2, Lib.hid (fun j hj => by omega), exFrame (by kernel_rfl)⟩⟩ ?_
  clear B2 q02 n2 W2 W
  rintro a Y ⟨⟨i, hi', hbl, q0, qx, HR, u, rfl⟩⟩
  have l0 := q0.lt
  have lx := qx.lt
  have a0 : Y.cell? ⟨w.heap.size, 0, none⟩ = some (.slice Ao s.offs.length co) := q0.cell 0
  have x2 : Y.cell? ⟨px, 2, none⟩ = some (.slice Ar rd.length cr) := qx.cell 2
  by_cases hli : i < rd.length
  rotate_left
  · obtain rfl : i = rd.length := by omega
    have HA3 := Lib.hid (HA2.out (HTR.out (allTo_iff.2 (fun j hj => HR.out j hj))))
    go_wp2_with fail
    refine ⟨⟨⟨k + 1, by omega, hbl, q0, HA3, exFrame (by kernel_rfl)⟩⟩, ?_⟩
    show s.baths.length - (intOf (.int .i64 ((k : Int) + 1))).toNat < s.baths.length - (intOf (.int .i64 (k : Int))).toNat
    simp [intOf]
    omega
  obtain ⟨br, orr, rfl, hbr, r0, r1⟩ := IsRds.at_ (hrd.below hbl) hli
  have lbr : br < Y.heap.size := by have := hbl.size; omega
  have HFI := Lib.hid (HFR.out i hli)
  have HIF := Lib.hid (rdOk_iff (n := s.offs.length) (l := rd) (k := i))
  obtain ⟨iv, hiv⟩ : ∃ iv, (gRd rd i).inst = iv := ⟨_, rfl⟩
  obtain ⟨vv, hvv⟩ : ∃ vv, (gRd rd i).val = vv := ⟨_, rfl⟩
  rw [hiv] at r0 HIF
  rw [hvv] at r1 HIF
  have HIV := Lib.hid hiv
  clear hiv hvv
  have wn : IntKind.i64.wrap ((s.offs.length : Int) - 1) = (s.offs.length : Int) - 1 := IntWalk.i64_in _ (by omega)
  have HE1 : Hid (inB iv 0 ((s.offs.length : Int) - 1) = true ↔ (0 ≤ iv ∧ iv ≤ (s.offs.length : Int) - 1)) := Lib.hid inB_iff
  have HE3 : Hid (inB vv (-1000) 2000 = true ↔ (-1000 ≤ vv ∧ vv ≤ 2000)) := Lib.hid inB_iff
  go_wp2_with fail
  refine wp_region_ext_mix 21 [(false, 0), (false, 1), (false, 2), (false, 3), (false, 4), (false, 5), (false, 6), (false, 7), (false, 8), (false, 9), (true, 10), (false, 11), (false, 12), (false, 13), (false, 14), (false, 15), (false, 16), (false, 17), (false, 18), (true, 19), (false, 20)] (by kernel_rfl) (by kernel_rfl) (by intro d _ _ _ _ h; cases d <;> exact h) ?_
  have hX0 := (Below.refl Y.heap.size Y).drew
  repeat (refine mix_quiet rfl ?_; go_big_quiet_step (fail); refine wpQuiet_nil ?_)
  refine mix_loud rfl ?_
  go_wp2_with fail
  refine (In_any _ _ _ _).mono ?_
  rintro e w' ⟨rfl, rfl⟩
  generalize inB iv 0 ((s.offs.length : Int) - 1) = x at HE1 ⊢
  cases x
  · have HF := Lib.hid (HFI.out (by
      rw [← Bool.not_eq_true, HIF.out]
      rintro ⟨h, _⟩
      have := HE1.out.2 h
      cases this))
    clear HE1
    go_wp2_with fail
    refine ⟨inEx hX0, ?_⟩
    repeat (refine mix_quiet rfl ?_; go_big_quiet_step (fail); refine wpQuiet_nil ?_)
    refine mix_loud rfl ?_
    go_wp2_with fail
    refine ⟨inEx hX0, ?_⟩
    repeat (refine mix_quiet rfl ?_; go_big_quiet_step (fail); refine wpQuiet_nil ?_)
    refine mix_nil rfl ?_
    go_wp2
    go_ret
    exact ⟨ret_int HF.out.symm, ex_trans hbl hX0⟩
  have HI1 := Lib.hid (HE1.out.1 rfl)
  clear HE1
  go_wp2_with fail
  refine ⟨inEx hX0, ?_⟩
  repeat (refine mix_quiet rfl ?_; go_big_quiet_step (fail); refine wpQuiet_nil ?_)
  refine mix_loud rfl ?_
  go_wp2_with fail
  refine (In_any _ _ _ _).mono ?_
  rintro e w' ⟨rfl, rfl⟩
  generalize inB vv (-1000) 2000 = x at HE3 ⊢
  cases x
  · have HF := Lib.hid (HFI.out (by
      rw [← Bool.not_eq_true, HIF.out]
      rintro ⟨_, _, h⟩
      have := HE3.out.2 h
      cases this))
    clear HE3
    go_wp2_with fail
    refine ⟨inEx hX0, ?_⟩
    repeat (refine mix_quiet rfl ?_; go_big_quiet_step (fail); refine wpQuiet_nil ?_)
    refine mix_nil rfl ?_
    go_wp2
    go_ret
    exact ⟨ret_int HF.out.symm, ex_trans hbl hX0⟩
  have HI3 := Lib.hid (HE3.out.1 rfl)
  clear HE3
  go_wp2_with fail
  refine ⟨inEx hX0, ?_⟩
  repeat (refine mix_quiet rfl ?_; go_big_quiet_step (fail); refine wpQuiet_nil ?_)
  refine mix_nil rfl ?_
  have B0 := ex_trans hbl hX0
  have q00 := q0.below hX0 l0
  have qx0 := qx.below hX0 lx
  generalize Y.drew = Y0 at *
  go_wp2_with fail
  refine wp_loop (fun a Z => Rel (fun a Z => ∃ j : Nat, j ≤ i ∧ Below w.heap.size w Z ∧ Blk Z w.heap.size 25 #[.slice Ao s.offs.length co, .int .i64 s.err, .slice (some ⟨bb, ob, none⟩) s.baths.length cb] ∧ Blk Z px 82 #[.int .i64 lo, .int .i64 hi, .slice (some ⟨br, orr, none⟩) rd.length cr] ∧ Hid (∀ m, m < j → (gRd rd m).inst ≠ iv) ∧ ∃ u : Nat → Value, a = ⟨List.toArray (u 0 :: .pointer (some ⟨w.heap.size, 0, none⟩) :: u 2 :: u 3 :: .int .i64 (k : Int) :: .pointer (some ⟨px, 0, none⟩) :: .int .i64 (i : Int) :: .int .i64 (j : Int) :: u 8 :: u 9 :: u 10 :: u 11 :: u 12 :: u 13 :: u 14 :: u 15 :: u 16 :: u 17 :: u 18 :: u 19 :: u 20 :: u 21 :: u 22 :: u 23 :: u 24 :: u 25 :: u 26 :: u 27 :: u 28 :: u 29 :: u 30 :: u 31 :: u 32 :: u 33 :: u 34 :: u 35 :: u 36 :: u 37 :: u 38 :: u 39 :: u 40 :: u 41 :: u 42 :: u 43 :: u 44 :: u 45 :: u 46 :: u 47 :: u 48 :: u 49 :: u 50 :: u 51 :: u 52 :: u 53 :: u 54 :: u 55 :: u 56 :: u 57 :: u 58 :: u 59 :: u 60 :: u 61 :: u 62 :: u 63 :: u 64 :: u 65 :: u 66 :: u 67 :: u 68 :: u 69 :: u 70 :: u 71 :: u 72 :: u 73 :: u 74 :: u 75 :: u 76 :: u 77 :: u 78 :: u 79 :: u 80 :: u 81 :: u 82 :: u 83 :: u 84 :: u 85 :: u 86 :: u 87 :: u 88 :: u 89 :: u 90 :: u 91 :: u 92 :: u 93 :: u 94 :: u 95 :: u 96 :: u 97 :: u 98 :: u 99 :: u 100 :: u 101 :: u 102 :: u 103 :: u 104 :: []), []⟩) a Z)
    (fun a _ => i - (intOf (a.tmps.getD 7 undef)).toNat) ⟨⟨0, by omega, B0, q00, qx0, Lib.hid (fun j hj => by omega), exFrame (by kernel_rfl)⟩⟩ ?_
  clear B0 q00 qx0 hX0 q0 qx hbl l0 lx a0 x2 lbr r0 r1 Y0 Y
  rintro a Z ⟨⟨j, hj, hbl, q0, qx, HJ, u, rfl⟩⟩
  have l0 := q0.lt
  have lx := qx.lt
  have x2 : Z.cell? ⟨px, 2, none⟩ = some (.slice (some ⟨br, orr, none⟩) rd.length cr) := qx.cell 2
  by_cases hji : j < i
  rotate_left
  · obtain rfl : j = i := by omega
    have HOK := Lib.hid (HIF.out.2 ⟨HI1.out, fun m hm => by have := HJ.out m hm; rw [HIV.out] at *; exact this, HI3.out⟩)
    have HR2 : Hid (∀ m, m < j + 1 → rdOk s.offs.length rd m = true) := Lib.hid (fun m hm => by
      rcases Nat.lt_succ_iff_lt_or_eq.1 hm with h2 | h2
      · exact HR.out m h2
      · rw [h2]; exact HOK.out)
    go_wp2_with fail
    refine ⟨⟨⟨j + 1, by omega, hbl, q0, qx, HR2, exFrame (by kernel_rfl)⟩⟩, ?_⟩
    show rd.length - (intOf (.int .i64 ((j : Int) + 1))).toNat < rd.length - (intOf (.int .i64 (j : Int))).toNat
    simp [intOf]
    omega
  have hrZ := hrd.below hbl
  obtain ⟨b1, o1, e1, hb1, s0, _⟩ := IsRds.at_ hrZ hli
  injection e1 with e1
  injection e1 with e11 e12
  subst e11 e12
  obtain ⟨b2, o2, e2, hb2, t0, _⟩ := IsRds.at_ hrZ (show j < rd.length by omega)
  injection e2 with e2
  injection e2 with e21 e22
  subst e21 e22
  rw [HIV.out] at s0
  have lbr : br < Z.heap.size := by have := hbl.size; omega
  have hjr : j < rd.length := by omega
  have HFJ : Hid ((gRd rd j).inst = iv → ckSe s = 1) := Lib.hid (fun h => HFI.out (by
    rw [← Bool.not_eq_true, HIF.out]
    rintro ⟨_, h2, _⟩
    exact h2 j hji h))
  have HJ2 : Hid ((gRd rd j).inst ≠ iv → ∀ m, m < j + 1 → (gRd rd m).inst ≠ iv) := Lib.hid (fun h m hm => by
    rcases Nat.lt_succ_iff_lt_or_eq.1 hm with h2 | h2
    · exact HJ.out m h2
    · rw [h2]; exact h)
  obtain ⟨jv, hjv⟩ : ∃ jv, (gRd rd j).inst = jv := ⟨_, rfl⟩
  rw [hjv] at t0 HFJ HJ2
  clear hjv
  go_wp2_with fail
  refine wp_region_ext_mix 12 [(false, 0), (false, 1), (false, 2), (false, 3), (false, 4), (false, 5), (false, 6), (false, 7), (false, 8), (false, 9), (false, 10), (false, 11)] (by kernel_rfl) (by kernel_rfl) (by intro d _ _ _ _ h; cases d <;> exact h) ?_
  have hX0 := (Below.refl Z.heap.size Z).drew
  repeat (refine mix_quiet rfl ?_; go_big_quiet_step (fail); refine wpQuiet_nil ?_)
  refine mix_nil rfl ?_
  have B0 := ex_trans hbl hX0
  have q00 := q0.below hX0 l0
  have qx0 := qx.below hX0 lx
  by_cases hjv : jv = iv
  · have HF := Lib.hid (HFJ.out hjv)
    have d3 : (jv == iv) = true := by simp [hjv]
    clear hjv
    go_wp2
    go_ret
    exact ⟨ret_int HF.out.symm, B0⟩
  · have HJ3 := Lib.hid (HJ2.out hjv)
    have d3 : (jv == iv) = false := by simp [hjv]
    clear hjv HJ2
    go_wp2_with fail
    refine ⟨⟨⟨j + 1, by omega, B0, q00, qx0, HJ3, exFrame (by kernel_rfl)⟩⟩, ?_⟩
    show i - (intOf (.int .i64 ((j : Int) + 1))).toNat < i - (intOf (.int .i64 (j : Int))).toNat
    simp [intOf]
    omega
set_option maxRecDepth 100000 in
set_option maxHeartbeats 1600000 in
theorem fault_law (s : Se) (Ao Ab : Option Addr) (co cb : Nat) (rA : Nat → Option Addr) (rc : Nat → Nat) (w : World) (hs : SeIn w w.heap.size s Ao Ab rA rc) (hsm : Sm s) :
    Calls Try.prog 24 #[.agg #[.slice Ao s.offs.length co, .int .i64 s.err, .slice Ab s.baths.length cb]] w fun e w' => e = .returned (.int .i64 (ckSe s)) ∧ Below w.heap.size w w' := by
  have hb1 := ex_alloc (Below.refl w.heap.size w) (.cells #[.slice Ao s.offs.length co, .int .i64 s.err, .slice Ab s.baths.length cb] 25)
  go_enter Try.func24, Try.ntmps24
  go_wp2_with fail
  refine (fault_ref s Ao Ab co cb rA rc _ (hs.go hb1) hsm).mono ?_
  rintro e W2 ⟨rfl, hX⟩
  go_wp2
  go_ret
  exact ⟨rfl, ex_trans hb1 hX⟩
end Go.Proofs.Ytnplefhigbkbbaa
end

section
namespace Go.Proofs.Ytnplefhigbkbbaa
open Go.RowKit
attribute [local go_sem] Ex.cell? Ex.frozen?

set_option maxRecDepth 100000 in
set_option maxHeartbeats 3200000 in
theorem Thin_law (s : Se) (Ao Ab : Option Addr) (co cb : Nat) (rA : Nat → Option Addr) (rc : Nat → Nat) (w : World) (hs : SeIn w w.heap.size s Ao Ab rA rc) (hol : s.offs.length ≤ maxLen) (hbm : s.baths.length ≤ maxLen) :
    Calls Try.prog 19 #[.agg #[.slice Ao s.offs.length co, .int .i64 s.err, .slice Ab s.baths.length cb]] w fun e w' => (∃ x : Bool, e = .returned (.bool x) ∧ Hid (x = true → Thn s)) ∧ Below w.heap.size w w' := by
  have hm : maxLen = 9223372036854775807 := rfl
  have hb1 := ex_alloc (Below.refl w.heap.size w) (.cells #[.slice Ao s.offs.length co, .int .i64 s.err, .slice Ab s.baths.length cb] 25)
  have q1 : Blk (w.alloc (.cells #[.slice Ao s.offs.length co, .int .i64 s.err, .slice Ab s.baths.length cb] 25)) w.heap.size 25 #[.slice Ao s.offs.length co, .int .i64 s.err, .slice Ab s.baths.length cb] := Blk.new _ _ _
  go_enter Try.func19, Try.ntmps19
  go_wp2_with fail
  generalize w.alloc (.cells #[.slice Ao s.offs.length co, .int .i64 s.err, .slice Ab s.baths.length cb] 25) = V at *
  refine wp_loop (fun a W => Rel (fun a W => ∃ k : Nat, k ≤ s.baths.length ∧ k ≤ 10 ∧ Below w.heap.size w W ∧ Blk W w.heap.size 25 #[.slice Ao s.offs.length co, .int .i64 s.err, .slice Ab s.baths.length cb] ∧ Hid (∀ j, j < k → (gBt s.baths j).reads.length ≤ 9) ∧ ∃ u : Nat → Value, a = ⟨List.toArray (u 0 :: .pointer (some ⟨w.heap.size, 0, none⟩) :: u 2 :: .int .i64 (k : Int) :: u 4 :: u 5 :: u 6 :: u 7 :: u 8 :: u 9 :: u 10 :: u 11 :: u 12 :: u 13 :: u 14 :: u 15 :: u 16 :: u 17 :: u 18 :: u 19 :: u 20 :: u 21 :: u 22 :: u 23 :: u 24 :: u 25 :: u 26 :: u 27 :: u 28 :: u 29 :: u 30 :: u 31 :: u 32 :: []), []⟩) a W)
    (fun a _ => 10 - (intOf (a.tmps.getD 3 undef)).toNat) ⟨⟨0, by omega, by omega, hb1, q1, Lib.hid (fun j hj => by omega), exFrame (by kernel_rfl)⟩⟩ ?_
  clear hb1 q1 V
  rintro a W ⟨⟨k, hk, hk10, hbl, q0, HA, u, rfl⟩⟩
  have l0 := q0.lt
  have a0 : W.cell? ⟨w.heap.size, 0, none⟩ = some (.slice Ao s.offs.length co) := q0.cell 0
  have a2 : W.cell? ⟨w.heap.size, 2, none⟩ = some (.slice Ab s.baths.length cb) := q0.cell 2
  by_cases hlt : k < s.baths.length ∧ k < 10
  rotate_left
  · have HSH : Hid (s.baths.length ≤ 9 → s.offs.length ≤ 9 → Thn s) := Lib.hid (fun h1 h2 => ⟨h2, h1, fun j hj => HA.out j (by omega)⟩)
    by_cases h2 : s.offs.length ≤ 9
    rotate_left
    · have e2 : decide ((s.offs.length : Int) ≤ 9) = false := decide_eq_false (by omega)
      by_cases hkl : k < s.baths.length
      · have e0 : decide ((k : Int) < 10) = false := decide_eq_false (by omega)
        go_wp2
        go_ret
        exact ⟨⟨_, rfl, Lib.hid (fun h => by cases h)⟩, hbl⟩
      · go_wp2
        go_ret
        exact ⟨⟨_, rfl, Lib.hid (fun h => by cases h)⟩, hbl⟩
    have e2 : decide ((s.offs.length : Int) ≤ 9) = true := decide_eq_true (by omega)
    by_cases h1 : s.baths.length ≤ 9
    · have hkp : k = s.baths.length := by omega
      subst hkp
      have HR := Lib.hid (HSH.out h1 h2)
      have e1 : decide ((s.baths.length : Int) ≤ 9) = true := decide_eq_true (by omega)
      go_wp2
      go_ret
      exact ⟨⟨_, rfl, Lib.hid (fun _ => HR.out)⟩, hbl⟩
    · have e1 : decide ((s.baths.length : Int) ≤ 9) = false := decide_eq_false (by omega)
      by_cases hkl : k < s.baths.length
      · have e0 : decide ((k : Int) < 10) = false := decide_eq_false (by omega)
        go_wp2
        go_ret
        exact ⟨⟨_, rfl, Lib.hid (fun h => by cases h)⟩, hbl⟩
      · go_wp2
        go_ret
        exact ⟨⟨_, rfl, Lib.hid (fun h => by cases h)⟩, hbl⟩
  obtain ⟨hlt, hlt10⟩ := hlt
  obtain ⟨bb, ob, rfl, hbb, g0, g1, g2⟩ := IsBts.at_ (hs.baths.below hbl) hlt
  have lbb : bb < W.heap.size := by have := hbl.size; omega
  have e0 : decide ((k : Int) < 10) = true := decide_eq_true (by omega)
  by_cases h9 : (gBt s.baths k).reads.length ≤ 9
  · have HA2 : Hid (∀ j, j < k + 1 → (gBt s.baths j).reads.length ≤ 9) := Lib.hid (fun j hj => by
      rcases Nat.lt_succ_iff_lt_or_eq.1 hj with h | h
      · exact HA.out j h
      · rw [h]; exact h9)
    have e1 : decide (((gBt s.baths k).reads.length : Int) > 9) = false := decide_eq_false (by omega)
    generalize (gBt s.baths k).reads.length = m at *
    go_wp2_with fail
    refine ⟨⟨⟨k + 1, by omega, by omega, hbl, q0, HA2, exFrame (by kernel_rfl)⟩⟩, ?_⟩
    show 10 - (intOf (.int .i64 ((k : Int) + 1))).toNat < 10 - (intOf (.int .i64 (k : Int))).toNat
    simp [intOf]
    omega
  · have e1 : decide (((gBt s.baths k).reads.length : Int) > 9) = true := decide_eq_true (by omega)
    generalize (gBt s.baths k).reads.length = m at *
    go_wp2
    go_ret
    exact ⟨⟨_, rfl, Lib.hid (fun h => by cases h)⟩, hbl⟩

theorem rg_ext {p q : Rg} (h1 : p.lo = q.lo) (h2 : p.hi = q.hi) : p = q := by cases p; cases q; simp_all
def rgsB (l m : List Rg) : Bool := decide (l = m)
theorem rgsB_len {l m : List Rg} (h : l.length ≠ m.length) : rgsB l m = false := decide_eq_false (fun e => h (by rw [e]))
theorem rgsB_at {l m : List Rg} {k : Nat} (h : ¬ ((gR l k).lo = (gR m k).lo ∧ (gR l k).hi = (gR m k).hi)) : rgsB l m = false := decide_eq_false (fun e => h (by rw [e]; exact ⟨rfl, rfl⟩))
theorem rgsB_all {l m : List Rg} (hl : l.length = m.length) (h : ∀ k, k < l.length → (gR l k).lo = (gR m k).lo ∧ (gR l k).hi = (gR m k).hi) : rgsB l m = true := by
  refine decide_eq_true (List.ext_getElem hl (fun i h1 h2 => ?_))
  have := h i h1
  rw [gR_at h1, gR_at h2] at this
  exact rg_ext this.1 this.2
/-- is each range in the other one? -/
def widB (l m : List Rg) : Bool := decide (l.length = m.length ∧ ∀ k, k < l.length → (gR m k).lo ≤ (gR l k).lo ∧ (gR l k).hi ≤ (gR m k).hi)

set_option maxRecDepth 100000 in
set_option maxHeartbeats 3200000 in
theorem ranges_law (A B : Option Addr) (c d : Nat) (l m : List Rg) (w : World) (hl : l.length ≤ 1000000) (hA : SlAt w w.heap.size 2 A l.length (fR l)) (hB : SlAt w w.heap.size 2 B m.length (fR m)) (hm : m.length ≤ 1000000) :
    Calls Try.prog 26 #[.slice A l.length c, .slice B m.length d] w fun e w' => e = .returned (.bool (rgsB l m)) ∧ Below w.heap.size w w' := by
  by_cases hlm : l.length = m.length
  rotate_left
  · have HX : Hid (rgsB l m = false) := Lib.hid (rgsB_len hlm)
    have e1 : ((l.length : Int) != (m.length : Int)) = true := by rw [bne_iff_ne]; omega
    have e2 : (l.length != m.length) = true := by rw [bne_iff_ne]; omega
    clear hlm
    go_enter Try.func26, Try.ntmps26
    go_wp2
    go_ret
    exact ⟨ret_bool HX.out.symm, Below.refl _ _⟩
  have HLM := Lib.hid hlm
  have e1 : ((l.length : Int) != (m.length : Int)) = false := by simp [hlm]
  have e2 : (l.length != m.length) = false := by simp [hlm]
  have hlm1 : l.length ≤ m.length := by omega
  clear hlm
  go_enter Try.func26, Try.ntmps26
  go_wp2_with fail
  refine wp_loop (fun a W => Rel (fun a W => ∃ k : Nat, k ≤ l.length ∧ Below w.heap.size w W ∧ Hid (∀ j, j < k → ((gR l j).lo = (gR m j).lo ∧ (gR l j).hi = (gR m j).hi)) ∧ ∃ u : Nat → Value, a = ⟨List.toArray (.slice A l.length c :: .slice B m.length d :: u 2 :: u 3 :: u 4 :: .int .i64 (k : Int) :: u 6 :: u 7 :: u 8 :: u 9 :: u 10 :: u 11 :: u 12 :: u 13 :: u 14 :: u 15 :: u 16 :: u 17 :: u 18 :: u 19 :: u 20 :: u 21 :: u 22 :: u 23 :: u 24 :: u 25 :: u 26 :: []), []⟩) a W)
    (fun a _ => l.length - (intOf (a.tmps.getD 5 undef)).toNat) ⟨⟨0, by omega, Below.refl _ _, Lib.hid (fun j hj => by omega), exFrame (by kernel_rfl)⟩⟩ ?_
  rintro a W ⟨⟨k, hk, hbl, HA, u, rfl⟩⟩
  by_cases hlt : k < l.length
  rotate_left
  · have HX : Hid (rgsB l m = true) := Lib.hid (rgsB_all HLM.out (fun j hj => HA.out j (by omega)))
    obtain rfl : k = l.length := by omega
    go_wp2
    go_ret
    exact ⟨ret_bool HX.out.symm, hbl⟩
  obtain ⟨b, off, rfl, hb, p0, p1⟩ := IsRgs.at_ (hA.below hbl) hlt
  obtain ⟨b2, off2, rfl, hb2, r0, r1⟩ := IsRgs.at_ (hB.below hbl) (show k < m.length by omega)
  have lb : b < W.heap.size := by have := hbl.size; omega
  have lb2 : b2 < W.heap.size := by have := hbl.size; omega
  have hkm : k < m.length := by omega
  have HNE : Hid (¬ (((gR l k).lo = (gR m k).lo ∧ (gR l k).hi = (gR m k).hi)) → rgsB l m = false) := Lib.hid (rgsB_at)
  have HOK : Hid ((((gR l k).lo = (gR m k).lo ∧ (gR l k).hi = (gR m k).hi)) → ∀ j, j < k + 1 → ((gR l j).lo = (gR m j).lo ∧ (gR l j).hi = (gR m j).hi)) := Lib.hid (fun h j hj => by
    rcases Nat.lt_succ_iff_lt_or_eq.1 hj with h2 | h2
    · exact HA.out j h2
    · rw [h2]; exact h)
  obtain ⟨pl, hpl⟩ : ∃ x, (gR l k).lo = x := ⟨_, rfl⟩
  obtain ⟨ph, hph⟩ : ∃ x, (gR l k).hi = x := ⟨_, rfl⟩
  obtain ⟨ql, hql⟩ : ∃ x, (gR m k).lo = x := ⟨_, rfl⟩
  obtain ⟨qh, hqh⟩ : ∃ x, (gR m k).hi = x := ⟨_, rfl⟩
  rw [hpl, hph, hql, hqh] at HNE HOK
  rw [hpl] at p0
  rw [hph] at p1
  rw [hql] at r0
  rw [hqh] at r1
  clear hpl hph hql hqh
  by_cases hx : pl = ql ∧ ph = qh
  · have HO2 := Lib.hid (HOK.out hx)
    have e3 : (pl == ql) = true := by simp [hx.1]
    have e4 : (ph == qh) = true := by simp [hx.2]
    have e5 : (pl != ql) = false := by simp [hx.1]
    have e6 : (ph != qh) = false := by simp [hx.2]
    clear hx HNE HOK
    go_wp2_with fail
    refine wp_region_ext_mix 9 [(false, 0), (false, 1), (false, 2), (false, 3), (false, 4), (false, 5), (false, 6), (false, 7), (true, 8)] (by kernel_rfl) (by kernel_rfl) (by intro d _ _ _ _ h; cases d <;> exact h) ?_
    have hX0 := (Below.refl W.heap.size W).drew
    repeat (refine mix_quiet rfl ?_; go_big_quiet_step (fail); refine wpQuiet_nil ?_)
    refine mix_loud rfl ?_
    go_wp2_with fail
    refine (to_law ql qh _).mono ?_
    rintro e Z ⟨rfl, hZ⟩
    have hX1 := ex_trans hX0 hZ
    go_wp2_with fail
    refine ⟨inEx hX1, ?_⟩
    refine mix_nil rfl ?_
    have BZ := ex_trans hbl hX1
    go_wp2_with fail
    refine ⟨⟨⟨k + 1, by omega, BZ, HO2, exFrame (by kernel_rfl)⟩⟩, ?_⟩
    show l.length - (intOf (.int .i64 ((k : Int) + 1))).toNat < l.length - (intOf (.int .i64 (k : Int))).toNat
    simp [intOf]
    omega
  · have HX := Lib.hid (HNE.out hx)
    by_cases h1 : pl = ql
    · have h2 : ph ≠ qh := fun h => hx ⟨h1, h⟩
      have e3 : (pl == ql) = true := by simp [h1]
      have e4 : (ph == qh) = false := by simp [h2]
      have e5 : (pl != ql) = false := by simp [h1]
      have e6 : (ph != qh) = true := by simp [h2]
      clear hx HNE HOK h1 h2
      go_wp2_with fail
      refine wp_region_ext_mix 9 [(false, 0), (false, 1), (false, 2), (false, 3), (false, 4), (false, 5), (false, 6), (false, 7), (true, 8)] (by kernel_rfl) (by kernel_rfl) (by intro d _ _ _ _ h; cases d <;> exact h) ?_
      have hX0 := (Below.refl W.heap.size W).drew
      repeat (refine mix_quiet rfl ?_; go_big_quiet_step (fail); refine wpQuiet_nil ?_)
      refine mix_loud rfl ?_
      go_wp2_with fail
      refine (to_law ql qh _).mono ?_
      rintro e Z ⟨rfl, hZ⟩
      have hX1 := ex_trans hX0 hZ
      go_wp2_with fail
      refine ⟨inEx hX1, ?_⟩
      refine mix_nil rfl ?_
      have BZ := ex_trans hbl hX1
      go_wp2_with fail
      go_wp2
      go_ret
      exact ⟨ret_bool HX.out.symm, BZ⟩
    · have e3 : (pl == ql) = false := by simp [h1]
      have e5 : (pl != ql) = true := by simp [h1]
      clear hx HNE HOK h1
      go_wp2_with fail
      refine wp_region_ext_mix 9 [(false, 0), (false, 1), (false, 2), (false, 3), (false, 4), (false, 5), (false, 6), (false, 7), (true, 8)] (by kernel_rfl) (by kernel_rfl) (by intro d _ _ _ _ h; cases d <;> exact h) ?_
      have hX0 := (Below.refl W.heap.size W).drew
      repeat (refine mix_quiet rfl ?_; go_big_quiet_step (fail); refine wpQuiet_nil ?_)
      refine mix_loud rfl ?_
      go_wp2_with fail
      refine (to_law ql qh _).mono ?_
      rintro e Z ⟨rfl, hZ⟩
      have hX1 := ex_trans hX0 hZ
      go_wp2_with fail
      refine ⟨inEx hX1, ?_⟩
      refine mix_nil rfl ?_
      have BZ := ex_trans hbl hX1
      go_wp2_with fail
      go_wp2
      go_ret
      exact ⟨ret_bool HX.out.symm, BZ⟩
set_option maxRecDepth 100000 in
set_option maxHeartbeats 3200000 in
theorem wider_law (A B : Option Addr) (c d : Nat) (l m : List Rg) (w : World) (hl : l.length ≤ 1000000) (hA : SlAt w w.heap.size 2 A l.length (fR l)) (hB : SlAt w w.heap.size 2 B m.length (fR m)) (hm : m.length ≤ 1000000) :
    Calls Try.prog 52 #[.slice A l.length c, .slice B m.length d] w fun e w' => e = .returned (.bool (widB l m)) ∧ Below w.heap.size w w' := by
  by_cases hlm : l.length = m.length
  rotate_left
  · have HX : Hid (widB l m = false) := Lib.hid (decide_eq_false (fun h => hlm h.1))
    have e1 : ((l.length : Int) != (m.length : Int)) = true := by rw [bne_iff_ne]; omega
    have e2 : (l.length != m.length) = true := by rw [bne_iff_ne]; omega
    clear hlm
    go_enter Try.func52, Try.ntmps52
    go_wp2
    go_ret
    exact ⟨ret_bool HX.out.symm, Below.refl _ _⟩
  have HLM := Lib.hid hlm
  have e1 : ((l.length : Int) != (m.length : Int)) = false := by simp [hlm]
  have e2 : (l.length != m.length) = false := by simp [hlm]
  have hlm1 : l.length ≤ m.length := by omega
  clear hlm
  go_enter Try.func52, Try.ntmps52
  go_wp2_with fail
  refine wp_loop (fun a W => Rel (fun a W => ∃ k : Nat, k ≤ l.length ∧ Below w.heap.size w W ∧ Hid (∀ j, j < k → ((gR m j).lo ≤ (gR l j).lo ∧ (gR l j).hi ≤ (gR m j).hi)) ∧ ∃ u : Nat → Value, a = ⟨List.toArray (.slice A l.length c :: .slice B m.length d :: u 2 :: u 3 :: u 4 :: .int .i64 (k : Int) :: u 6 :: u 7 :: u 8 :: u 9 :: u 10 :: u 11 :: u 12 :: u 13 :: u 14 :: u 15 :: u 16 :: u 17 :: u 18 :: u 19 :: u 20 :: u 21 :: u 22 :: u 23 :: u 24 :: u 25 :: u 26 :: u 27 :: u 28 :: u 29 :: u 30 :: u 31 :: u 32 :: u 33 :: u 34 :: u 35 :: u 36 :: u 37 :: u 38 :: u 39 :: u 40 :: []), []⟩) a W)
    (fun a _ => l.length - (intOf (a.tmps.getD 5 undef)).toNat) ⟨⟨0, by omega, Below.refl _ _, Lib.hid (fun j hj => by omega), exFrame (by kernel_rfl)⟩⟩ ?_
  rintro a W ⟨⟨k, hk, hbl, HA, u, rfl⟩⟩
  by_cases hlt : k < l.length
  rotate_left
  · have HX : Hid (widB l m = true) := Lib.hid (decide_eq_true ⟨HLM.out, fun j hj => HA.out j (by omega)⟩)
    obtain rfl : k = l.length := by omega
    go_wp2
    go_ret
    exact ⟨ret_bool HX.out.symm, hbl⟩
  obtain ⟨b, off, rfl, hb, p0, p1⟩ := IsRgs.at_ (hA.below hbl) hlt
  obtain ⟨b2, off2, rfl, hb2, r0, r1⟩ := IsRgs.at_ (hB.below hbl) (show k < m.length by omega)
  have lb : b < W.heap.size := by have := hbl.size; omega
  have lb2 : b2 < W.heap.size := by have := hbl.size; omega
  have hkm : k < m.length := by omega
  have HNE : Hid (¬ (((gR m k).lo ≤ (gR l k).lo ∧ (gR l k).hi ≤ (gR m k).hi)) → widB l m = false) := Lib.hid (fun h => decide_eq_false (fun h2 => h (h2.2 k hlt)))
  have HOK : Hid ((((gR m k).lo ≤ (gR l k).lo ∧ (gR l k).hi ≤ (gR m k).hi)) → ∀ j, j < k + 1 → ((gR m j).lo ≤ (gR l j).lo ∧ (gR l j).hi ≤ (gR m j).hi)) := Lib.hid (fun h j hj => by
    rcases Nat.lt_succ_iff_lt_or_eq.1 hj with h2 | h2
    · exact HA.out j h2
    · rw [h2]; exact h)
  obtain ⟨pl, hpl⟩ : ∃ x, (gR l k).lo = x := ⟨_, rfl⟩
  obtain ⟨ph, hph⟩ : ∃ x, (gR l k).hi = x := ⟨_, rfl⟩
  obtain ⟨ql, hql⟩ : ∃ x, (gR m k).lo = x := ⟨_, rfl⟩
  obtain ⟨qh, hqh⟩ : ∃ x, (gR m k).hi = x := ⟨_, rfl⟩
  rw [hpl, hph, hql, hqh] at HNE HOK
  rw [hpl] at p0
  rw [hph] at p1
  rw [hql] at r0
  rw [hqh] at r1
  clear hpl hph hql hqh
  go_wp2_with fail
  refine wp_region_ext_mix 23 [(false, 0), (false, 1), (false, 2), (false, 3), (false, 4), (false, 5), (false, 6), (false, 7), (false, 8), (false, 9), (false, 10), (false, 11), (false, 12), (false, 13), (false, 14), (false, 15), (false, 16), (false, 17), (false, 18), (false, 19), (false, 20), (false, 21), (false, 22)] (by kernel_rfl) (by kernel_rfl) (by intro d _ _ _ _ h; cases d <;> exact h) ?_
  have hX0 := (Below.refl W.heap.size W).drew
  have BZ := ex_trans hbl hX0
  by_cases h1 : ql ≤ pl
  rotate_left
  · have HX := Lib.hid (HNE.out (fun h => h1 h.1))
    have e3 : decide (pl < ql) = true := decide_eq_true (by omega)
    clear h1 HNE HOK
    repeat (refine mix_quiet rfl ?_; go_big_quiet_step (fail); refine wpQuiet_nil ?_)
    refine mix_nil rfl ?_
    go_wp2
    go_ret
    exact ⟨ret_bool HX.out.symm, BZ⟩
  have e3 : decide (pl < ql) = false := decide_eq_false (by omega)
  by_cases h2 : ph ≤ qh
  rotate_left
  · have HX := Lib.hid (HNE.out (fun h => h2 h.2))
    have e4 : decide (ph > qh) = true := decide_eq_true (by omega)
    clear h1 h2 HNE HOK
    repeat (refine mix_quiet rfl ?_; go_big_quiet_step (fail); refine wpQuiet_nil ?_)
    refine mix_nil rfl ?_
    go_wp2
    go_ret
    exact ⟨ret_bool HX.out.symm, BZ⟩
  have e4 : decide (ph > qh) = false := decide_eq_false (by omega)
  have HO2 := Lib.hid (HOK.out ⟨h1, h2⟩)
  clear h1 h2 HNE HOK
  repeat (refine mix_quiet rfl ?_; go_big_quiet_step (fail); refine wpQuiet_nil ?_)
  refine mix_nil rfl ?_
  go_wp2_with fail
  refine ⟨⟨⟨k + 1, by omega, BZ, HO2, exFrame (by kernel_rfl)⟩⟩, ?_⟩
  show l.length - (intOf (.int .i64 ((k : Int) + 1))).toNat < l.length - (intOf (.int .i64 (k : Int))).toNat
  simp [intOf]
  omega
end Go.Proofs.Ytnplefhigbkbbaa
end

section
namespace Go.Proofs.Ytnplefhigbkbbaa
open Go.RowKit
attribute [local go_sem] Ex.cell? Ex.frozen?

open Classical in
/-- does it hold? -/
noncomputable def truB (p : Prop) : Bool := decide p
theorem truB_iff {p : Prop} : truB p = true ↔ p := by unfold truB; simp
theorem truB_false {p : Prop} (h : ¬ p) : truB p = false := by rw [← Bool.not_eq_true, truB_iff]; exact h
end Go.Proofs.Ytnplefhigbkbbaa
end

section
namespace Go.Proofs.Ytnplefhigbkbbaa

/-- a number of rows: how wide all are together. -/
def wid (l : List Rg) : Nat := (l.map fun r => (r.hi - r.lo).toNat).sum
theorem wid_set {l : List Rg} : ∀ {k : Nat} (hk : k < l.length) (r : Rg), wid (l.set k r) + ((l[k]).hi - (l[k]).lo).toNat = wid l + (r.hi - r.lo).toNat := by
  induction l with
  | nil => intro k hk; simp at hk
  | cons x l ih =>
    intro k hk r
    match k, hk with
    | 0, _ => simp only [wid, List.set_cons_zero, List.map_cons, List.sum_cons, List.getElem_cons_zero]; omega
    | k + 1, hk =>
      have := ih (k := k) (by simpa using hk) r
      simp only [wid, List.set_cons_succ, List.map_cons, List.sum_cons, List.getElem_cons_succ] at this ⊢
      omega
/-- what a reading leaves of an offset, and of a heat. -/
def nOff (v e : Int) (o h : Rg) : Rg := ⟨max o.lo (v - e - h.hi), min o.hi (v + e - h.lo)⟩
def nHeat (v e : Int) (o h : Rg) : Rg := ⟨max h.lo (v - e - o.hi), min h.hi (v + e - o.lo)⟩
/-- no truth is outside. -/
structure Holds (s : Se) (O H : List Rg) : Prop where
  lo : O.length = s.offs.length
  lh : H.length = s.baths.length
  no : ∀ n, n < O.length → (gR s.offs n).lo ≤ (gR O n).lo ∧ (gR O n).lo ≤ (gR O n).hi ∧ (gR O n).hi ≤ (gR s.offs n).hi
  nh : ∀ b, b < H.length → (gBt s.baths b).heat.lo ≤ (gR H b).lo ∧ (gR H b).lo ≤ (gR H b).hi ∧ (gR H b).hi ≤ (gBt s.baths b).heat.hi
  so : ∀ o h, Tru s (fun _ => false) o h → ∀ n, n < O.length → (gR O n).lo ≤ o n ∧ o n ≤ (gR O n).hi
  sh : ∀ o h, Tru s (fun _ => false) o h → ∀ b, b < H.length → (gR H b).lo ≤ h b ∧ h b ≤ (gR H b).hi
theorem gR_set {l : List Rg} {k : Nat} (hk : k < l.length) (r : Rg) (j : Nat) : gR (l.set k r) j = if j = k then r else gR l j := by
  unfold gR
  rw [List.getD_eq_getElem?_getD, List.getD_eq_getElem?_getD, List.getElem?_set]
  by_cases h : k = j
  · subst h; rw [if_pos rfl, if_pos hk, if_pos rfl]; rfl
  · rw [if_neg h, if_neg (fun e => h e.symm)]
section
variable {s : Se} {O H : List Rg} {b i : Nat}
/-- a truth agrees with the reading i of the bath b. -/
theorem Tru.read {out : Nat → Bool} {o h : Nat → Int} (ht : Tru s out o h) (hout : ∀ k, out k = false) (hb : b < s.baths.length) (hi : i < (gBt s.baths b).reads.length) :
    (gRd (gBt s.baths b).reads i).val - s.err ≤ h b + o (gRd (gBt s.baths b).reads i).inst.toNat ∧ h b + o (gRd (gBt s.baths b).reads i).inst.toNat ≤ (gRd (gBt s.baths b).reads i).val + s.err := by
  obtain ⟨k, hk, e⟩ := List.getElem_of_mem (mem_placeL.2 (show (b, i).1 < s.baths.length ∧ (b, i).2 < (gBt s.baths (b, i).1).reads.length from ⟨hb, hi⟩))
  have e2 : pAt s k = (b, i) := (pAt_at hk).trans e
  have := ht.reads k hk (hout k)
  rw [e2] at this
  exact this
theorem Tru.of_reads {o h : Nat → Int} (h1 : ∀ n, n < s.offs.length → (gR s.offs n).lo ≤ o n ∧ o n ≤ (gR s.offs n).hi) (h2 : ∀ b, b < s.baths.length → (gBt s.baths b).heat.lo ≤ h b ∧ h b ≤ (gBt s.baths b).heat.hi)
    (h3 : ∀ b, b < s.baths.length → ∀ i, i < (gBt s.baths b).reads.length → (gRd (gBt s.baths b).reads i).val - s.err ≤ h b + o (gRd (gBt s.baths b).reads i).inst.toNat ∧ h b + o (gRd (gBt s.baths b).reads i).inst.toNat ≤ (gRd (gBt s.baths b).reads i).val + s.err) : Tru s (fun _ => false) o h :=
  ⟨h1, h2, fun k hk _ => by
    obtain ⟨h4, h5⟩ := pAt_mem hk
    exact h3 _ h4 _ h5⟩
theorem Holds.start (hok : SeOk s) : Holds s s.offs (s.baths.map (·.heat)) := by
  have hg : ∀ b, b < s.baths.length → gR (s.baths.map (·.heat)) b = (gBt s.baths b).heat := fun b hb => by simp [gR, gBt, hb]
  refine ⟨rfl, by simp, fun n hn => ?_, fun b hb => ?_, fun o h ht n hn => ht.offs n hn, fun o h ht b hb => ?_⟩
  · have := hok.offs n hn; omega
  · rw [List.length_map] at hb; rw [hg b hb]; have := hok.heats b hb; omega
  · rw [List.length_map] at hb; rw [hg b hb]; exact ht.heats b hb
/-- a reading that empties a range: there is no truth. -/
theorem Holds.none (hh : Holds s O H) (hok : SeOk s) (hb : b < s.baths.length) (hi : i < (gBt s.baths b).reads.length) {n : Nat} (hn : (gRd (gBt s.baths b).reads i).inst = (n : Int)) {v : Int} (hv : (gRd (gBt s.baths b).reads i).val = v)
    (h : (nOff v s.err (gR O n) (gR H b)).lo > (nOff v s.err (gR O n) (gR H b)).hi ∨ (nHeat v s.err (nOff v s.err (gR O n) (gR H b)) (gR H b)).lo > (nHeat v s.err (nOff v s.err (gR O n) (gR H b)) (gR H b)).hi) : ¬ Can s := by
  rintro ⟨o, h', ht⟩
  have h1 := hok.inst b hb i hi
  rw [hn] at h1
  have h2 := ht.read (fun _ => rfl) hb hi
  rw [hn, hv, Int.toNat_natCast] at h2
  have h3 := hh.so o h' ht n (by rw [hh.lo]; omega)
  have h4 := hh.sh o h' ht b (by rw [hh.lh]; exact hb)
  unfold nHeat nOff at h
  simp only at h
  omega
/-- a reading that empties none: what is left holds all truths. -/
theorem Holds.step (hh : Holds s O H) (hok : SeOk s) (hb : b < s.baths.length) (hi : i < (gBt s.baths b).reads.length) {n : Nat} (hn : (gRd (gBt s.baths b).reads i).inst = (n : Int)) {v : Int} (hv : (gRd (gBt s.baths b).reads i).val = v)
    {o' h' : Rg} (ho' : o' = nOff v s.err (gR O n) (gR H b)) (hh' : h' = nHeat v s.err o' (gR H b)) (h1 : o'.lo ≤ o'.hi) (h2 : h'.lo ≤ h'.hi) : Holds s (O.set n o') (H.set b h') := by
  have h3 := hok.inst b hb i hi
  rw [hn] at h3
  have hnl : n < O.length := by rw [hh.lo]; omega
  have hbl : b < H.length := by rw [hh.lh]; exact hb
  have k1 := hh.no n hnl
  have k2 := hh.nh b hbl
  subst hh'
  have e1 : o'.lo = max (gR O n).lo (v - s.err - (gR H b).hi) := by rw [ho']; rfl
  have e2 : o'.hi = min (gR O n).hi (v + s.err - (gR H b).lo) := by rw [ho']; rfl
  have e3 : (nHeat v s.err o' (gR H b)).lo = max (gR H b).lo (v - s.err - o'.hi) := rfl
  have e4 : (nHeat v s.err o' (gR H b)).hi = min (gR H b).hi (v + s.err - o'.lo) := rfl
  refine ⟨by rw [List.length_set, hh.lo], by rw [List.length_set, hh.lh], fun m hm => ?_, fun c hc => ?_, fun o h ht m hm => ?_, fun o h ht c hc => ?_⟩
  · rw [List.length_set] at hm
    rw [gR_set hnl]
    split
    · rename_i e; subst e; omega
    · exact hh.no m hm
  · rw [List.length_set] at hc
    rw [gR_set hbl]
    split
    · rename_i e; subst e; omega
    · exact hh.nh c hc
  · rw [List.length_set] at hm
    rw [gR_set hnl]
    split
    · rename_i e; subst e
      have h4 := ht.read (fun _ => rfl) hb hi
      rw [hn, hv, Int.toNat_natCast] at h4
      have h5 := hh.so o h ht m hm
      have h6 := hh.sh o h ht b hbl
      omega
    · exact hh.so o h ht m hm
  · rw [List.length_set] at hc
    rw [gR_set hbl]
    split
    · rename_i e; subst e
      have h4 := ht.read (fun _ => rfl) hb hi
      rw [hn, hv, Int.toNat_natCast] at h4
      have h5 := hh.so o h ht n hnl
      have h6 := hh.sh o h ht c hc
      omega
    · exact hh.sh o h ht c hc
/-- the reading i of the bath b changes nothing any more. -/
def Still (s : Se) (O H : List Rg) (b i : Nat) : Prop :=
  (gRd (gBt s.baths b).reads i).val - s.err ≤ (gR O (gRd (gBt s.baths b).reads i).inst.toNat).lo + (gR H b).hi ∧ (gR O (gRd (gBt s.baths b).reads i).inst.toNat).lo + (gR H b).hi ≤ (gRd (gBt s.baths b).reads i).val + s.err ∧
  (gRd (gBt s.baths b).reads i).val - s.err ≤ (gR O (gRd (gBt s.baths b).reads i).inst.toNat).hi + (gR H b).lo ∧ (gR O (gRd (gBt s.baths b).reads i).inst.toNat).hi + (gR H b).lo ≤ (gRd (gBt s.baths b).reads i).val + s.err
theorem still_of {n : Nat} (hn : (gRd (gBt s.baths b).reads i).inst = (n : Int)) {v : Int} (hv : (gRd (gBt s.baths b).reads i).val = v) (h1 : nOff v s.err (gR O n) (gR H b) = gR O n) (h2 : nHeat v s.err (gR O n) (gR H b) = gR H b) : Still s O H b i := by
  unfold Still
  rw [hn, hv, Int.toNat_natCast]
  have a1 := congrArg Rg.lo h1
  have a2 := congrArg Rg.hi h1
  have a3 := congrArg Rg.lo h2
  have a4 := congrArg Rg.hi h2
  simp only [nOff, nHeat] at a1 a2 a3 a4
  omega
/-- what Narrow tells. -/
structure NarIs (s : Se) (O H : List Rg) : Prop where
  lo : O.length = s.offs.length
  lh : H.length = s.baths.length
  offs : ∀ n, n < s.offs.length → EndsOf (OffZ s n) (gR O n).lo (gR O n).hi
  heats : ∀ b, b < s.baths.length → EndsOf (HeatZ s b) (gR H b).lo (gR H b).hi
  can : Can s
theorem Holds.ends (hh : Holds s O H) (hs : ∀ b, b < s.baths.length → ∀ i, i < (gBt s.baths b).reads.length → Still s O H b i) : NarIs s O H := by
  have t1 : Tru s (fun _ => false) (fun n => (gR O n).lo) (fun b => (gR H b).hi) :=
    Tru.of_reads (fun n hn => by have := hh.no n (by rw [hh.lo]; exact hn); omega) (fun b hb => by have := hh.nh b (by rw [hh.lh]; exact hb); omega) (fun b hb i hi => by
      have := hs b hb i hi
      unfold Still at this
      omega)
  have t2 : Tru s (fun _ => false) (fun n => (gR O n).hi) (fun b => (gR H b).lo) :=
    Tru.of_reads (fun n hn => by have := hh.no n (by rw [hh.lo]; exact hn); omega) (fun b hb => by have := hh.nh b (by rw [hh.lh]; exact hb); omega) (fun b hb i hi => by
      have := hs b hb i hi
      unfold Still at this
      omega)
  refine ⟨hh.lo, hh.lh, fun n hn => ⟨⟨_, _, t1, rfl⟩, ⟨_, _, t2, rfl⟩, ?_⟩, fun b hb => ⟨⟨_, _, t2, rfl⟩, ⟨_, _, t1, rfl⟩, ?_⟩, ⟨_, _, t1⟩⟩
  · rintro z ⟨o, h, ht, rfl⟩
    exact hh.so o h ht n (by rw [hh.lo]; exact hn)
  · rintro z ⟨o, h, ht, rfl⟩
    exact hh.sh o h ht b (by rw [hh.lh]; exact hb)
/-- a step that changes something makes all narrower. -/
theorem step_wid {o' h' : Rg} {n : Nat} (hn : n < O.length) (hb : b < H.length) {v e : Int} (ho' : o' = nOff v e (gR O n) (gR H b)) (hh' : h' = nHeat v e o' (gR H b)) (h1 : o'.lo ≤ o'.hi) (h2 : h'.lo ≤ h'.hi) :
    wid (O.set n o') + wid (H.set b h') ≤ wid O + wid H ∧ (o' ≠ gR O n ∨ h' ≠ gR H b → wid (O.set n o') + wid (H.set b h') < wid O + wid H) := by
  have w1 := wid_set hn o'
  have w2 := wid_set hb h'
  rw [← gR_at hn] at w1
  rw [← gR_at hb] at w2
  have e1 : o'.lo = max (gR O n).lo (v - e - (gR H b).hi) := by rw [ho']; rfl
  have e2 : o'.hi = min (gR O n).hi (v + e - (gR H b).lo) := by rw [ho']; rfl
  have e3 : h'.lo = max (gR H b).lo (v - e - o'.hi) := by rw [hh']; rfl
  have e4 : h'.hi = min (gR H b).hi (v + e - o'.lo) := by rw [hh']; rfl
  refine ⟨by omega, fun hne => ?_⟩
  have : o'.lo ≠ (gR O n).lo ∨ o'.hi ≠ (gR O n).hi ∨ h'.lo ≠ (gR H b).lo ∨ h'.hi ≠ (gR H b).hi := by
    refine Classical.byContradiction fun hc => ?_
    simp only [not_or, Classical.not_not] at hc
    obtain ⟨c1, c2, c3, c4⟩ := hc
    have ext : ∀ {p q : Rg}, p.lo = q.lo → p.hi = q.hi → p = q := fun {p q} hp hq => by cases p; cases q; simp_all
    rcases hne with h | h
    · exact h (ext c1 c2)
    · exact h (ext c3 c4)
  omega
end
end Go.Proofs.Ytnplefhigbkbbaa
end
