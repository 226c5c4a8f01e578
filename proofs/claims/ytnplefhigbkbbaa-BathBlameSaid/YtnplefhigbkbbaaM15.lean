/- Bath's laws: own, fits, BathBlame (walks). -/
import Derived.Test.YtnplefhigbkbbaaM14
import Derived.Test.YtnplefhigbkbbaaM13
set_option linter.unusedVariables false
set_option linter.unusedSimpArgs false
set_option linter.unusedSectionVars false
section
namespace Go.Proofs.Ytnplefhigbkbbaa
open Go.RowKit
attribute [local go_sem] Ex.cell? Ex.frozen? Gx.cell?

set_option maxRecDepth 100000 in
set_option maxHeartbeats 6400000 in
theorem own_law (A : Option Addr) (c : Nat) (l : List (Nat × Nat)) (w : World) (hl : l.length ≤ 1000) (hA : SlAt w w.heap.size 2 A l.length (fPl l)) :
    Calls Try.prog 54 #[.slice A l.length c] w fun e w' => (∃ A' c', e = .returned (.slice A' l.length c') ∧ SlAt w' w'.heap.size 2 A' l.length (fPl l)) ∧ Below w.heap.size w w' := by
  obtain ⟨i0, hi0, hz0, hz1, hz2⟩ := info_parts rplace_info
  have HI := Lib.hid hi0
  clear hi0
  go_enter Try.func54, Try.ntmps54
  go_wp2_with fail
  refine wp_loop (fun a W => Rel (fun a W => ∃ k : Nat, k ≤ l.length ∧ Below w.heap.size w W ∧ ∃ v, ∃ L : List (Nat × Nat), Hid (L = l.take k) ∧ W.ownsRow w.heap.size 120 2 v L.length (L.flatMap cP) ∧ ∃ u : Nat → Value, a = ⟨List.toArray (.slice A l.length c :: u 1 :: u 2 :: v :: .int .i64 (k : Int) :: u 5 :: u 6 :: u 7 :: u 8 :: u 9 :: u 10 :: u 11 :: u 12 :: u 13 :: u 14 :: u 15 :: u 16 :: u 17 :: u 18 :: u 19 :: u 20 :: u 21 :: u 22 :: u 23 :: u 24 :: u 25 :: []), []⟩) a W)
    (fun a _ => l.length - (intOf (a.tmps.getD 4 undef)).toNat) ⟨⟨0, by omega, Below.refl _ _, .slice none 0 0, [], Lib.hid rfl, ⟨rfl, .inl ⟨rfl, rfl⟩⟩, exFrame (by kernel_rfl)⟩⟩ ?_
  rintro a W ⟨⟨k, hk, hbl, v, L, HL, hown, u, rfl⟩⟩
  by_cases hlt : k < l.length
  rotate_left
  · obtain rfl : k = l.length := by omega
    have hLL : L = l := HL.out.trans List.take_length
    clear HL
    subst hLL
    obtain ⟨A', c', rfl, _, _, hsl⟩ := own_P hown
    go_wp2
    go_ret
    first | exact ⟨⟨_, ⟨_, rfl⟩, hsl⟩, hbl⟩ | exact ⟨⟨_, _, rfl, hsl⟩, hbl⟩
  obtain ⟨bi, oi, rfl, hbi, c0, c1⟩ := IsPls.at_ (hA.below hbl) hlt
  have lbi : bi < W.heap.size := by have := hbl.size; omega
  have hat := gPl_at hlt
  have hlk : L.length ≤ 1000 := by rw [HL.out, List.length_take]; omega
  obtain ⟨⟨p1, p2⟩, hp⟩ : ∃ p, gPl l k = p := ⟨_, rfl⟩
  have HN : Hid (L ++ [(p1, p2)] = l.take (k + 1)) := Lib.hid (take_push hlt HL.out (by rw [← hat, hp]))
  rw [hp] at c0 c1
  simp only at c0 c1
  clear hp hat
  obtain ⟨row, hrow⟩ : ∃ row, v.ownBlock = row := ⟨_, rfl⟩
  have hge := fun (j : Nat) (hj : v.ownBlock = some j) => own_ge hown hj
  have hnb : ¬ some bi = row := fun e => by have := hge _ (hrow.trans e.symm); omega
  have hrw : ∀ j, row = some j → w.heap.size ≤ j := fun j hj => hge _ (hrow.trans hj)
  have HROW := Lib.hid hrow
  have hws := hbl.size
  clear hrow hge
  go_wp2_with fail
  refine wp_region_gx_mix row 14 [(false, 0), (false, 1), (false, 2), (false, 3), (false, 4), (false, 5), (false, 6), (false, 7), (false, 8), (false, 9), (false, 10), (false, 11), (true, 12), (true, 13)] (by kernel_rfl) (by kernel_rfl) (by intro d _ _ _ _ h; cases d <;> exact h) ?_
  repeat (refine mix_quiet rfl ?_; go_big_quiet_step (fail); refine wpQuiet_nil ?_)
  have hX0 := (Below.refl W.heap.size W).drew
  refine mix_loud rfl ?_
  go_wp2_with fail
  have hX2 := ex_alloc hX0 (.cells #[.int .i64 (p1 : Int), .int .i64 (p2 : Int)] 120)
  refine ⟨inGx (grown_row hX2), ?_⟩
  repeat (refine mix_quiet rfl ?_; go_big_quiet_step (fail); refine wpQuiet_nil ?_)
  have y4 := own_below hown hX2
  have c63 : L.length + 1 ≤ maxLen := by unfold maxLen; omega
  have cby : (L.length + 1) * 16 ≤ 140737488355328 := by omega
  have hbase : w.heap.size ≤ (W.drew.alloc (.cells #[.int .i64 (p1 : Int), .int .i64 (p2 : Int)] 120)).heap.size := by have := hX2.size; omega
  refine mix_loud rfl ?_
  go_wp2_with (at_builtin; refine wpList_append_lies _ rfl _ _ _ rfl (w.heap.size) 120 i0 _ 2 16 Try.underlying49 HI.out hz0 hz1 hz2 rfl (by omega) v _ _ rfl y4 ⟨W.drew.heap.size, 0, none⟩ 1 1 [.int .i64 (p1 : Int), .int .i64 (p2 : Int)] rfl rfl (World.news_of_block (w := (W.drew.alloc (.cells #[.int .i64 (p1 : Int), .int .i64 (p2 : Int)] 120))) (heap_alloc_new W.drew _)) (by simp [Value.oneCell']) (by omega) c63 cby hbase (W.drew.heap.size + 1) (by simp) ?_; intro gg cap w1 hown' hgrow hat hlt')
  rw [HROW.out] at hgrow
  have hgB := (grown_row (r := row) hX2).andThen hgrow (fun j hj => .inr hj)
  refine ⟨inGx hgB, ?_⟩
  repeat (refine mix_quiet rfl ?_; go_big_quiet_step (fail); refine wpQuiet_nil ?_)
  refine mix_nil rfl ?_
  have B5 := hbl.grown hgB hbl.size hrw
  have own7 := own_push (f := cP) (x := ((p1, p2) : Nat × Nat)) rfl hown'
  generalize L ++ [((p1, p2) : Nat × Nat)] = L' at *
  clear hown' hgB hgrow y4 hX2 hX0 hown hnb c0 c1
  go_wp2_with fail
  refine ⟨⟨⟨k + 1, by omega, B5, _, L', HN, own7, exFrame (by kernel_rfl)⟩⟩, ?_⟩
  show l.length - (intOf (.int .i64 ((k : Int) + 1))).toNat < l.length - (intOf (.int .i64 (k : Int))).toNat
  simp [intOf]
  omega

set_option maxRecDepth 100000 in
set_option maxHeartbeats 3200000 in
theorem fits_law (s : Se) (Ao Ab : Option Addr) (co cb : Nat) (rA : Nat → Option Addr) (rc : Nat → Nat) (w : World) (hs : SeIn w w.heap.size s Ao Ab rA rc) (ht : Thn s) (hok : SeOk s) :
    Calls Try.prog 56 #[.agg #[.slice Ao s.offs.length co, .int .i64 s.err, .slice Ab s.baths.length cb]] w fun e w' => e = .returned (.bool (canB s)) ∧ Below w.heap.size w w' := by
  have HT := Lib.hid ht
  have HOK := Lib.hid hok
  clear ht hok
  have hb1 := ex_alloc (Below.refl w.heap.size w) (.cells #[.slice Ao s.offs.length co, .int .i64 s.err, .slice Ab s.baths.length cb] 25)
  go_enter Try.func56, Try.ntmps56
  go_wp2_with fail
  generalize w.alloc (.cells #[.slice Ao s.offs.length co, .int .i64 s.err, .slice Ab s.baths.length cb] 25) = V at *
  refine (Series_law s Ao Ab co cb rA rc V (hs.go hb1) HT.out).mono ?_
  rintro e V1 ⟨⟨Ao1, Ab1, co1, cb1, rA1, rc1, rfl, hs1⟩, hV1⟩
  have B1 := ex_trans hb1 hV1
  go_wp2_with fail
  refine (Offsets_any s Ao1 Ab1 co1 cb1 rA1 rc1 V1 hs1 HT.out.sm).mono ?_
  rintro e V2 ⟨⟨Ax, cx, l, ev, rfl, hr, _⟩, hV2⟩
  have B2 := ex_trans B1 hV2
  rcases rng_ok hr.out HOK.out with ⟨hc, rfl, _⟩ | ⟨hc, rfl, _⟩
  · have HC : Hid (canB s = false) := Lib.hid (canB_false hc)
    clear hr hc
    go_wp2
    go_ret
    exact ⟨ret_bool HC.out.symm, B2⟩
  · have HC : Hid (canB s = true) := Lib.hid (canB_true hc)
    clear hr hc
    go_wp2
    go_ret
    exact ⟨ret_bool HC.out.symm, B2⟩
theorem fits_wo (s : Se) (l : List (Nat × Nat)) (Ao Ab : Option Addr) (co cb : Nat) (rA : Nat → Option Addr) (rc : Nat → Nat) (w : World) (hs : SeIn w w.heap.size (woS s l) Ao Ab rA rc) (ht : Thn s) (hok : SeOk s) :
    Calls Try.prog 56 #[.agg #[.slice Ao s.offs.length co, .int .i64 s.err, .slice Ab s.baths.length cb]] w fun e w' => e = .returned (.bool (canB (woS s l))) ∧ Below w.heap.size w w' := by
  have h := fits_law (woS s l) Ao Ab co cb rA rc w hs (wo_thn ht) (woS_ok hok)
  rw [woS_len] at h
  exact h

theorem IncL.split {P : Nat → Prop} : ∀ {k : Nat} {l : List Nat}, IncL P k l → ∀ n, n ≤ k → ∃ L R, l = L ++ R ∧ IncL P n L
  | 0, l, h, n, hn => by
    obtain rfl : n = 0 := Nat.le_zero.1 hn
    exact ⟨l, [], (List.append_nil l).symm, h⟩
  | k + 1, l, h, n, hn => by
    rcases Nat.eq_or_lt_of_le hn with rfl | hlt
    · exact ⟨l, [], (List.append_nil l).symm, h⟩
    · rcases h with ⟨_, m, rfl, hm⟩ | ⟨_, hm⟩
      · obtain ⟨L, R, rfl, h2⟩ := IncL.split hm n (by omega)
        exact ⟨L, R ++ [k], by rw [List.append_assoc], h2⟩
      · exact IncL.split hm n (by omega)
theorem IncL.next {P : Nat → Prop} {N n : Nat} {l L R : List Nat} (h : IncL P N l) (hn : n < N) (e : l = L ++ R) (hL : IncL P n L) (hp : P n) : ∃ R', l = (L ++ [n]) ++ R' ∧ IncL P (n + 1) (L ++ [n]) := by
  obtain ⟨L', R', e', h'⟩ := h.split (n + 1) (by omega)
  rcases h' with ⟨_, m, rfl, hm⟩ | ⟨hq, _⟩
  · have := hm.uniq hL
    subst this
    exact ⟨R', e', .inl ⟨hp, m, rfl, hm⟩⟩
  · exact absurd hp hq
theorem FewestIs.fits {s : Se} {r : List (Nat × Nat)} (h : FewestIs s r) : Can (woS s r) := by
  obtain ⟨T, rfl, hf, _⟩ := h
  exact can_wo.2 hf
theorem FewestIs.less {s : Se} {r : List (Nat × Nat)} (h : FewestIs s r) {n : Nat} (hl : lessB (plOf s n) r = true) : ¬ Can (woS s (plOf s n)) := fun hc => by
  obtain ⟨T, rfl, hf, hm⟩ := h
  obtain ⟨h1, h2⟩ := hm n (can_wo.1 hc)
  have l1 : (plOf s T).length = cardS s T := plOf_len
  have l2 : (plOf s n).length = cardS s n := plOf_len
  unfold lessB at hl
  simp only [Bool.or_eq_true, Bool.and_eq_true, decide_eq_true_eq] at hl
  rcases hl with h3 | ⟨h3, h4⟩
  · omega
  · have h5 : ltP (plOf s n) (plOf s T) = false := h2 (by omega)
    rw [h5] at h4; cases h4
theorem FewestIs.pos {s : Se} {r : List (Nat × Nat)} (h : FewestIs s r) (hc : ¬ Can s) : 0 < r.length := by
  obtain ⟨T, rfl, hf, _⟩ := h
  rcases Nat.eq_zero_or_pos (plOf s T).length with h0 | h0
  · rw [plOf_len] at h0
    have hz : SubS s T 0 := by
      intro i hi hx
      have : i ∈ idxB T (placeL s).length := mem_idxB.2 ⟨hi, hx⟩
      have hl : (idxB T (placeL s).length).length = 0 := by rw [idxB_len]; exact h0
      rw [List.eq_nil_of_length_eq_zero hl] at this
      cases this
    exact absurd (show Clash s T from Clash.mono (c := 0) (clash_zero.2 hc) hz) hf
  · exact h0

set_option maxRecDepth 100000 in
set_option maxHeartbeats 25600000 in
theorem BlameLaw_any (s : Se) (Ao Ab : Option Addr) (co cb : Nat) (rA : Nat → Option Addr) (rc : Nat → Nat) (w : World) (hs : SeIn w w.heap.size s Ao Ab rA rc) (hol : s.offs.length ≤ maxLen) (hbl : s.baths.length ≤ maxLen) (n : Nat) (hn16 : n ≤ 65535) :
    Calls Try.prog 11 #[.agg #[.slice Ao s.offs.length co, .int .i64 s.err, .slice Ab s.baths.length cb], .int .u16 (n : Int)] w fun e w' => e = .returned (.bool true) ∧ Below w.heap.size w w' := by
  have B_V := ex_alloc (Below.refl w.heap.size w) (.cells #[.slice Ao s.offs.length co, .int .i64 s.err, .slice Ab s.baths.length cb] 25)
  have q0 : Blk (w.alloc (.cells #[.slice Ao s.offs.length co, .int .i64 s.err, .slice Ab s.baths.length cb] 25)) w.heap.size 25 #[.slice Ao s.offs.length co, .int .i64 s.err, .slice Ab s.baths.length cb] := Blk.new _ _ _
  have hm : maxLen = 9223372036854775807 := rfl
  go_enter Try.func11, Try.ntmps11
  go_wp2_with fail
  generalize w.alloc (.cells #[.slice Ao s.offs.length co, .int .i64 s.err, .slice Ab s.baths.length cb] 25) = V at *
  have q0_0 : V.cell? ⟨w.heap.size, 0, none⟩ = some (.slice Ao s.offs.length co) := q0.cell 0
  have q0_1 : V.cell? ⟨w.heap.size, 1, none⟩ = some (.int .i64 s.err) := q0.cell 1
  have q0_2 : V.cell? ⟨w.heap.size, 2, none⟩ = some (.slice Ab s.baths.length cb) := q0.cell 2
  have q0_l := q0.lt
  refine (ready_law s Ao Ab co cb rA rc V ((hs.below B_V).up B_V.size) hol hbl).mono ?_
  rintro e W1 ⟨⟨x, rfl, hx⟩, hW1⟩
  replace q0 := q0.below hW1 q0.lt
  have B_W1 := ex_trans B_V hW1
  clear q0_0 q0_1 q0_2 q0_l
  have q0_0 : W1.cell? ⟨w.heap.size, 0, none⟩ = some (.slice Ao s.offs.length co) := q0.cell 0
  have q0_1 : W1.cell? ⟨w.heap.size, 1, none⟩ = some (.int .i64 s.err) := q0.cell 1
  have q0_2 : W1.cell? ⟨w.heap.size, 2, none⟩ = some (.slice Ab s.baths.length cb) := q0.cell 2
  have q0_l := q0.lt
  cases x
  · go_wp2_with fail
    refine (wakes_any _).mono ?_
    rintro e Wz ⟨rfl, hz⟩
    go_wp2
    go_ret
    exact ⟨rfl, ex_trans B_W1 hz⟩
  have HT := Lib.hid (hx.out rfl).1
  have HOK := Lib.hid (hx.out rfl).2
  clear hx
  have hno := HT.out.no
  have hnb := HT.out.nb
  go_wp2_with fail
  refine (places_ref s Ao Ab co cb rA rc W1 ((hs.below B_W1).up B_W1.size) HT.out).mono ?_
  rintro e W2 ⟨⟨A3, c3, rfl, _⟩, hW2⟩
  replace q0 := q0.below hW2 q0.lt
  have B_W2 := ex_trans B_W1 hW2
  clear q0_0 q0_1 q0_2 q0_l
  have q0_0 : W2.cell? ⟨w.heap.size, 0, none⟩ = some (.slice Ao s.offs.length co) := q0.cell 0
  have q0_1 : W2.cell? ⟨w.heap.size, 1, none⟩ = some (.int .i64 s.err) := q0.cell 1
  have q0_2 : W2.cell? ⟨w.heap.size, 2, none⟩ = some (.slice Ab s.baths.length cb) := q0.cell 2
  have q0_l := q0.lt
  by_cases hf : (placeL s).length ≤ 14
  rotate_left
  · have d1 : decide ((14 : Int) < ((placeL s).length : Int)) = true := decide_eq_true (by omega)
    have d2 : decide (14 < (placeL s).length) = true := decide_eq_true (by omega)
    clear hf
    go_wp2_with fail
    refine (wakes_any _).mono ?_
    rintro e Wz ⟨rfl, hz⟩
    go_wp2
    go_ret
    exact ⟨rfl, ex_trans B_W2 hz⟩
  have d1 : decide ((14 : Int) < ((placeL s).length : Int)) = false := decide_eq_false (by omega)
  have d2 : decide (14 < (placeL s).length) = false := decide_eq_false (by omega)
  go_wp2_with fail
  refine (Series_law s Ao Ab co cb rA rc W2 ((hs.below B_W2).up B_W2.size) HT.out).mono ?_
  rintro e W4 ⟨⟨Ao1, Ab1, co1, cb1, rA1, rc1, rfl, hs1⟩, hW4⟩
  replace q0 := q0.below hW4 q0.lt
  have B_W4 := ex_trans B_W2 hW4
  clear q0_0 q0_1 q0_2 q0_l
  have q0_0 : W4.cell? ⟨w.heap.size, 0, none⟩ = some (.slice Ao s.offs.length co) := q0.cell 0
  have q0_1 : W4.cell? ⟨w.heap.size, 1, none⟩ = some (.int .i64 s.err) := q0.cell 1
  have q0_2 : W4.cell? ⟨w.heap.size, 2, none⟩ = some (.slice Ab s.baths.length cb) := q0.cell 2
  have q0_l := q0.lt
  go_wp2_with fail
  refine (Blame_any s Ao1 Ab1 co1 cb1 rA1 rc1 W4 hs1 HT.out.sm).mono ?_
  rintro e W5 ⟨⟨Apl, pl, cpl, Aal, al, cal, evb, rfl, hbv, hpl36, hal6, slp, sla⟩, hW5⟩
  replace q0 := q0.below hW5 q0.lt
  replace hs1 := hs1.go hW5
  have B_W5 := ex_trans B_W4 hW5
  clear q0_0 q0_1 q0_2 q0_l
  have q0_0 : W5.cell? ⟨w.heap.size, 0, none⟩ = some (.slice Ao s.offs.length co) := q0.cell 0
  have q0_1 : W5.cell? ⟨w.heap.size, 1, none⟩ = some (.int .i64 s.err) := q0.cell 1
  have q0_2 : W5.cell? ⟨w.heap.size, 2, none⟩ = some (.slice Ab s.baths.length cb) := q0.cell 2
  have q0_l := q0.lt
  clear hs1
  clear d1 d2
  go_wp2_with fail
  refine wp_region_ext_mix 7 [(false, 0), (false, 2), (false, 3), (false, 4), (true, 1), (true, 5), (false, 6)] (by kernel_rfl) (by kernel_rfl) (by intro d _ _ _ _ h; cases d <;> exact h) ?_
  have hX0 := (Below.refl W5.heap.size W5).drew
  repeat (refine mix_quiet rfl ?_; go_big_quiet_step (fail); refine wpQuiet_nil ?_)
  refine mix_loud rfl ?_
  go_wp2_with fail
  refine (own_law Apl cpl pl W5.drew (by omega) ((slp.below hX0).up hX0.size)).mono ?_
  rintro e X1 ⟨⟨Af, cf, rfl, sf⟩, hX1⟩
  have hX1' := ex_trans hX0 hX1
  go_wp2_with fail
  refine ⟨inEx hX1', ?_⟩
  repeat (refine mix_quiet rfl ?_; go_big_quiet_step (fail); refine wpQuiet_nil ?_)
  refine mix_loud rfl ?_
  go_wp2_with fail
  refine (bits_ref s Ao Ab co cb rA rc X1 ((hs.below (ex_trans B_W5 hX1')).up (ex_trans B_W5 hX1').size) HOK.out n).mono ?_
  rintro e X2 ⟨⟨At, ct, rfl, st⟩, hX2⟩
  have hX2' := ex_trans hX1' hX2
  go_wp2_with fail
  refine ⟨inEx hX2', ?_⟩
  repeat (refine mix_quiet rfl ?_; go_big_quiet_step (fail); refine wpQuiet_nil ?_)
  refine mix_nil rfl ?_
  clear q0_0 q0_1 q0_2 q0_l
  replace slp := (slp.below hX2').up hX2'.size
  replace sla := (sla.below hX2').up hX2'.size
  replace sf := (sf.below hX2).up hX2.size
  replace q0 := q0.below hX2' q0.lt
  have B_X2 := ex_trans B_W5 hX2'
  clear hX0 hX1 hX1' hX2 hX2'
  have q0_0 : X2.cell? ⟨w.heap.size, 0, none⟩ = some (.slice Ao s.offs.length co) := q0.cell 0
  have q0_1 : X2.cell? ⟨w.heap.size, 1, none⟩ = some (.int .i64 s.err) := q0.cell 1
  have q0_2 : X2.cell? ⟨w.heap.size, 2, none⟩ = some (.slice Ab s.baths.length cb) := q0.cell 2
  have q0_l := q0.lt
  have htl : (plOf s n).length ≤ 36 := by have : (plOf s n).length ≤ (placeL s).length := (by rw [plOf_len]; exact card_full); omega
  by_cases hc : Can s
  · have HCS : Hid (canB s = true) := Lib.hid (canB_true hc)
    have HCAN := Lib.hid hc
    obtain ⟨rfl, rfl, rfl⟩ : evb = 0 ∧ pl = [] ∧ al = [] := by
      rcases hbv.out with ⟨h1, _⟩ | ⟨_, _, h2, h3, h4⟩ | ⟨_, h1, _⟩
      · exact absurd (seOk_iff.2 HOK.out) h1
      · exact ⟨h2, h3, h4⟩
      · exact absurd HCAN.out h1
    have HFW : Hid (canB (woS s []) = true) := Lib.hid (canB_true (few_nil HCAN.out).fits)
    have HLE : Hid (lessB (plOf s n) [] = false) := Lib.hid (by unfold lessB; simp; intro h; rw [h]; rfl)
    clear hc hbv
    go_wp2_with fail
    refine (without_ref s Ao Ab co cb rA rc X2 ((hs.below B_X2).up B_X2.size) HT.out [] Af cf (by omega) sf).mono ?_
    rintro e Y1a ⟨⟨Ab4, cb4, rA4, rc4, rfl, hs4⟩, hY1a⟩
    replace q0 := q0.below hY1a q0.lt
    replace slp := (slp.below hY1a).up hY1a.size
    replace sla := (sla.below hY1a).up hY1a.size
    replace sf := (sf.below hY1a).up hY1a.size
    replace st := (st.below hY1a).up hY1a.size
    have B_Y1a := ex_trans B_X2 hY1a
    clear q0_0 q0_1 q0_2 q0_l
    have q0_0 : Y1a.cell? ⟨w.heap.size, 0, none⟩ = some (.slice Ao s.offs.length co) := q0.cell 0
    have q0_1 : Y1a.cell? ⟨w.heap.size, 1, none⟩ = some (.int .i64 s.err) := q0.cell 1
    have q0_2 : Y1a.cell? ⟨w.heap.size, 2, none⟩ = some (.slice Ab s.baths.length cb) := q0.cell 2
    have q0_l := q0.lt
    go_wp2_with fail
    refine (fits_wo s [] Ao Ab4 co cb4 rA4 rc4 Y1a hs4 HT.out HOK.out).mono ?_
    rintro e Y1b ⟨rfl, hY1b⟩
    replace q0 := q0.below hY1b q0.lt
    replace slp := (slp.below hY1b).up hY1b.size
    replace sla := (sla.below hY1b).up hY1b.size
    replace sf := (sf.below hY1b).up hY1b.size
    replace st := (st.below hY1b).up hY1b.size
    replace hs4 := hs4.go hY1b
    have B_Y1b := ex_trans B_Y1a hY1b
    clear q0_0 q0_1 q0_2 q0_l
    have q0_0 : Y1b.cell? ⟨w.heap.size, 0, none⟩ = some (.slice Ao s.offs.length co) := q0.cell 0
    have q0_1 : Y1b.cell? ⟨w.heap.size, 1, none⟩ = some (.int .i64 s.err) := q0.cell 1
    have q0_2 : Y1b.cell? ⟨w.heap.size, 2, none⟩ = some (.slice Ab s.baths.length cb) := q0.cell 2
    have q0_l := q0.lt
    clear hs4
    rw [HFW.out]
    go_wp2_with fail
    refine (fits_law s Ao Ab co cb rA rc Y1b ((hs.below B_Y1b).up B_Y1b.size) HT.out HOK.out).mono ?_
    rintro e Y2 ⟨rfl, hY2⟩
    replace q0 := q0.below hY2 q0.lt
    replace slp := (slp.below hY2).up hY2.size
    replace sla := (sla.below hY2).up hY2.size
    replace sf := (sf.below hY2).up hY2.size
    replace st := (st.below hY2).up hY2.size
    have B_Y2 := ex_trans B_Y1b hY2
    clear q0_0 q0_1 q0_2 q0_l
    have q0_0 : Y2.cell? ⟨w.heap.size, 0, none⟩ = some (.slice Ao s.offs.length co) := q0.cell 0
    have q0_1 : Y2.cell? ⟨w.heap.size, 1, none⟩ = some (.int .i64 s.err) := q0.cell 1
    have q0_2 : Y2.cell? ⟨w.heap.size, 2, none⟩ = some (.slice Ab s.baths.length cb) := q0.cell 2
    have q0_l := q0.lt
    rw [HCS.out]
    go_wp2_with fail
    refine (less_ref At Af ct cf (plOf s n) [] Y2 (by omega) (by omega) st sf).mono ?_
    rintro e Y3 ⟨rfl, hY3⟩
    replace q0 := q0.below hY3 q0.lt
    replace slp := (slp.below hY3).up hY3.size
    replace sla := (sla.below hY3).up hY3.size
    replace sf := (sf.below hY3).up hY3.size
    replace st := (st.below hY3).up hY3.size
    have B_Y3 := ex_trans B_Y2 hY3
    clear q0_0 q0_1 q0_2 q0_l
    have q0_0 : Y3.cell? ⟨w.heap.size, 0, none⟩ = some (.slice Ao s.offs.length co) := q0.cell 0
    have q0_1 : Y3.cell? ⟨w.heap.size, 1, none⟩ = some (.int .i64 s.err) := q0.cell 1
    have q0_2 : Y3.cell? ⟨w.heap.size, 2, none⟩ = some (.slice Ab s.baths.length cb) := q0.cell 2
    have q0_l := q0.lt
    rw [HLE.out]
    go_wp2_with fail
    refine wp_loop (fun a W => Rel (fun a W => ∃ m : Nat, m ≤ s.offs.length ∧ Below w.heap.size w W ∧ Below Y3.heap.size Y3 W ∧ Blk W w.heap.size 25 #[.slice Ao s.offs.length co, .int .i64 s.err, .slice Ab s.baths.length cb] ∧ ∃ at' : Nat, at' = 0 ∧ ∃ u : Nat → Value, a = ⟨List.toArray (u 0 :: u 1 :: .pointer (some ⟨w.heap.size, 0, none⟩) :: u 3 :: u 4 :: u 5 :: .slice Aal 0 cal :: u 7 :: .slice Af 0 cf :: u 9 :: .int .i64 (at' : Int) :: .int .i64 (m : Int) :: u 12 :: u 13 :: u 14 :: u 15 :: u 16 :: u 17 :: u 18 :: u 19 :: u 20 :: u 21 :: u 22 :: u 23 :: u 24 :: u 25 :: u 26 :: u 27 :: u 28 :: u 29 :: u 30 :: u 31 :: u 32 :: u 33 :: u 34 :: u 35 :: u 36 :: u 37 :: u 38 :: u 39 :: u 40 :: u 41 :: u 42 :: u 43 :: u 44 :: u 45 :: u 46 :: u 47 :: u 48 :: u 49 :: u 50 :: u 51 :: u 52 :: u 53 :: u 54 :: u 55 :: u 56 :: u 57 :: u 58 :: u 59 :: u 60 :: u 61 :: u 62 :: u 63 :: u 64 :: u 65 :: u 66 :: u 67 :: u 68 :: u 69 :: u 70 :: u 71 :: u 72 :: u 73 :: u 74 :: u 75 :: u 76 :: u 77 :: u 78 :: u 79 :: u 80 :: u 81 :: u 82 :: u 83 :: u 84 :: u 85 :: u 86 :: u 87 :: u 88 :: u 89 :: u 90 :: u 91 :: u 92 :: u 93 :: u 94 :: u 95 :: u 96 :: u 97 :: u 98 :: u 99 :: u 100 :: u 101 :: []), []⟩) a W)
      (fun a _ => s.offs.length - (intOf (a.tmps.getD 11 undef)).toNat) ⟨⟨0, by omega, B_Y3, Below.refl _ _, q0, 0, rfl, exFrame (by kernel_rfl)⟩⟩ ?_
    clear q0_0 q0_1 q0_2 q0_l
    clear q0
    rintro a W ⟨⟨m, hm', hblW, hbv, q0, at', hz, u, rfl⟩⟩
    have l0 := q0.lt
    have a0 : W.cell? ⟨w.heap.size, 0, none⟩ = some (.slice Ao s.offs.length co) := q0.cell 0
    have a1 : W.cell? ⟨w.heap.size, 1, none⟩ = some (.int .i64 s.err) := q0.cell 1
    have a2 : W.cell? ⟨w.heap.size, 2, none⟩ = some (.slice Ab s.baths.length cb) := q0.cell 2
    have sla1 := (sla.below hbv).up hbv.size
    by_cases hlt : m < s.offs.length
    rotate_left
    · obtain rfl : m = s.offs.length := by omega
      subst hz
      go_wp2_with fail
      refine (wakes_any _).mono ?_
      rintro e Wz ⟨rfl, hz⟩
      go_wp2
      go_ret
      exact ⟨rfl, ex_trans hblW hz⟩
    subst hz
    have hX0 := (Below.refl W.heap.size W).drew
    go_wp2_with fail
    refine wp_region_ext_mix 10 [(false, 0), (false, 1), (false, 2), (false, 3), (false, 4), (false, 5), (false, 6), (true, 7), (true, 8), (true, 9)] (by kernel_rfl) (by kernel_rfl) (by intro d _ _ _ _ h; cases d <;> exact h) ?_
    repeat (refine mix_quiet rfl ?_; go_big_quiet_step (fail); refine wpQuiet_nil ?_)
    refine mix_loud rfl ?_
    go_wp2_with fail
    refine ⟨inEx hX0, ?_⟩
    refine mix_loud rfl ?_
    go_wp2_with fail
    refine ⟨inEx hX0, ?_⟩
    refine mix_loud rfl ?_
    go_wp2_with fail
    refine ⟨inEx hX0, ?_⟩
    refine mix_nil rfl ?_
    go_wp2_with fail
    refine ⟨⟨⟨m + 1, by omega, ex_trans hblW hX0, ex_trans hbv hX0, q0.below hX0 l0, 0, rfl, exFrame (by kernel_rfl)⟩⟩, ?_⟩
    show s.offs.length - (intOf (.int .i64 ((m : Int) + 1))).toNat < s.offs.length - (intOf (.int .i64 (m : Int))).toNat
    simp [intOf]
    omega
  have HCS : Hid (canB s = false) := Lib.hid (canB_false hc)
  have HCAN := Lib.hid hc
  obtain ⟨rfl, hfew, hinc⟩ : evb = 0 ∧ FewestIs s pl ∧ IncL (fun n => Fits s (ofB s n (placeL s).length)) s.offs.length al := by
    rcases hbv.out with ⟨h1, _⟩ | ⟨_, h1, _⟩ | ⟨_, _, h2, h3, h4⟩
    · exact absurd (seOk_iff.2 HOK.out) h1
    · exact absurd h1 HCAN.out
    · exact ⟨h2, h3, h4⟩
  have HFW : Hid (canB (woS s pl) = true) := Lib.hid (canB_true hfew.fits)
  have hpos := hfew.pos hc
  have HLS : Hid (lessB (plOf s n) pl = true → canB (woS s (plOf s n)) = false) := Lib.hid (fun h => canB_false (hfew.less h))
  have HINC := Lib.hid hinc
  clear hbv hfew hinc hc
  have p1 : ((pl.length : Int) == 0) = false := by rw [beq_eq_false_iff_ne]; omega
  have p2 : (pl.length == 0) = false := by rw [beq_eq_false_iff_ne]; omega
  have p2' : ¬ pl.length = 0 := by omega
  have p2'' : ¬ pl = [] := fun h => by rw [h] at hpos; exact absurd hpos (by simp)
  go_wp2_with fail
  refine (without_ref s Ao Ab co cb rA rc X2 ((hs.below B_X2).up B_X2.size) HT.out pl Af cf (by omega) sf).mono ?_
  rintro e Y1a ⟨⟨Ab4, cb4, rA4, rc4, rfl, hs4⟩, hY1a⟩
  replace q0 := q0.below hY1a q0.lt
  replace slp := (slp.below hY1a).up hY1a.size
  replace sla := (sla.below hY1a).up hY1a.size
  replace sf := (sf.below hY1a).up hY1a.size
  replace st := (st.below hY1a).up hY1a.size
  have B_Y1a := ex_trans B_X2 hY1a
  clear q0_0 q0_1 q0_2 q0_l
  have q0_0 : Y1a.cell? ⟨w.heap.size, 0, none⟩ = some (.slice Ao s.offs.length co) := q0.cell 0
  have q0_1 : Y1a.cell? ⟨w.heap.size, 1, none⟩ = some (.int .i64 s.err) := q0.cell 1
  have q0_2 : Y1a.cell? ⟨w.heap.size, 2, none⟩ = some (.slice Ab s.baths.length cb) := q0.cell 2
  have q0_l := q0.lt
  go_wp2_with fail
  refine (fits_wo s pl Ao Ab4 co cb4 rA4 rc4 Y1a hs4 HT.out HOK.out).mono ?_
  rintro e Y1b ⟨rfl, hY1b⟩
  replace q0 := q0.below hY1b q0.lt
  replace slp := (slp.below hY1b).up hY1b.size
  replace sla := (sla.below hY1b).up hY1b.size
  replace sf := (sf.below hY1b).up hY1b.size
  replace st := (st.below hY1b).up hY1b.size
  replace hs4 := hs4.go hY1b
  have B_Y1b := ex_trans B_Y1a hY1b
  clear q0_0 q0_1 q0_2 q0_l
  have q0_0 : Y1b.cell? ⟨w.heap.size, 0, none⟩ = some (.slice Ao s.offs.length co) := q0.cell 0
  have q0_1 : Y1b.cell? ⟨w.heap.size, 1, none⟩ = some (.int .i64 s.err) := q0.cell 1
  have q0_2 : Y1b.cell? ⟨w.heap.size, 2, none⟩ = some (.slice Ab s.baths.length cb) := q0.cell 2
  have q0_l := q0.lt
  clear hs4
  rw [HFW.out]
  go_wp2_with fail
  refine (fits_law s Ao Ab co cb rA rc Y1b ((hs.below B_Y1b).up B_Y1b.size) HT.out HOK.out).mono ?_
  rintro e Y2 ⟨rfl, hY2⟩
  replace q0 := q0.below hY2 q0.lt
  replace slp := (slp.below hY2).up hY2.size
  replace sla := (sla.below hY2).up hY2.size
  replace sf := (sf.below hY2).up hY2.size
  replace st := (st.below hY2).up hY2.size
  have B_Y2 := ex_trans B_Y1b hY2
  clear q0_0 q0_1 q0_2 q0_l
  have q0_0 : Y2.cell? ⟨w.heap.size, 0, none⟩ = some (.slice Ao s.offs.length co) := q0.cell 0
  have q0_1 : Y2.cell? ⟨w.heap.size, 1, none⟩ = some (.int .i64 s.err) := q0.cell 1
  have q0_2 : Y2.cell? ⟨w.heap.size, 2, none⟩ = some (.slice Ab s.baths.length cb) := q0.cell 2
  have q0_l := q0.lt
  rw [HCS.out]
  go_wp2_with fail
  refine (less_ref At Af ct cf (plOf s n) pl Y2 (by omega) (by omega) st sf).mono ?_
  rintro e Y3 ⟨rfl, hY3⟩
  replace q0 := q0.below hY3 q0.lt
  replace slp := (slp.below hY3).up hY3.size
  replace sla := (sla.below hY3).up hY3.size
  replace sf := (sf.below hY3).up hY3.size
  replace st := (st.below hY3).up hY3.size
  have B_Y3 := ex_trans B_Y2 hY3
  clear q0_0 q0_1 q0_2 q0_l
  have q0_0 : Y3.cell? ⟨w.heap.size, 0, none⟩ = some (.slice Ao s.offs.length co) := q0.cell 0
  have q0_1 : Y3.cell? ⟨w.heap.size, 1, none⟩ = some (.int .i64 s.err) := q0.cell 1
  have q0_2 : Y3.cell? ⟨w.heap.size, 2, none⟩ = some (.slice Ab s.baths.length cb) := q0.cell 2
  have q0_l := q0.lt
  generalize lessB (plOf s n) pl = x at HLS ⊢
  cases x
  · clear HLS
    go_wp2_with fail
    refine wp_loop (fun a W => Rel (fun a W => ∃ m : Nat, m ≤ s.offs.length ∧ Below w.heap.size w W ∧ Below Y3.heap.size Y3 W ∧ Blk W w.heap.size 25 #[.slice Ao s.offs.length co, .int .i64 s.err, .slice Ab s.baths.length cb] ∧ ∃ at' : Nat, ∃ L R : List Nat, Hid (al = L ++ R) ∧ Hid (IncL (fun n => Fits s (ofB s n (placeL s).length)) m L) ∧ Hid (at' = L.length) ∧ ∃ u : Nat → Value, a = ⟨List.toArray (u 0 :: u 1 :: .pointer (some ⟨w.heap.size, 0, none⟩) :: u 3 :: u 4 :: u 5 :: .slice Aal al.length cal :: u 7 :: .slice Af pl.length cf :: u 9 :: .int .i64 (at' : Int) :: .int .i64 (m : Int) :: u 12 :: u 13 :: u 14 :: u 15 :: u 16 :: u 17 :: u 18 :: u 19 :: u 20 :: u 21 :: u 22 :: u 23 :: u 24 :: u 25 :: u 26 :: u 27 :: u 28 :: u 29 :: u 30 :: u 31 :: u 32 :: u 33 :: u 34 :: u 35 :: u 36 :: u 37 :: u 38 :: u 39 :: u 40 :: u 41 :: u 42 :: u 43 :: u 44 :: u 45 :: u 46 :: u 47 :: u 48 :: u 49 :: u 50 :: u 51 :: u 52 :: u 53 :: u 54 :: u 55 :: u 56 :: u 57 :: u 58 :: u 59 :: u 60 :: u 61 :: u 62 :: u 63 :: u 64 :: u 65 :: u 66 :: u 67 :: u 68 :: u 69 :: u 70 :: u 71 :: u 72 :: u 73 :: u 74 :: u 75 :: u 76 :: u 77 :: u 78 :: u 79 :: u 80 :: u 81 :: u 82 :: u 83 :: u 84 :: u 85 :: u 86 :: u 87 :: u 88 :: u 89 :: u 90 :: u 91 :: u 92 :: u 93 :: u 94 :: u 95 :: u 96 :: u 97 :: u 98 :: u 99 :: u 100 :: u 101 :: []), []⟩) a W)
      (fun a _ => s.offs.length - (intOf (a.tmps.getD 11 undef)).toNat) ⟨⟨0, by omega, B_Y3, Below.refl _ _, q0, 0, [], al, Lib.hid rfl, Lib.hid rfl, Lib.hid rfl, exFrame (by kernel_rfl)⟩⟩ ?_
    clear q0_0 q0_1 q0_2 q0_l
    clear q0
    rintro a W ⟨⟨m, hm', hblW, hbv, q0, at', L, R, HLR, HI2, HAL, u, rfl⟩⟩
    have l0 := q0.lt
    have a0 : W.cell? ⟨w.heap.size, 0, none⟩ = some (.slice Ao s.offs.length co) := q0.cell 0
    have a1 : W.cell? ⟨w.heap.size, 1, none⟩ = some (.int .i64 s.err) := q0.cell 1
    have a2 : W.cell? ⟨w.heap.size, 2, none⟩ = some (.slice Ab s.baths.length cb) := q0.cell 2
    have sla1 := (sla.below hbv).up hbv.size
    by_cases hlt : m < s.offs.length
    rotate_left
    · obtain rfl : m = s.offs.length := by omega
      have HAT : Hid (at' = al.length) := Lib.hid (by rw [HAL.out, HINC.out.uniq HI2.out])
      obtain rfl := HAT.out
      go_wp2_with fail
      refine (wakes_any _).mono ?_
      rintro e Wz ⟨rfl, hz⟩
      go_wp2
      go_ret
      exact ⟨rfl, ex_trans hblW hz⟩
    have hPT : Hid (Can (woS s (plOf s (ofB s m (placeL s).length))) ↔ Fits s (ofB s m (placeL s).length)) := Lib.hid can_wo
    have hol2 : (plOf s (ofB s m (placeL s).length)).length ≤ 36 := by
      have : (plOf s (ofB s m (placeL s).length)).length ≤ (placeL s).length := by rw [plOf_len]; exact card_full
      omega
    have HT1 : Hid (Can (woS s (plOf s (ofB s m (placeL s).length))) → ∃ R', al = (L ++ [m]) ++ R' ∧ IncL (fun n => Fits s (ofB s n (placeL s).length)) (m + 1) (L ++ [m])) := Lib.hid (fun h => HINC.out.next hlt HLR.out HI2.out (hPT.out.1 h))
    have HT2 : Hid (¬ Can (woS s (plOf s (ofB s m (placeL s).length))) → IncL (fun n => Fits s (ofB s n (placeL s).length)) (m + 1) L) := Lib.hid (fun h => .inr ⟨fun hf => h (hPT.out.2 hf), HI2.out⟩)
    have d3 : decide ((0 : Int) < (pl.length : Int)) = true := decide_eq_true (by omega)
    have d4 : decide (0 < pl.length) = true := decide_eq_true (by omega)
    go_wp2_with fail
    refine wp_region_ext_mix 10 [(false, 0), (false, 1), (false, 2), (false, 3), (false, 4), (false, 5), (false, 6), (true, 7), (true, 8), (true, 9)] (by kernel_rfl) (by kernel_rfl) (by intro d _ _ _ _ h; cases d <;> exact h) ?_
    have hX0 := (Below.refl W.heap.size W).drew
    repeat (refine mix_quiet rfl ?_; go_big_quiet_step (fail); refine wpQuiet_nil ?_)
    refine mix_loud rfl ?_
    go_wp2_with fail
    refine (of_ref s Ao Ab co cb rA rc W.drew ((hs.below (ex_trans hblW hX0)).up (ex_trans hblW hX0).size) HOK.out m).mono ?_
    rintro e Z1 ⟨⟨A8, c8, rfl, s8⟩, hZ1⟩
    have hZ1' := ex_trans hX0 hZ1
    generalize plOf s (ofB s m (placeL s).length) = lo at *
    go_wp2_with fail
    refine ⟨inEx hZ1', ?_⟩
    refine mix_loud rfl ?_
    go_wp2_with fail
    refine (without_ref s Ao Ab co cb rA rc Z1 ((hs.below (ex_trans hblW hZ1')).up (ex_trans hblW hZ1').size) HT.out lo A8 c8 (by omega) s8).mono ?_
    rintro e Z2 ⟨⟨Ab', cb', rA', rc', rfl, hs3⟩, hZ2⟩
    have hZ2' := ex_trans hZ1' hZ2
    go_wp2_with fail
    refine ⟨inEx hZ2', ?_⟩
    refine mix_loud rfl ?_
    go_wp2_with fail
    refine (fits_wo s lo Ao Ab' co cb' rA' rc' Z2 hs3 HT.out HOK.out).mono ?_
    rintro e Z3 ⟨rfl, hZ3⟩
    have hZ3' := ex_trans hZ2' hZ3
    go_wp2_with fail
    refine ⟨inEx hZ3', ?_⟩
    refine mix_nil rfl ?_
    have B3 := ex_trans hblW hZ3'
    have V3 := ex_trans hbv hZ3'
    have q3 := q0.below hZ3' l0
    have sla3 := (sla1.below hZ3').up hZ3'.size
    clear q0 a0 a1 a2 l0 hX0 hZ1 hZ1' hZ2 hZ2' hZ3 hs3 s8 hbv sla1 d3 d4
    by_cases hc : Can (woS s lo)
    rotate_left
    · have HCF : Hid (canB (woS s lo) = false) := Lib.hid (canB_false hc)
      rw [HCF.out]
      have HI3 := Lib.hid (HT2.out hc)
      clear hc HT1 HT2 hPT
      go_wp2_with fail
      refine ⟨⟨⟨m + 1, by omega, B3, V3, q3, at', L, R, HLR, HI3, HAL, exFrame (by kernel_rfl)⟩⟩, ?_⟩
      show s.offs.length - (intOf (.int .i64 ((m : Int) + 1))).toNat < s.offs.length - (intOf (.int .i64 (m : Int))).toNat
      simp [intOf]
      omega
    have HCT : Hid (canB (woS s lo) = true) := Lib.hid (canB_true hc)
    rw [HCT.out]
    obtain ⟨R', hR', hI3⟩ := HT1.out hc
    have HR' := Lib.hid hR'
    have HI3 := Lib.hid hI3
    have hatl : at' < al.length := by rw [hR', HAL.out]; simp
    have HAV : Hid (gI (natI al) at' = (m : Int)) := Lib.hid (by rw [hR', HAL.out]; simp [natI, gI])
    clear hc HT1 HT2 hPT hR' hI3
    obtain ⟨bA, oA, hA', hbA, cA⟩ := IsInts.at_ sla3 hatl
    rw [HAV.out] at cA
    have d5 : decide ((at' : Int) ≥ (al.length : Int)) = false := decide_eq_false (by omega)
    have d6 : decide ((al.length : Int) ≤ (at' : Int)) = false := decide_eq_false (by omega)
    have d7 : decide (al.length ≤ at') = false := decide_eq_false (by omega)
    have HAL2 : Hid (at' + 1 = (L ++ [m]).length) := Lib.hid (by rw [HAL.out]; simp)
    subst hA'
    go_wp2_with fail
    refine ⟨⟨⟨m + 1, by omega, B3, V3, q3, at' + 1, L ++ [m], R', HR', HI3, HAL2, exFrame (by kernel_rfl)⟩⟩, ?_⟩
    show s.offs.length - (intOf (.int .i64 ((m : Int) + 1))).toNat < s.offs.length - (intOf (.int .i64 (m : Int))).toNat
    simp [intOf]
    omega
  have HLT : Hid (canB (woS s (plOf s n)) = false) := Lib.hid (HLS.out rfl)
  clear HLS
  go_wp2_with fail
  refine (without_ref s Ao Ab co cb rA rc Y3 ((hs.below B_Y3).up B_Y3.size) HT.out (plOf s n) At ct (by omega) st).mono ?_
  rintro e Y4a ⟨⟨Ab5, cb5, rA5, rc5, rfl, hs5⟩, hY4a⟩
  replace q0 := q0.below hY4a q0.lt
  replace slp := (slp.below hY4a).up hY4a.size
  replace sla := (sla.below hY4a).up hY4a.size
  replace sf := (sf.below hY4a).up hY4a.size
  replace st := (st.below hY4a).up hY4a.size
  have B_Y4a := ex_trans B_Y3 hY4a
  clear q0_0 q0_1 q0_2 q0_l
  have q0_0 : Y4a.cell? ⟨w.heap.size, 0, none⟩ = some (.slice Ao s.offs.length co) := q0.cell 0
  have q0_1 : Y4a.cell? ⟨w.heap.size, 1, none⟩ = some (.int .i64 s.err) := q0.cell 1
  have q0_2 : Y4a.cell? ⟨w.heap.size, 2, none⟩ = some (.slice Ab s.baths.length cb) := q0.cell 2
  have q0_l := q0.lt
  go_wp2_with fail
  refine (fits_wo s (plOf s n) Ao Ab5 co cb5 rA5 rc5 Y4a hs5 HT.out HOK.out).mono ?_
  rintro e Y4b ⟨rfl, hY4b⟩
  replace q0 := q0.below hY4b q0.lt
  replace slp := (slp.below hY4b).up hY4b.size
  replace sla := (sla.below hY4b).up hY4b.size
  replace sf := (sf.below hY4b).up hY4b.size
  replace st := (st.below hY4b).up hY4b.size
  replace hs5 := hs5.go hY4b
  have B_Y4b := ex_trans B_Y4a hY4b
  clear q0_0 q0_1 q0_2 q0_l
  have q0_0 : Y4b.cell? ⟨w.heap.size, 0, none⟩ = some (.slice Ao s.offs.length co) := q0.cell 0
  have q0_1 : Y4b.cell? ⟨w.heap.size, 1, none⟩ = some (.int .i64 s.err) := q0.cell 1
  have q0_2 : Y4b.cell? ⟨w.heap.size, 2, none⟩ = some (.slice Ab s.baths.length cb) := q0.cell 2
  have q0_l := q0.lt
  clear hs5
  rw [HLT.out]
  go_wp2_with fail
  refine wp_loop (fun a W => Rel (fun a W => ∃ m : Nat, m ≤ s.offs.length ∧ Below w.heap.size w W ∧ Below Y4b.heap.size Y4b W ∧ Blk W w.heap.size 25 #[.slice Ao s.offs.length co, .int .i64 s.err, .slice Ab s.baths.length cb] ∧ ∃ at' : Nat, ∃ L R : List Nat, Hid (al = L ++ R) ∧ Hid (IncL (fun n => Fits s (ofB s n (placeL s).length)) m L) ∧ Hid (at' = L.length) ∧ ∃ u : Nat → Value, a = ⟨List.toArray (u 0 :: u 1 :: .pointer (some ⟨w.heap.size, 0, none⟩) :: u 3 :: u 4 :: u 5 :: .slice Aal al.length cal :: u 7 :: .slice Af pl.length cf :: u 9 :: .int .i64 (at' : Int) :: .int .i64 (m : Int) :: u 12 :: u 13 :: u 14 :: u 15 :: u 16 :: u 17 :: u 18 :: u 19 :: u 20 :: u 21 :: u 22 :: u 23 :: u 24 :: u 25 :: u 26 :: u 27 :: u 28 :: u 29 :: u 30 :: u 31 :: u 32 :: u 33 :: u 34 :: u 35 :: u 36 :: u 37 :: u 38 :: u 39 :: u 40 :: u 41 :: u 42 :: u 43 :: u 44 :: u 45 :: u 46 :: u 47 :: u 48 :: u 49 :: u 50 :: u 51 :: u 52 :: u 53 :: u 54 :: u 55 :: u 56 :: u 57 :: u 58 :: u 59 :: u 60 :: u 61 :: u 62 :: u 63 :: u 64 :: u 65 :: u 66 :: u 67 :: u 68 :: u 69 :: u 70 :: u 71 :: u 72 :: u 73 :: u 74 :: u 75 :: u 76 :: u 77 :: u 78 :: u 79 :: u 80 :: u 81 :: u 82 :: u 83 :: u 84 :: u 85 :: u 86 :: u 87 :: u 88 :: u 89 :: u 90 :: u 91 :: u 92 :: u 93 :: u 94 :: u 95 :: u 96 :: u 97 :: u 98 :: u 99 :: u 100 :: u 101 :: []), []⟩) a W)
    (fun a _ => s.offs.length - (intOf (a.tmps.getD 11 undef)).toNat) ⟨⟨0, by omega, B_Y4b, Below.refl _ _, q0, 0, [], al, Lib.hid rfl, Lib.hid rfl, Lib.hid rfl, exFrame (by kernel_rfl)⟩⟩ ?_
  clear q0_0 q0_1 q0_2 q0_l
  clear q0
  rintro a W ⟨⟨m, hm', hblW, hbv, q0, at', L, R, HLR, HI2, HAL, u, rfl⟩⟩
  have l0 := q0.lt
  have a0 : W.cell? ⟨w.heap.size, 0, none⟩ = some (.slice Ao s.offs.length co) := q0.cell 0
  have a1 : W.cell? ⟨w.heap.size, 1, none⟩ = some (.int .i64 s.err) := q0.cell 1
  have a2 : W.cell? ⟨w.heap.size, 2, none⟩ = some (.slice Ab s.baths.length cb) := q0.cell 2
  have sla1 := (sla.below hbv).up hbv.size
  by_cases hlt : m < s.offs.length
  rotate_left
  · obtain rfl : m = s.offs.length := by omega
    have HAT : Hid (at' = al.length) := Lib.hid (by rw [HAL.out, HINC.out.uniq HI2.out])
    obtain rfl := HAT.out
    go_wp2_with fail
    refine (wakes_any _).mono ?_
    rintro e Wz ⟨rfl, hz⟩
    go_wp2
    go_ret
    exact ⟨rfl, ex_trans hblW hz⟩
  have hPT : Hid (Can (woS s (plOf s (ofB s m (placeL s).length))) ↔ Fits s (ofB s m (placeL s).length)) := Lib.hid can_wo
  have hol2 : (plOf s (ofB s m (placeL s).length)).length ≤ 36 := by
    have : (plOf s (ofB s m (placeL s).length)).length ≤ (placeL s).length := by rw [plOf_len]; exact card_full
    omega
  have HT1 : Hid (Can (woS s (plOf s (ofB s m (placeL s).length))) → ∃ R', al = (L ++ [m]) ++ R' ∧ IncL (fun n => Fits s (ofB s n (placeL s).length)) (m + 1) (L ++ [m])) := Lib.hid (fun h => HINC.out.next hlt HLR.out HI2.out (hPT.out.1 h))
  have HT2 : Hid (¬ Can (woS s (plOf s (ofB s m (placeL s).length))) → IncL (fun n => Fits s (ofB s n (placeL s).length)) (m + 1) L) := Lib.hid (fun h => .inr ⟨fun hf => h (hPT.out.2 hf), HI2.out⟩)
  have d3 : decide ((0 : Int) < (pl.length : Int)) = true := decide_eq_true (by omega)
  have d4 : decide (0 < pl.length) = true := decide_eq_true (by omega)
  go_wp2_with fail
  refine wp_region_ext_mix 10 [(false, 0), (false, 1), (false, 2), (false, 3), (false, 4), (false, 5), (false, 6), (true, 7), (true, 8), (true, 9)] (by kernel_rfl) (by kernel_rfl) (by intro d _ _ _ _ h; cases d <;> exact h) ?_
  have hX0 := (Below.refl W.heap.size W).drew
  repeat (refine mix_quiet rfl ?_; go_big_quiet_step (fail); refine wpQuiet_nil ?_)
  refine mix_loud rfl ?_
  go_wp2_with fail
  refine (of_ref s Ao Ab co cb rA rc W.drew ((hs.below (ex_trans hblW hX0)).up (ex_trans hblW hX0).size) HOK.out m).mono ?_
  rintro e Z1 ⟨⟨A8, c8, rfl, s8⟩, hZ1⟩
  have hZ1' := ex_trans hX0 hZ1
  generalize plOf s (ofB s m (placeL s).length) = lo at *
  go_wp2_with fail
  refine ⟨inEx hZ1', ?_⟩
  refine mix_loud rfl ?_
  go_wp2_with fail
  refine (without_ref s Ao Ab co cb rA rc Z1 ((hs.below (ex_trans hblW hZ1')).up (ex_trans hblW hZ1').size) HT.out lo A8 c8 (by omega) s8).mono ?_
  rintro e Z2 ⟨⟨Ab', cb', rA', rc', rfl, hs3⟩, hZ2⟩
  have hZ2' := ex_trans hZ1' hZ2
  go_wp2_with fail
  refine ⟨inEx hZ2', ?_⟩
  refine mix_loud rfl ?_
  go_wp2_with fail
  refine (fits_wo s lo Ao Ab' co cb' rA' rc' Z2 hs3 HT.out HOK.out).mono ?_
  rintro e Z3 ⟨rfl, hZ3⟩
  have hZ3' := ex_trans hZ2' hZ3
  go_wp2_with fail
  refine ⟨inEx hZ3', ?_⟩
  refine mix_nil rfl ?_
  have B3 := ex_trans hblW hZ3'
  have V3 := ex_trans hbv hZ3'
  have q3 := q0.below hZ3' l0
  have sla3 := (sla1.below hZ3').up hZ3'.size
  clear q0 a0 a1 a2 l0 hX0 hZ1 hZ1' hZ2 hZ2' hZ3 hs3 s8 hbv sla1 d3 d4
  by_cases hc : Can (woS s lo)
  rotate_left
  · have HCF : Hid (canB (woS s lo) = false) := Lib.hid (canB_false hc)
    rw [HCF.out]
    have HI3 := Lib.hid (HT2.out hc)
    clear hc HT1 HT2 hPT
    go_wp2_with fail
    refine ⟨⟨⟨m + 1, by omega, B3, V3, q3, at', L, R, HLR, HI3, HAL, exFrame (by kernel_rfl)⟩⟩, ?_⟩
    show s.offs.length - (intOf (.int .i64 ((m : Int) + 1))).toNat < s.offs.length - (intOf (.int .i64 (m : Int))).toNat
    simp [intOf]
    omega
  have HCT : Hid (canB (woS s lo) = true) := Lib.hid (canB_true hc)
  rw [HCT.out]
  obtain ⟨R', hR', hI3⟩ := HT1.out hc
  have HR' := Lib.hid hR'
  have HI3 := Lib.hid hI3
  have hatl : at' < al.length := by rw [hR', HAL.out]; simp
  have HAV : Hid (gI (natI al) at' = (m : Int)) := Lib.hid (by rw [hR', HAL.out]; simp [natI, gI])
  clear hc HT1 HT2 hPT hR' hI3
  obtain ⟨bA, oA, hA', hbA, cA⟩ := IsInts.at_ sla3 hatl
  rw [HAV.out] at cA
  have d5 : decide ((at' : Int) ≥ (al.length : Int)) = false := decide_eq_false (by omega)
  have d6 : decide ((al.length : Int) ≤ (at' : Int)) = false := decide_eq_false (by omega)
  have d7 : decide (al.length ≤ at') = false := decide_eq_false (by omega)
  have HAL2 : Hid (at' + 1 = (L ++ [m]).length) := Lib.hid (by rw [HAL.out]; simp)
  subst hA'
  go_wp2_with fail
  refine ⟨⟨⟨m + 1, by omega, B3, V3, q3, at' + 1, L ++ [m], R', HR', HI3, HAL2, exFrame (by kernel_rfl)⟩⟩, ?_⟩
  show s.offs.length - (intOf (.int .i64 ((m : Int) + 1))).toNat < s.offs.length - (intOf (.int .i64 (m : Int))).toNat
  simp [intOf]
  omega
end Go.Proofs.Ytnplefhigbkbbaa
end
