/- Bath's reference: Places, Has, Of, Bits, Less (walks). · Bath's reference: Less, Without (walks). · Bath's reference: Without (walk). · Bath's reference: what is left without some readings (plain); Fewest (walk). · Bath's laws: word, some; what Read tells (plain). -/
import Derived.Test.YtnplefhigbkbbaaQ9
import Derived.Test.YtnplefhigbkbbaaQ7
import Derived.Test.YtnplefhigbkbbaaQ10
set_option linter.unusedVariables false
set_option linter.unusedSimpArgs false
set_option linter.unusedSectionVars false
section
namespace Go.Proofs.Ytnplefhigbkbbaa
open Go.RowKit
attribute [local go_sem] Ex.cell? Ex.frozen? Gx.cell?

theorem rplace_info : (Try.prog.info? 120).map (fun i => (i.zero, i.size, i.bytes)) = some (some (.agg #[.int .i64 0, .int .i64 0]), 2, 16) := by kernel_rfl
theorem placeB_le {s : Se} (ht : ∀ k, k < s.baths.length → (gBt s.baths k).reads.length ≤ 9) : ∀ {n : Nat}, n ≤ s.baths.length → (placeB s n).length ≤ 9 * n
  | 0, _ => Nat.le_refl _
  | n + 1, h => by
    have h1 := placeB_le ht (n := n) (by omega)
    have h2 := ht n (by omega)
    rw [placeB, List.length_append, List.length_map, List.length_range]
    omega
theorem SeOk.thn {s : Se} (h : SeOk s) : Thn s := ⟨by have := h.no; omega, by have := h.nb; omega, fun b hb => by have := reads_le h hb; have := h.no; omega⟩
theorem placeL_le {s : Se} (ht : Thn s) : (placeL s).length ≤ 81 := by
  have := placeB_le ht.nr (Nat.le_refl s.baths.length)
  have := ht.nb
  unfold placeL
  omega
theorem placeB_sub {s : Se} (ht : Thn s) {b i : Nat} (hb : b < s.baths.length) (hi : i ≤ (gBt s.baths b).reads.length) : (placeB s b ++ (List.range i).map fun i => (b, i)).length ≤ 81 := by
  have h1 := placeB_le ht.nr (Nat.le_of_lt hb)
  have h2 := ht.nr b hb
  have h3 := ht.nb
  rw [List.length_append, List.length_map, List.length_range]
  omega

set_option maxRecDepth 100000 in
set_option maxHeartbeats 6400000 in
theorem places_cap (s : Se) (Ao Ab : Option Addr) (co cb : Nat) (rA : Nat → Option Addr) (rc : Nat → Nat) (w : World) (hs : SeIn w w.heap.size s Ao Ab rA rc) (ht : Thn s) :
    Calls Try.prog 31 #[.agg #[.slice Ao s.offs.length co, .int .i64 s.err, .slice Ab s.baths.length cb]] w fun e w' => (∃ A c, e = .returned (.slice A (placeL s).length c) ∧ ((placeL s).length ≤ c ∧ c ≤ maxLen) ∧ SlAt w' w'.heap.size 2 A (placeL s).length (fPl (placeL s))) ∧ Below w.heap.size w w' := by
  obtain ⟨i0, hi0, hz0, hz1, hz2⟩ := info_parts rplace_info
  have HI := Lib.hid hi0
  clear hi0
  have hnb := ht.nb
  have HT := Lib.hid ht
  clear ht
  have hb1 := ex_alloc (Below.refl w.heap.size w) (.cells #[.slice Ao s.offs.length co, .int .i64 s.err, .slice Ab s.baths.length cb] 25)
  have q1 : Blk (w.alloc (.cells #[.slice Ao s.offs.length co, .int .i64 s.err, .slice Ab s.baths.length cb] 25)) w.heap.size 25 #[.slice Ao s.offs.length co, .int .i64 s.err, .slice Ab s.baths.length cb] := Blk.new _ _ _
  go_enter Try.func31, Try.ntmps31
  go_wp2_with fail
  have hVs : w.heap.size + 1 ≤ (w.alloc (.cells #[.slice Ao s.offs.length co, .int .i64 s.err, .slice Ab s.baths.length cb] 25)).heap.size := by simp
  generalize w.alloc (.cells #[.slice Ao s.offs.length co, .int .i64 s.err, .slice Ab s.baths.length cb] 25) = V at *
  refine wp_loop (fun a W => Rel (fun a W => ∃ b : Nat, b ≤ s.baths.length ∧ w.heap.size + 1 ≤ W.heap.size ∧ Below w.heap.size w W ∧ Blk W w.heap.size 25 #[.slice Ao s.offs.length co, .int .i64 s.err, .slice Ab s.baths.length cb] ∧ ∃ v, ∃ L : List (Nat × Nat), Hid (L = placeB s b) ∧ W.ownsRow (w.heap.size + 1) 120 2 v L.length (L.flatMap cP) ∧ ∃ u : Nat → Value, a = ⟨List.toArray (u 0 :: .pointer (some ⟨w.heap.size, 0, none⟩) :: u 2 :: v :: .int .i64 (b : Int) :: u 5 :: u 6 :: u 7 :: u 8 :: u 9 :: u 10 :: u 11 :: u 12 :: u 13 :: u 14 :: u 15 :: u 16 :: u 17 :: u 18 :: u 19 :: u 20 :: u 21 :: u 22 :: u 23 :: u 24 :: u 25 :: u 26 :: u 27 :: u 28 :: u 29 :: u 30 :: []), []⟩) a W)
    (fun a _ => s.baths.length - (intOf (a.tmps.getD 4 undef)).toNat) ⟨⟨0, by omega, hVs, hb1, q1, .slice none 0 0, [], Lib.hid rfl, ⟨rfl, .inl ⟨rfl, rfl⟩⟩, exFrame (by kernel_rfl)⟩⟩ ?_
  clear hb1 q1 hVs V
  rintro a W ⟨⟨b, hb, hsz, hbl, q0, v, L, HL, hown, u, rfl⟩⟩
  have l0 := q0.lt
  have a2 : W.cell? ⟨w.heap.size, 2, none⟩ = some (.slice Ab s.baths.length cb) := q0.cell 2
  by_cases hlt : b < s.baths.length
  rotate_left
  · obtain rfl : b = s.baths.length := by omega
    have hLL : L = placeL s := HL.out
    clear HL
    subst hLL
    obtain ⟨A', c', rfl, hc1, hc2, hsl⟩ := own_P hown
    have HCC := Lib.hid (And.intro hc1 hc2)
    clear hc1 hc2
    go_wp2
    go_ret
    exact ⟨⟨_, _, rfl, HCC.out, hsl⟩, hbl⟩
  go_wp2_with fail
  have HL0 : Hid (L = placeB s b ++ (List.range 0).map fun i => (b, i)) := Lib.hid (by rw [HL.out]; simp)
  refine wp_loop (fun a W => Rel (fun a W => ∃ i : Nat, i ≤ (gBt s.baths b).reads.length ∧ w.heap.size + 1 ≤ W.heap.size ∧ Below w.heap.size w W ∧ Blk W w.heap.size 25 #[.slice Ao s.offs.length co, .int .i64 s.err, .slice Ab s.baths.length cb] ∧ ∃ v, ∃ L : List (Nat × Nat), Hid (L = placeB s b ++ (List.range i).map fun i => (b, i)) ∧ W.ownsRow (w.heap.size + 1) 120 2 v L.length (L.flatMap cP) ∧ ∃ u : Nat → Value, a = ⟨List.toArray (u 0 :: .pointer (some ⟨w.heap.size, 0, none⟩) :: u 2 :: v :: .int .i64 (b : Int) :: .int .i64 (i : Int) :: u 6 :: u 7 :: u 8 :: u 9 :: u 10 :: u 11 :: u 12 :: u 13 :: u 14 :: u 15 :: u 16 :: u 17 :: u 18 :: u 19 :: u 20 :: u 21 :: u 22 :: u 23 :: u 24 :: u 25 :: u 26 :: u 27 :: u 28 :: u 29 :: u 30 :: []), []⟩) a W)
    (fun a _ => (gBt s.baths b).reads.length - (intOf (a.tmps.getD 5 undef)).toNat) ⟨⟨0, by omega, hsz, hbl, q0, v, L, HL0, hown, exFrame (by kernel_rfl)⟩⟩ ?_
  clear HL0 HL hown hsz hbl q0 a2 l0 W
  rintro a W ⟨⟨i, hi, hsz, hbl, q0, v, L, HL, hown, u, rfl⟩⟩
  have l0 := q0.lt
  have a2 : W.cell? ⟨w.heap.size, 2, none⟩ = some (.slice Ab s.baths.length cb) := q0.cell 2
  obtain ⟨bb, ob, rfl, hbb, g0, g1, g2⟩ := IsBts.at_ (hs.baths.below hbl) hlt
  have lbb : bb < W.heap.size := by have := hbl.size; omega
  have hr9 := HT.out.nr b hlt
  by_cases hli : i < (gBt s.baths b).reads.length
  rotate_left
  · obtain rfl : i = (gBt s.baths b).reads.length := by omega
    have HL2 : Hid (L = placeB s (b + 1)) := Lib.hid (by rw [HL.out]; rfl)
    clear HL
    generalize (gBt s.baths b).reads.length = nr at *
    go_wp2_with fail
    refine ⟨⟨⟨b + 1, by omega, hsz, hbl, q0, v, L, HL2, hown, exFrame (by kernel_rfl)⟩⟩, ?_⟩
    show s.baths.length - (intOf (.int .i64 ((b : Int) + 1))).toNat < s.baths.length - (intOf (.int .i64 (b : Int))).toNat
    simp [intOf]
    omega
  have hll : L.length ≤ 81 := by rw [HL.out]; exact placeB_sub HT.out hlt hi
  have HN : Hid (L ++ [(b, i)] = placeB s b ++ (List.range (i + 1)).map fun i => (b, i)) := Lib.hid (by rw [HL.out, List.range_succ, List.map_append, List.append_assoc]; rfl)
  generalize hnr : (gBt s.baths b).reads.length = nr at hli hr9 hi ⊢ g2
  have c63 : L.length + 1 ≤ maxLen := by unfold maxLen; omega
  have cby : (L.length + 1) * 16 ≤ 140737488355328 := by omega
  have y4 := hown.alloc (.cells #[.int .i64 (b : Int), .int .i64 (i : Int)] 120)
  have hX6 := ex_alloc (Below.refl W.heap.size W) (.cells #[.int .i64 (b : Int), .int .i64 (i : Int)] 120)
  have B4 := ex_trans hbl hX6
  have q6 := q0.below hX6 l0
  have hbase : w.heap.size + 1 ≤ (W.alloc (.cells #[.int .i64 (b : Int), .int .i64 (i : Int)] 120)).heap.size := by have := hX6.size; omega
  have hge := fun (j : Nat) (hj : v.ownBlock = some j) => own_ge hown hj
  go_wp2_with (refine pause_at 29 rfl ?_)
  refine Paused.mk ?_
  refine wpList_append_lies _ rfl _ _ _ rfl (w.heap.size + 1) 120 i0 _ 2 16 Try.underlying49 HI.out hz0 hz1 hz2 rfl (by omega) v _ _ rfl y4 ⟨W.heap.size, 0, none⟩ 1 1 [.int .i64 (b : Int), .int .i64 (i : Int)] rfl rfl (World.news_of_block (heap_alloc_new W _)) (by simp [Value.oneCell']) (by omega) c63 cby hbase (W.heap.size + 1) (by simp) ?_
  intro gg cap w1 hown' hgrow hat hlt'
  have B5 := B4.grown hgrow (by have := hbl.size; have := hX6.size; omega) (fun j hj => by have := hge j hj; omega)
  have q7 := q6.grown hgrow (fun e => by have := hge _ e.symm; omega)
  have hs7 : w.heap.size + 1 ≤ w1.heap.size := by have := hgrow.size; omega
  have own7 := own_push (f := cP) (x := (b, i)) rfl hown'
  generalize L ++ [(b, i)] = L' at *
  go_wp2_with fail
  refine ⟨⟨⟨i + 1, by omega, hs7, B5, q7, _, L', HN, own7, exFrame (by kernel_rfl)⟩⟩, ?_⟩
  show nr - (intOf (.int .i64 ((i : Int) + 1))).toNat < nr - (intOf (.int .i64 (i : Int))).toNat
  simp [intOf]
  omega

theorem places_ref (s : Se) (Ao Ab : Option Addr) (co cb : Nat) (rA : Nat → Option Addr) (rc : Nat → Nat) (w : World) (hs : SeIn w w.heap.size s Ao Ab rA rc) (ht : Thn s) :
    Calls Try.prog 31 #[.agg #[.slice Ao s.offs.length co, .int .i64 s.err, .slice Ab s.baths.length cb]] w fun e w' => (∃ A c, e = .returned (.slice A (placeL s).length c) ∧ SlAt w' w'.heap.size 2 A (placeL s).length (fPl (placeL s))) ∧ Below w.heap.size w w' :=
  (places_cap s Ao Ab co cb rA rc w hs ht).mono fun _ _ ⟨⟨A, c, h1, _, h3⟩, h4⟩ => ⟨⟨A, c, h1, h3⟩, h4⟩

def hasB (l : List (Nat × Nat)) (p : Nat × Nat) : Bool := decide (p ∈ l)
theorem gPl_at {l : List (Nat × Nat)} {k : Nat} (hk : k < l.length) : gPl l k = l[k] := by simp [gPl, hk]
set_option maxRecDepth 100000 in
set_option maxHeartbeats 6400000 in
theorem has_ref (A : Option Addr) (c : Nat) (l : List (Nat × Nat)) (p1 p2 : Nat) (w : World) (hl : l.length ≤ 1000000) (hA : SlAt w w.heap.size 2 A l.length (fPl l)) :
    Calls Try.prog 79 #[.slice A l.length c, .agg #[.int .i64 (p1 : Int), .int .i64 (p2 : Int)]] w fun e w' => e = .returned (.bool (hasB l (p1, p2))) ∧ Below w.heap.size w w' := by
  have hb1 := ex_alloc (Below.refl w.heap.size w) (.cells #[.int .i64 (p1 : Int), .int .i64 (p2 : Int)] 120)
  have q1 : Blk (w.alloc (.cells #[.int .i64 (p1 : Int), .int .i64 (p2 : Int)] 120)) w.heap.size 120 #[.int .i64 (p1 : Int), .int .i64 (p2 : Int)] := Blk.new _ _ _
  go_enter Try.func79, Try.ntmps79
  go_wp2_with fail
  generalize w.alloc (.cells #[.int .i64 (p1 : Int), .int .i64 (p2 : Int)] 120) = V at *
  refine wp_loop (fun a W => Rel (fun a W => ∃ k : Nat, k ≤ l.length ∧ Below w.heap.size w W ∧ Blk W w.heap.size 120 #[.int .i64 (p1 : Int), .int .i64 (p2 : Int)] ∧ Hid (∀ j, j < k → gPl l j ≠ (p1, p2)) ∧ ∃ u : Nat → Value, a = ⟨List.toArray (.slice A l.length c :: u 1 :: u 2 :: .pointer (some ⟨w.heap.size, 0, none⟩) :: u 4 :: .int .i64 (k : Int) :: u 6 :: u 7 :: u 8 :: u 9 :: u 10 :: u 11 :: u 12 :: u 13 :: u 14 :: u 15 :: u 16 :: u 17 :: []), []⟩) a W)
    (fun a _ => l.length - (intOf (a.tmps.getD 5 undef)).toNat) ⟨⟨0, by omega, hb1, q1, Lib.hid (fun j hj => by omega), exFrame (by kernel_rfl)⟩⟩ ?_
  clear hb1 q1 V
  rintro a W ⟨⟨k, hk, hbl, q0, HA, u, rfl⟩⟩
  have l0 := q0.lt
  have a0 : W.cell? ⟨w.heap.size, 0, none⟩ = some (.int .i64 (p1 : Int)) := q0.cell 0
  have a1 : W.cell? ⟨w.heap.size, 1, none⟩ = some (.int .i64 (p2 : Int)) := q0.cell 1
  by_cases hlt : k < l.length
  rotate_left
  · have HR : Hid (hasB l (p1, p2) = false) := Lib.hid (decide_eq_false (fun h => by
      obtain ⟨j, hj, e⟩ := List.getElem_of_mem h
      exact HA.out j (by omega) ((gPl_at hj).trans e)))
    obtain rfl : k = l.length := by omega
    go_wp2
    go_ret
    exact ⟨ret_bool HR.out.symm, hbl⟩
  obtain ⟨bi, oi, rfl, hbi, c0, c1⟩ := IsPls.at_ (hA.below hbl) hlt
  have lbi : bi < W.heap.size := by have := hbl.size; omega
  have HY : Hid (gPl l k = (p1, p2) → hasB l (p1, p2) = true) := Lib.hid (fun e => decide_eq_true (by rw [← e, gPl_at hlt]; exact List.getElem_mem hlt))
  have HN : Hid (gPl l k ≠ (p1, p2) → ∀ j, j < k + 1 → gPl l j ≠ (p1, p2)) := Lib.hid (fun h j hj => by
    rcases Nat.lt_succ_iff_lt_or_eq.1 hj with h2 | h2
    · exact HA.out j h2
    · rw [h2]; exact h)
  have HP : Hid (∀ a b, gPl l k = (a, b) → ((a = p1 ∧ b = p2) → gPl l k = (p1, p2)) ∧ (¬ (a = p1 ∧ b = p2) → gPl l k ≠ (p1, p2))) := Lib.hid (fun a b h => ⟨fun ⟨h1, h2⟩ => by rw [h, h1, h2], fun hn e => by rw [h] at e; injection e with e1 e2; exact hn ⟨e1, e2⟩⟩)
  obtain ⟨⟨x, y⟩, hp⟩ : ∃ p, gPl l k = p := ⟨_, rfl⟩
  have HP2 := Lib.hid (HP.out x y hp)
  rw [hp] at c0 c1
  simp only at c0 c1
  clear hp HP
  have hX0 := (Below.refl W.heap.size W).drew
  have BZ := ex_trans hbl hX0
  have q00 := q0.below hX0 l0
  by_cases h1 : x = p1
  · by_cases h2 : y = p2
    · have HR := Lib.hid (HY.out (HP2.out.1 ⟨h1, h2⟩))
      have e1 : ((x : Int) == (p1 : Int)) = true := by simp [h1]
      have e2 : ((y : Int) == (p2 : Int)) = true := by simp [h2]
      have e1' : (x == p1) = true := by simp [h1]
      have e2' : (y == p2) = true := by simp [h2]
      clear h1 h2 HP2 HY HN
      go_wp2_with fail
      refine wp_region_ext_mix 5 [(false, 0), (false, 1), (false, 2), (false, 3), (false, 4)] (by kernel_rfl) (by kernel_rfl) (by intro d _ _ _ _ h; cases d <;> exact h) ?_
      repeat (refine mix_quiet rfl ?_; go_big_quiet_step (fail); refine wpQuiet_nil ?_)
      refine mix_nil rfl ?_
      go_wp2
      go_ret
      exact ⟨ret_bool HR.out.symm, BZ⟩
    · have HR := Lib.hid (HN.out (HP2.out.2 (fun h => h2 h.2)))
      have e1 : ((x : Int) == (p1 : Int)) = true := by simp [h1]
      have e2 : ((y : Int) == (p2 : Int)) = false := by rw [beq_eq_false_iff_ne]; omega
      have e1' : (x == p1) = true := by simp [h1]
      have e2' : (y == p2) = false := by simp [h2]
      clear h1 h2 HP2 HY HN
      go_wp2_with fail
      refine wp_region_ext_mix 5 [(false, 0), (false, 1), (false, 2), (false, 3), (false, 4)] (by kernel_rfl) (by kernel_rfl) (by intro d _ _ _ _ h; cases d <;> exact h) ?_
      repeat (refine mix_quiet rfl ?_; go_big_quiet_step (fail); refine wpQuiet_nil ?_)
      refine mix_nil rfl ?_
      go_wp2_with fail
      refine ⟨⟨⟨k + 1, by omega, BZ, q00, HR, exFrame (by kernel_rfl)⟩⟩, ?_⟩
      show l.length - (intOf (.int .i64 ((k : Int) + 1))).toNat < l.length - (intOf (.int .i64 (k : Int))).toNat
      simp [intOf]
      omega
  · have HR := Lib.hid (HN.out (HP2.out.2 (fun h => h1 h.1)))
    have e1 : ((x : Int) == (p1 : Int)) = false := by rw [beq_eq_false_iff_ne]; omega
    have e1' : (x == p1) = false := by simp [h1]
    clear h1 HP2 HY HN
    go_wp2_with fail
    refine wp_region_ext_mix 5 [(false, 0), (false, 1), (false, 2), (false, 3), (false, 4)] (by kernel_rfl) (by kernel_rfl) (by intro d _ _ _ _ h; cases d <;> exact h) ?_
    repeat (refine mix_quiet rfl ?_; go_big_quiet_step (fail); refine wpQuiet_nil ?_)
    refine mix_nil rfl ?_
    go_wp2_with fail
    refine ⟨⟨⟨k + 1, by omega, BZ, q00, HR, exFrame (by kernel_rfl)⟩⟩, ?_⟩
    show l.length - (intOf (.int .i64 ((k : Int) + 1))).toNat < l.length - (intOf (.int .i64 (k : Int))).toNat
    simp [intOf]
    omega

theorem bit_t {n k : Nat} {x : Bool} (ht : n.testBit k = x) : (((n : Int) / 2 ^ k).tmod 2 == 1) = x := by
  have e : (n : Int) / 2 ^ k = ((n / 2 ^ k : Nat) : Int) := by simp
  rw [e, Int.tmod_eq_emod_of_nonneg (Int.natCast_nonneg _)]
  rw [Nat.testBit_eq_decide_div_mod_eq] at ht
  subst ht
  generalize n / 2 ^ k = m
  rcases Nat.mod_two_eq_zero_or_one m with h2 | h2
  · rw [show ((m : Nat) : Int) % 2 = 0 by omega, h2]; rfl
  · rw [show ((m : Nat) : Int) % 2 = 1 by omega, h2]; rfl
theorem plTo_succ {s : Se} {b k : Nat} : (idxB b (k + 1)).map (pAt s) = (idxB b k).map (pAt s) ++ (if b.testBit k = true then [pAt s k] else []) := by
  rw [idxB, List.map_append]
  split <;> rfl
theorem pl_len {s : Se} {b k : Nat} : ((idxB b k).map (pAt s)).length ≤ k := by rw [List.length_map, idxB_len]; exact card_full
theorem gPl_pAt {s : Se} {k : Nat} : gPl (placeL s) k = pAt s k := rfl
set_option maxRecDepth 100000 in
set_option maxHeartbeats 6400000 in
theorem bits_ref (s : Se) (Ao Ab : Option Addr) (co cb : Nat) (rA : Nat → Option Addr) (rc : Nat → Nat) (w : World) (hs : SeIn w w.heap.size s Ao Ab rA rc) (hok : SeOk s) (n : Nat) :
    Calls Try.prog 55 #[.agg #[.slice Ao s.offs.length co, .int .i64 s.err, .slice Ab s.baths.length cb], .int .i64 (n : Int)] w fun e w' => (∃ A c, e = .returned (.slice A (plOf s n).length c) ∧ SlAt w' w'.heap.size 2 A (plOf s n).length (fPl (plOf s n))) ∧ Below w.heap.size w w' := by
  obtain ⟨i0, hi0, hz0, hz1, hz2⟩ := info_parts rplace_info
  have HI := Lib.hid hi0
  clear hi0
  have HT := Lib.hid hok.thn
  have hpl := placeL_len hok
  clear hok
  have hb1 := ex_alloc (Below.refl w.heap.size w) (.cells #[.slice Ao s.offs.length co, .int .i64 s.err, .slice Ab s.baths.length cb] 25)
  have q1 : Blk (w.alloc (.cells #[.slice Ao s.offs.length co, .int .i64 s.err, .slice Ab s.baths.length cb] 25)) w.heap.size 25 #[.slice Ao s.offs.length co, .int .i64 s.err, .slice Ab s.baths.length cb] := Blk.new _ _ _
  go_enter Try.func55, Try.ntmps55
  go_wp2_with fail
  generalize w.alloc (.cells #[.slice Ao s.offs.length co, .int .i64 s.err, .slice Ab s.baths.length cb] 25) = V at *
  refine (places_ref s Ao Ab co cb rA rc V (hs.go hb1) HT.out).mono ?_
  rintro e V1 ⟨⟨AP, cP', rfl, sP⟩, hV1⟩
  have B1 := ex_trans hb1 hV1
  have p0 := q1.below hV1 q1.lt
  have hVs : w.heap.size + 1 ≤ V1.heap.size := by have := p0.lt; omega
  clear hb1 q1 hV1
  go_wp2_with fail
  refine wp_loop (fun a W => Rel (fun a W => ∃ k : Nat, k ≤ (placeL s).length ∧ w.heap.size + 1 ≤ W.heap.size ∧ Below w.heap.size w W ∧ Below V1.heap.size V1 W ∧ Blk W w.heap.size 25 #[.slice Ao s.offs.length co, .int .i64 s.err, .slice Ab s.baths.length cb] ∧ ∃ v, ∃ L : List (Nat × Nat), Hid (L = (idxB n k).map (pAt s)) ∧ W.ownsRow V1.heap.size 120 2 v L.length (L.flatMap cP) ∧ ∃ u : Nat → Value, a = ⟨List.toArray (u 0 :: .int .i64 (n : Int) :: .pointer (some ⟨w.heap.size, 0, none⟩) :: u 3 :: u 4 :: v :: .slice AP (placeL s).length cP' :: .int .i64 (k : Int) :: u 8 :: u 9 :: u 10 :: u 11 :: u 12 :: u 13 :: u 14 :: u 15 :: u 16 :: u 17 :: u 18 :: u 19 :: u 20 :: u 21 :: u 22 :: u 23 :: u 24 :: u 25 :: u 26 :: u 27 :: u 28 :: u 29 :: []), []⟩) a W)
    (fun a _ => (placeL s).length - (intOf (a.tmps.getD 7 undef)).toNat) ⟨⟨0, by omega, hVs, B1, Below.refl _ _, p0, .slice none 0 0, [], Lib.hid rfl, ⟨rfl, .inl ⟨rfl, rfl⟩⟩, exFrame (by kernel_rfl)⟩⟩ ?_
  have HV0 := Lib.hid hVs
  clear hVs B1 p0
  rintro a W ⟨⟨k, hk, hsz, hbl, hbv, q0, v, L, HL, hown, u, rfl⟩⟩
  have l0 := q0.lt
  by_cases hlt : k < (placeL s).length
  rotate_left
  · obtain rfl : k = (placeL s).length := by omega
    have hLL : L = plOf s n := HL.out
    clear HL
    subst hLL
    obtain ⟨A', c', rfl, _, _, hsl⟩ := own_P hown
    go_wp2
    go_ret
    first | exact ⟨⟨_, ⟨_, rfl⟩, hsl⟩, hbl⟩ | exact ⟨⟨_, _, rfl, hsl⟩, hbl⟩
  have hll : L.length ≤ 81 := by rw [HL.out]; exact Nat.le_trans pl_len (by omega)
  obtain ⟨bP, oP, rfl, hbP, c0, c1⟩ := IsPls.at_ (sP.below hbv) hlt
  have lbP : bP < W.heap.size := by have := hbv.size; omega
  have hmem := pAt_mem hlt
  rw [gPl_pAt] at c0 c1
  have HT2 : Hid (n.testBit k = true → L ++ [pAt s k] = (idxB n (k + 1)).map (pAt s)) := Lib.hid (fun h => by rw [plTo_succ, if_pos h, HL.out])
  have HF2 : Hid (n.testBit k = false → L = (idxB n (k + 1)).map (pAt s)) := Lib.hid (fun h => by rw [plTo_succ, if_neg (by rw [h]; decide), List.append_nil, HL.out])
  obtain ⟨⟨p1, p2⟩, hp⟩ : ∃ p, pAt s k = p := ⟨_, rfl⟩
  rw [hp] at c0 c1 HT2 hmem
  simp only at c0 c1
  clear hp hmem
  have s64 : ((k : Int) ≤ 64) := by omega
  have s64' : k ≤ 64 := by omega
  cases hbit : n.testBit k
  · have e1 := bit_t hbit
    have HN := Lib.hid (HF2.out hbit)
    clear hbit HT2 HF2 HL
    go_wp2_with fail
    refine ⟨⟨⟨k + 1, by omega, hsz, hbl, hbv, q0, v, L, HN, hown, exFrame (by kernel_rfl)⟩⟩, ?_⟩
    show (placeL s).length - (intOf (.int .i64 ((k : Int) + 1))).toNat < (placeL s).length - (intOf (.int .i64 (k : Int))).toNat
    simp [intOf]
    omega
  · have e1 := bit_t hbit
    have HN := Lib.hid (HT2.out hbit)
    clear hbit HT2 HF2 HL
    have c63 : L.length + 1 ≤ maxLen := by unfold maxLen; omega
    have cby : (L.length + 1) * 16 ≤ 140737488355328 := by omega
    have y4 := hown.alloc (.cells #[.int .i64 (p1 : Int), .int .i64 (p2 : Int)] 120)
    have hX6 := ex_alloc (Below.refl W.heap.size W) (.cells #[.int .i64 (p1 : Int), .int .i64 (p2 : Int)] 120)
    have B4 := ex_trans hbl hX6
    have V4 := ex_trans hbv hX6
    have q6 := q0.below hX6 l0
    have hbase : V1.heap.size ≤ (W.alloc (.cells #[.int .i64 (p1 : Int), .int .i64 (p2 : Int)] 120)).heap.size := V4.size
    have hge := fun (j : Nat) (hj : v.ownBlock = some j) => own_ge hown hj
    go_wp2_with (refine pause_at 28 rfl ?_)
    refine Paused.mk ?_
    refine wpList_append_lies _ rfl _ _ _ rfl V1.heap.size 120 i0 _ 2 16 Try.underlying49 HI.out hz0 hz1 hz2 rfl (by omega) v _ _ rfl y4 ⟨W.heap.size, 0, none⟩ 1 1 [.int .i64 (p1 : Int), .int .i64 (p2 : Int)] rfl rfl (World.news_of_block (heap_alloc_new W _)) (by simp [Value.oneCell']) (by omega) c63 cby hbase (W.heap.size + 1) (by simp) ?_
    intro gg cap w1 hown' hgrow hat hlt'
    have hv0 : w.heap.size < V1.heap.size := by have := HV0.out; omega
    have B5 := B4.grown hgrow (by have := hbl.size; have := hX6.size; omega) (fun j hj => by have := hge j hj; omega)
    have V5 := V4.grown hgrow V4.size (fun j hj => hge j hj)
    have q7 := q6.grown hgrow (fun e => by have := hge _ e.symm; omega)
    have hs7 : w.heap.size + 1 ≤ w1.heap.size := by have := V5.size; omega
    have own7 := own_push (f := cP) (x := ((p1, p2) : Nat × Nat)) rfl hown'
    generalize L ++ [((p1, p2) : Nat × Nat)] = L' at *
    go_wp2_with fail
    refine ⟨⟨⟨k + 1, by omega, hs7, B5, V5, q7, _, L', HN, own7, exFrame (by kernel_rfl)⟩⟩, ?_⟩
    show (placeL s).length - (intOf (.int .i64 ((k : Int) + 1))).toNat < (placeL s).length - (intOf (.int .i64 (k : Int))).toNat
    simp [intOf]
    omega

set_option maxRecDepth 100000 in
set_option maxHeartbeats 6400000 in
theorem of_ref (s : Se) (Ao Ab : Option Addr) (co cb : Nat) (rA : Nat → Option Addr) (rc : Nat → Nat) (w : World) (hs : SeIn w w.heap.size s Ao Ab rA rc) (hok : SeOk s) (n : Nat) :
    Calls Try.prog 34 #[.agg #[.slice Ao s.offs.length co, .int .i64 s.err, .slice Ab s.baths.length cb], .int .i64 (n : Int)] w fun e w' => (∃ A c, e = .returned (.slice A (plOf s (ofB s n (placeL s).length)).length c) ∧ SlAt w' w'.heap.size 2 A (plOf s (ofB s n (placeL s).length)).length (fPl (plOf s (ofB s n (placeL s).length)))) ∧ Below w.heap.size w w' := by
  obtain ⟨i0, hi0, hz0, hz1, hz2⟩ := info_parts rplace_info
  have HI := Lib.hid hi0
  clear hi0
  have HT := Lib.hid hok.thn
  have hpl := placeL_len hok
  clear hok
  have hb1 := ex_alloc (Below.refl w.heap.size w) (.cells #[.slice Ao s.offs.length co, .int .i64 s.err, .slice Ab s.baths.length cb] 25)
  have q1 : Blk (w.alloc (.cells #[.slice Ao s.offs.length co, .int .i64 s.err, .slice Ab s.baths.length cb] 25)) w.heap.size 25 #[.slice Ao s.offs.length co, .int .i64 s.err, .slice Ab s.baths.length cb] := Blk.new _ _ _
  go_enter Try.func34, Try.ntmps34
  go_wp2_with fail
  generalize w.alloc (.cells #[.slice Ao s.offs.length co, .int .i64 s.err, .slice Ab s.baths.length cb] 25) = V at *
  refine (places_ref s Ao Ab co cb rA rc V (hs.go hb1) HT.out).mono ?_
  rintro e V1 ⟨⟨AP, cP', rfl, sP⟩, hV1⟩
  have B1 := ex_trans hb1 hV1
  have p0 := q1.below hV1 q1.lt
  have hVs : w.heap.size + 1 ≤ V1.heap.size := by have := p0.lt; omega
  clear hb1 q1 hV1
  go_wp2_with fail
  refine wp_loop (fun a W => Rel (fun a W => ∃ k : Nat, k ≤ (placeL s).length ∧ w.heap.size + 1 ≤ W.heap.size ∧ Below w.heap.size w W ∧ Below V1.heap.size V1 W ∧ Blk W w.heap.size 25 #[.slice Ao s.offs.length co, .int .i64 s.err, .slice Ab s.baths.length cb] ∧ ∃ v, ∃ L : List (Nat × Nat), Hid (L = (idxB (ofB s n (placeL s).length) k).map (pAt s)) ∧ W.ownsRow V1.heap.size 120 2 v L.length (L.flatMap cP) ∧ ∃ u : Nat → Value, a = ⟨List.toArray (u 0 :: .int .i64 (n : Int) :: .pointer (some ⟨w.heap.size, 0, none⟩) :: u 3 :: u 4 :: v :: .slice AP (placeL s).length cP' :: .int .i64 (k : Int) :: u 8 :: u 9 :: u 10 :: u 11 :: u 12 :: u 13 :: u 14 :: u 15 :: u 16 :: u 17 :: u 18 :: u 19 :: u 20 :: u 21 :: u 22 :: u 23 :: u 24 :: u 25 :: u 26 :: u 27 :: u 28 :: u 29 :: u 30 :: u 31 :: u 32 :: u 33 :: u 34 :: u 35 :: u 36 :: u 37 :: u 38 :: u 39 :: u 40 :: u 41 :: u 42 :: u 43 :: []), []⟩) a W)
    (fun a _ => (placeL s).length - (intOf (a.tmps.getD 7 undef)).toNat) ⟨⟨0, by omega, hVs, B1, Below.refl _ _, p0, .slice none 0 0, [], Lib.hid rfl, ⟨rfl, .inl ⟨rfl, rfl⟩⟩, exFrame (by kernel_rfl)⟩⟩ ?_
  have HV0 := Lib.hid hVs
  clear hVs B1 p0
  rintro a W ⟨⟨k, hk, hsz, hbl, hbv, q0, v, L, HL, hown, u, rfl⟩⟩
  have l0 := q0.lt
  by_cases hlt : k < (placeL s).length
  rotate_left
  · obtain rfl : k = (placeL s).length := by omega
    have hLL : L = plOf s (ofB s n (placeL s).length) := HL.out
    clear HL
    subst hLL
    obtain ⟨A', c', rfl, _, _, hsl⟩ := own_P hown
    go_wp2
    go_ret
    first | exact ⟨⟨_, ⟨_, rfl⟩, hsl⟩, hbl⟩ | exact ⟨⟨_, _, rfl, hsl⟩, hbl⟩
  have hll : L.length ≤ 81 := by rw [HL.out]; exact Nat.le_trans pl_len (by omega)
  obtain ⟨bP, oP, rfl, hbP, c0, c1⟩ := IsPls.at_ (sP.below hbv) hlt
  have lbP : bP < W.heap.size := by have := hbv.size; omega
  have hmem := pAt_mem hlt
  rw [gPl_pAt] at c0 c1
  have HT2 : Hid ((ofB s n (placeL s).length).testBit k = true → L ++ [pAt s k] = (idxB (ofB s n (placeL s).length) (k + 1)).map (pAt s)) := Lib.hid (fun h => by rw [plTo_succ, if_pos h, HL.out])
  have HF2 : Hid ((ofB s n (placeL s).length).testBit k = false → L = (idxB (ofB s n (placeL s).length) (k + 1)).map (pAt s)) := Lib.hid (fun h => by rw [plTo_succ, if_neg (by rw [h]; decide), List.append_nil, HL.out])
  have hxb := ofB_bit (s := s) (n := n) (i := k) (k := (placeL s).length)
  have HBI : Hid ((ofB s n (placeL s).length).testBit k = decide ((rdAt s (pAt s k)).inst = (n : Int))) := Lib.hid (by rw [hxb, decide_eq_true hlt, Bool.true_and])
  clear hxb
  obtain ⟨⟨p1, p2⟩, hp⟩ : ∃ p, pAt s k = p := ⟨_, rfl⟩
  rw [hp] at c0 c1 HT2 hmem HBI
  simp only at c0 c1 hmem
  clear hp
  have a2 : W.cell? ⟨w.heap.size, 2, none⟩ = some (.slice Ab s.baths.length cb) := q0.cell 2
  obtain ⟨bb, ob, rfl, hbb, g0, g1, g2⟩ := IsBts.at_ (hs.baths.below hbl) hmem.1
  obtain ⟨br, orr, hrA, hbr, r0, r1⟩ := IsRds.at_ ((hs.reads p1 hmem.1).below hbl) hmem.2
  rw [hrA] at g2
  have lbb : bb < W.heap.size := by have := hbl.size; omega
  have lbr : br < W.heap.size := by have := hbl.size; omega
  have hm1 := hmem.1
  have hm2 := hmem.2
  obtain ⟨iv, hiv⟩ : ∃ iv, (gRd (gBt s.baths p1).reads p2).inst = iv := ⟨_, rfl⟩
  rw [hiv] at r0
  have HB2 : Hid ((ofB s n (placeL s).length).testBit k = decide (iv = (n : Int))) := Lib.hid (by rw [HBI.out, ← hiv]; rfl)
  clear hiv hrA HBI hmem r1 g0 g1
  go_wp2_with fail
  refine wp_region_ext_mix 19 [(false, 0), (false, 1), (false, 2), (false, 3), (false, 4), (false, 5), (false, 6), (false, 7), (false, 8), (false, 9), (false, 10), (false, 11), (false, 12), (false, 13), (false, 14), (false, 15), (false, 16), (false, 17), (false, 18)] (by kernel_rfl) (by kernel_rfl) (by intro d _ _ _ _ h; cases d <;> exact h) ?_
  have hX0 := (Below.refl W.heap.size W).drew
  repeat (refine mix_quiet rfl ?_; go_big_quiet_step (fail); refine wpQuiet_nil ?_)
  refine mix_nil rfl ?_
  have hblD := ex_trans hbl hX0
  have hbvD := ex_trans hbv hX0
  have q0D := q0.below hX0 l0
  have hownD := own_below hown hX0
  have c0D := (hX0.cell (p := ⟨bP, oP + k * 2, none⟩) lbP).trans c0
  have c1D := (hX0.cell (p := ⟨bP, oP + k * 2 + 1, none⟩) lbP).trans c1
  have hszD : w.heap.size + 1 ≤ W.drew.heap.size := by have := hX0.size; omega
  have lbPD : bP < W.drew.heap.size := by have := hX0.size; omega
  clear hbl hbv q0 hown c0 c1 hsz l0 a2 g2 r0 lbb lbr lbP
  have hbl := hblD
  have hbv := hbvD
  have q0 := q0D
  have hown := hownD
  have c0 := c0D
  have c1 := c1D
  have hsz := hszD
  have lbP := lbPD
  have l0 := q0.lt
  clear hblD hbvD q0D hownD c0D c1D hszD lbPD hX0
  by_cases hx : iv = (n : Int)
  · have HN := Lib.hid (HT2.out (by rw [HB2.out]; exact decide_eq_true hx))
    have e1 : (iv == (n : Int)) = true := by simp [hx]
    clear hx HT2 HF2 HL HB2
    generalize W.drew = W at *
    have c63 : L.length + 1 ≤ maxLen := by unfold maxLen; omega
    have cby : (L.length + 1) * 16 ≤ 140737488355328 := by omega
    have y4 := hown.alloc (.cells #[.int .i64 (p1 : Int), .int .i64 (p2 : Int)] 120)
    have hX6 := ex_alloc (Below.refl W.heap.size W) (.cells #[.int .i64 (p1 : Int), .int .i64 (p2 : Int)] 120)
    have B4 := ex_trans hbl hX6
    have V4 := ex_trans hbv hX6
    have q6 := q0.below hX6 l0
    have hbase : V1.heap.size ≤ (W.alloc (.cells #[.int .i64 (p1 : Int), .int .i64 (p2 : Int)] 120)).heap.size := V4.size
    have hge := fun (j : Nat) (hj : v.ownBlock = some j) => own_ge hown hj
    go_wp2_with (refine pause_at 42 rfl ?_)
    refine Paused.mk ?_
    refine wpList_append_lies _ rfl _ _ _ rfl V1.heap.size 120 i0 _ 2 16 Try.underlying49 HI.out hz0 hz1 hz2 rfl (by omega) v _ _ rfl y4 ⟨W.heap.size, 0, none⟩ 1 1 [.int .i64 (p1 : Int), .int .i64 (p2 : Int)] rfl rfl (World.news_of_block (heap_alloc_new W _)) (by simp [Value.oneCell']) (by omega) c63 cby hbase (W.heap.size + 1) (by simp) ?_
    intro gg cap w1 hown' hgrow hat hlt'
    have hv0 : w.heap.size < V1.heap.size := by have := HV0.out; omega
    have B5 := B4.grown hgrow (by have := hbl.size; have := hX6.size; omega) (fun j hj => by have := hge j hj; omega)
    have V5 := V4.grown hgrow V4.size (fun j hj => hge j hj)
    have q7 := q6.grown hgrow (fun e => by have := hge _ e.symm; omega)
    have hs7 : w.heap.size + 1 ≤ w1.heap.size := by have := V5.size; omega
    have own7 := own_push (f := cP) (x := ((p1, p2) : Nat × Nat)) rfl hown'
    generalize L ++ [((p1, p2) : Nat × Nat)] = L' at *
    go_wp2_with fail
    refine ⟨⟨⟨k + 1, by omega, hs7, B5, V5, q7, _, L', HN, own7, exFrame (by kernel_rfl)⟩⟩, ?_⟩
    show (placeL s).length - (intOf (.int .i64 ((k : Int) + 1))).toNat < (placeL s).length - (intOf (.int .i64 (k : Int))).toNat
    simp [intOf]
    omega
  · have HN := Lib.hid (HF2.out (by rw [HB2.out]; exact decide_eq_false hx))
    have e1 : (iv == (n : Int)) = false := by simp [hx]
    clear hx HT2 HF2 HL HB2
    generalize W.drew = W at *
    go_wp2_with fail
    refine ⟨⟨⟨k + 1, by omega, hsz, hbl, hbv, q0, v, L, HN, hown, exFrame (by kernel_rfl)⟩⟩, ?_⟩
    show (placeL s).length - (intOf (.int .i64 ((k : Int) + 1))).toNat < (placeL s).length - (intOf (.int .i64 (k : Int))).toNat
    simp [intOf]
    omega

end Go.Proofs.Ytnplefhigbkbbaa
end

section
namespace Go.Proofs.Ytnplefhigbkbbaa
open Go.RowKit
attribute [local go_sem] Ex.cell? Ex.frozen? Gx.cell?

def lessB (a b : List (Nat × Nat)) : Bool := decide (a.length < b.length) || (decide (a.length = b.length) && ltP a b)
theorem lt_first : ∀ {i : Nat} {a b : List (Nat × Nat)}, i < a.length → i < b.length → (∀ j, j < i → gPl a j = gPl b j) → gPl a i ≠ gPl b i → ltP a b = pltB (gPl a i) (gPl b i)
  | 0, p :: a, q :: b, _, _, _, h => by
    have h : p ≠ q := h
    rw [ltP, if_neg h]
    rfl
  | i + 1, p :: a, q :: b, ha, hb, he, h => by
    have h0 : p = q := he 0 (by omega)
    rw [ltP, if_pos h0]
    exact lt_first (by simpa using ha) (by simpa using hb) (fun j hj => he (j + 1) (by omega)) h
theorem gPl_ext {a b : List (Nat × Nat)} (hl : a.length = b.length) (h : ∀ k, k < a.length → gPl a k = gPl b k) : a = b := List.ext_getElem hl (fun i h1 h2 => by
  have := h i h1
  rw [gPl_at h1, gPl_at h2] at this
  exact this)

set_option maxRecDepth 100000 in
set_option maxHeartbeats 6400000 in
theorem less_ref (A B : Option Addr) (c d : Nat) (a b : List (Nat × Nat)) (w : World) (hla : a.length ≤ 1000000) (hlb : b.length ≤ 1000000) (hA : SlAt w w.heap.size 2 A a.length (fPl a)) (hB : SlAt w w.heap.size 2 B b.length (fPl b)) :
    Calls Try.prog 57 #[.slice A a.length c, .slice B b.length d] w fun e w' => e = .returned (.bool (lessB a b)) ∧ Below w.heap.size w w' := by
  by_cases hlen : a.length = b.length
  rotate_left
  · have HR : Hid (lessB a b = decide (a.length < b.length)) := Lib.hid (by
      unfold lessB
      rw [decide_eq_false hlen, Bool.false_and, Bool.or_false])
    have e1 : (a.length == b.length) = false := by simp [hlen]
    have e2 : ((a.length : Int) == (b.length : Int)) = false := by rw [beq_eq_false_iff_ne]; omega
    clear hlen
    by_cases h0 : 0 < a.length
    · go_enter Try.func57, Try.ntmps57
      go_wp2_with fail
      refine wp_loop_once ?_
      go_wp2
      go_ret
      exact ⟨ret_bool HR.out.symm, Below.refl _ _⟩
    · go_enter Try.func57, Try.ntmps57
      go_wp2_with fail
      refine wp_loop_once ?_
      go_wp2
      go_ret
      exact ⟨ret_bool HR.out.symm, Below.refl _ _⟩
  have HLEN := Lib.hid hlen
  have e1 : (a.length == b.length) = true := by simp [hlen]
  have e2 : ((a.length : Int) == (b.length : Int)) = true := by simp [hlen]
  have hlen1 : a.length ≤ b.length := by omega
  clear hlen
  go_enter Try.func57, Try.ntmps57
  go_wp2_with fail
  refine wp_loop (fun a' W => Rel (fun a' W => ∃ k : Nat, k ≤ a.length ∧ Below w.heap.size w W ∧ Hid (∀ j, j < k → gPl a j = gPl b j) ∧ ∃ u : Nat → Value, a' = ⟨List.toArray (.slice A a.length c :: .slice B b.length d :: u 2 :: u 3 :: u 4 :: .int .i64 (k : Int) :: u 6 :: u 7 :: u 8 :: u 9 :: u 10 :: u 11 :: u 12 :: u 13 :: u 14 :: u 15 :: u 16 :: u 17 :: u 18 :: u 19 :: u 20 :: u 21 :: u 22 :: u 23 :: u 24 :: u 25 :: u 26 :: u 27 :: u 28 :: u 29 :: u 30 :: u 31 :: u 32 :: u 33 :: u 34 :: u 35 :: u 36 :: u 37 :: u 38 :: u 39 :: u 40 :: u 41 :: u 42 :: u 43 :: u 44 :: u 45 :: u 46 :: u 47 :: u 48 :: u 49 :: u 50 :: u 51 :: u 52 :: u 53 :: u 54 :: u 55 :: u 56 :: u 57 :: u 58 :: u 59 :: u 60 :: u 61 :: u 62 :: u 63 :: u 64 :: u 65 :: u 66 :: u 67 :: u 68 :: u 69 :: []), []⟩) a' W)
    (fun a' _ => a.length - (intOf (a'.tmps.getD 5 undef)).toNat) ⟨⟨0, by omega, Below.refl _ _, Lib.hid (fun j hj => by omega), exFrame (by kernel_rfl)⟩⟩ ?_
  rintro a' W ⟨⟨k, hk, hbl, HA, u, rfl⟩⟩
  by_cases hlt : k < a.length
  rotate_left
  · obtain rfl : k = a.length := by omega
    have HR : Hid (lessB a b = decide (a.length < b.length)) := Lib.hid (by
      have e := gPl_ext HLEN.out (fun j hj => HA.out j hj)
      subst e
      unfold lessB
      rw [ltP_irr, Bool.and_false, Bool.or_false])
    go_wp2
    go_ret
    exact ⟨ret_bool HR.out.symm, hbl⟩
  obtain ⟨b1, o1, rfl, hb1, c0, c1⟩ := IsPls.at_ (hA.below hbl) hlt
  obtain ⟨b2, o2, rfl, hb2, d0, d1⟩ := IsPls.at_ (hB.below hbl) (show k < b.length by omega)
  have lb1 : b1 < W.heap.size := by have := hbl.size; omega
  have lb2 : b2 < W.heap.size := by have := hbl.size; omega
  have hkb : k < b.length := by omega
  have HD : Hid (gPl a k ≠ gPl b k → lessB a b = pltB (gPl a k) (gPl b k)) := Lib.hid (fun h => by
    unfold lessB
    rw [decide_eq_true HLEN.out, decide_eq_false (by have := HLEN.out; omega), Bool.true_and, Bool.false_or]
    exact lt_first hlt hkb HA.out h)
  have HN : Hid (gPl a k = gPl b k → ∀ j, j < k + 1 → gPl a j = gPl b j) := Lib.hid (fun h j hj => by
    rcases Nat.lt_succ_iff_lt_or_eq.1 hj with h2 | h2
    · exact HA.out j h2
    · rw [h2]; exact h)
  generalize gPl a k = p at *
  generalize gPl b k = q at *
  obtain ⟨p1, p2⟩ := p
  obtain ⟨q1, q2⟩ := q
  simp only at c0 c1 d0 d1
  have hX0 := (Below.refl W.heap.size W).drew
  have BZ := ex_trans hbl hX0
  by_cases h1 : p1 = q1
  · by_cases h2 : p2 = q2
    · have HO2 := Lib.hid (HN.out (by rw [h1, h2]))
      have t1 : ((p1 : Int) == (q1 : Int)) = true := by simp [h1]
      have t2 : ((p2 : Int) == (q2 : Int)) = true := by simp [h2]
      have t3 : (p1 == q1) = true := by simp [h1]
      have t4 : (p2 == q2) = true := by simp [h2]
      have t5 : ((p1 : Int) != (q1 : Int)) = false := by simp [h1]
      have t6 : ((p2 : Int) != (q2 : Int)) = false := by simp [h2]
      have t7 : (p1 != q1) = false := by simp [h1]
      have t8 : (p2 != q2) = false := by simp [h2]
      clear h1 h2 HN HD
      go_wp2_with fail
      refine wp_region_ext_mix 8 [(false, 0), (false, 1), (false, 2), (false, 3), (false, 4), (false, 5), (false, 6), (false, 7)] (by kernel_rfl) (by kernel_rfl) (by intro d _ _ _ _ h; cases d <;> exact h) ?_
      repeat (refine mix_quiet rfl ?_; go_big_quiet_step (fail); refine wpQuiet_nil ?_)
      refine mix_nil rfl ?_
      go_wp2_with fail
      refine ⟨⟨⟨k + 1, by omega, BZ, HO2, exFrame (by kernel_rfl)⟩⟩, ?_⟩
      show a.length - (intOf (.int .i64 ((k : Int) + 1))).toNat < a.length - (intOf (.int .i64 (k : Int))).toNat
      simp [intOf]
      omega
    · have HR : Hid (lessB a b = decide (p2 < q2)) := Lib.hid (by
        rw [HD.out (fun e => by injection e with _ e; exact h2 e)]
        unfold pltB
        simp only [decide_eq_decide]
        omega)
      have t1 : ((p1 : Int) == (q1 : Int)) = true := by simp [h1]
      have t2 : ((p2 : Int) == (q2 : Int)) = false := by rw [beq_eq_false_iff_ne]; omega
      have t3 : (p1 == q1) = true := by simp [h1]
      have t4 : (p2 == q2) = false := by simp [h2]
      have t5 : ((p1 : Int) != (q1 : Int)) = false := by simp [h1]
      have t6 : ((p2 : Int) != (q2 : Int)) = true := by rw [bne_iff_ne]; omega
      have t7 : (p1 != q1) = false := by simp [h1]
      have t8 : (p2 != q2) = true := by simp [h2]
      have t9 : decide (p1 < q1) = false := decide_eq_false (by omega)
      clear h1 h2 HN HD
      go_wp2_with fail
      refine wp_region_ext_mix 8 [(false, 0), (false, 1), (false, 2), (false, 3), (false, 4), (false, 5), (false, 6), (false, 7)] (by kernel_rfl) (by kernel_rfl) (by intro d _ _ _ _ h; cases d <;> exact h) ?_
      repeat (refine mix_quiet rfl ?_; go_big_quiet_step (fail); refine wpQuiet_nil ?_)
      refine mix_nil rfl ?_
      go_wp2_with fail
      have c0D := (hX0.cell (p := ⟨b1, o1 + k * 2, none⟩) lb1).trans c0
      have c1D := (hX0.cell (p := ⟨b1, o1 + k * 2 + 1, none⟩) lb1).trans c1
      have d0D := (hX0.cell (p := ⟨b2, o2 + k * 2, none⟩) lb2).trans d0
      have d1D := (hX0.cell (p := ⟨b2, o2 + k * 2 + 1, none⟩) lb2).trans d1
      have lb1D : b1 < W.drew.heap.size := lb1
      have lb2D : b2 < W.drew.heap.size := lb2
      clear c0 c1 d0 d1 lb1 lb2 hX0 hbl HA
      generalize W.drew = W2 at *
      refine wp_region_ext_mix 37 [(false, 0), (false, 1), (false, 2), (false, 3), (false, 4), (false, 5), (false, 6), (false, 7), (false, 8), (false, 9), (false, 10), (false, 11), (false, 12), (false, 13), (false, 14), (false, 15), (false, 16), (false, 17), (false, 18), (false, 19), (false, 20), (false, 21), (false, 22), (false, 23), (false, 24), (false, 25), (false, 26), (false, 27), (false, 28), (false, 29), (false, 30), (false, 31), (false, 32), (false, 33), (false, 34), (false, 35), (false, 36)] (by kernel_rfl) (by kernel_rfl) (by intro d _ _ _ _ h; cases d <;> exact h) ?_
      have hX1 := (Below.refl W2.heap.size W2).drew
      repeat (refine mix_quiet rfl ?_; go_big_quiet_step (fail); refine wpQuiet_nil ?_)
      refine mix_nil rfl ?_
      go_wp2
      go_ret
      exact ⟨ret_bool HR.out.symm, ex_trans BZ hX1⟩
  · have HP : Hid (lessB a b = pltB (p1, p2) (q1, q2)) := Lib.hid (HD.out (fun e => by injection e with e _; exact h1 e))
    have HR : Hid (lessB a b = decide (p1 < q1)) := Lib.hid (by
      rw [HP.out]
      unfold pltB
      simp only [decide_eq_decide]
      omega)
    have t1 : ((p1 : Int) == (q1 : Int)) = false := by rw [beq_eq_false_iff_ne]; omega
    have t3 : (p1 == q1) = false := by simp [h1]
    have t5 : ((p1 : Int) != (q1 : Int)) = true := by rw [bne_iff_ne]; omega
    have t7 : (p1 != q1) = true := by simp [h1]
    clear HP HN HD
    by_cases h2 : p1 < q1
    · have t9 : decide (p1 < q1) = true := decide_eq_true h2
      have HR2 : Hid (lessB a b = true) := Lib.hid (HR.out.trans t9)
      clear h1 h2
      go_wp2_with fail
      refine wp_region_ext_mix 8 [(false, 0), (false, 1), (false, 2), (false, 3), (false, 4), (false, 5), (false, 6), (false, 7)] (by kernel_rfl) (by kernel_rfl) (by intro d _ _ _ _ h; cases d <;> exact h) ?_
      repeat (refine mix_quiet rfl ?_; go_big_quiet_step (fail); refine wpQuiet_nil ?_)
      refine mix_nil rfl ?_
      go_wp2_with fail
      have c0D := (hX0.cell (p := ⟨b1, o1 + k * 2, none⟩) lb1).trans c0
      have c1D := (hX0.cell (p := ⟨b1, o1 + k * 2 + 1, none⟩) lb1).trans c1
      have d0D := (hX0.cell (p := ⟨b2, o2 + k * 2, none⟩) lb2).trans d0
      have d1D := (hX0.cell (p := ⟨b2, o2 + k * 2 + 1, none⟩) lb2).trans d1
      have lb1D : b1 < W.drew.heap.size := lb1
      have lb2D : b2 < W.drew.heap.size := lb2
      clear c0 c1 d0 d1 lb1 lb2 hX0 hbl HA
      generalize W.drew = W2 at *
      refine wp_region_ext_mix 37 [(false, 0), (false, 1), (false, 2), (false, 3), (false, 4), (false, 5), (false, 6), (false, 7), (false, 8), (false, 9), (false, 10), (false, 11), (false, 12), (false, 13), (false, 14), (false, 15), (false, 16), (false, 17), (false, 18), (false, 19), (false, 20), (false, 21), (false, 22), (false, 23), (false, 24), (false, 25), (false, 26), (false, 27), (false, 28), (false, 29), (false, 30), (false, 31), (false, 32), (false, 33), (false, 34), (false, 35), (false, 36)] (by kernel_rfl) (by kernel_rfl) (by intro d _ _ _ _ h; cases d <;> exact h) ?_
      have hX1 := (Below.refl W2.heap.size W2).drew
      repeat (refine mix_quiet rfl ?_; go_big_quiet_step (fail); refine wpQuiet_nil ?_)
      refine mix_nil rfl ?_
      go_wp2
      go_ret
      exact ⟨ret_bool HR2.out.symm, ex_trans BZ hX1⟩
    · have t9 : decide (p1 < q1) = false := decide_eq_false h2
      have HR2 : Hid (lessB a b = false) := Lib.hid (HR.out.trans t9)
      clear h1 h2
      go_wp2_with fail
      refine wp_region_ext_mix 8 [(false, 0), (false, 1), (false, 2), (false, 3), (false, 4), (false, 5), (false, 6), (false, 7)] (by kernel_rfl) (by kernel_rfl) (by intro d _ _ _ _ h; cases d <;> exact h) ?_
      repeat (refine mix_quiet rfl ?_; go_big_quiet_step (fail); refine wpQuiet_nil ?_)
      refine mix_nil rfl ?_
      go_wp2_with fail
      have c0D := (hX0.cell (p := ⟨b1, o1 + k * 2, none⟩) lb1).trans c0
      have c1D := (hX0.cell (p := ⟨b1, o1 + k * 2 + 1, none⟩) lb1).trans c1
      have d0D := (hX0.cell (p := ⟨b2, o2 + k * 2, none⟩) lb2).trans d0
      have d1D := (hX0.cell (p := ⟨b2, o2 + k * 2 + 1, none⟩) lb2).trans d1
      have lb1D : b1 < W.drew.heap.size := lb1
      have lb2D : b2 < W.drew.heap.size := lb2
      clear c0 c1 d0 d1 lb1 lb2 hX0 hbl HA
      generalize W.drew = W2 at *
      refine wp_region_ext_mix 37 [(false, 0), (false, 1), (false, 2), (false, 3), (false, 4), (false, 5), (false, 6), (false, 7), (false, 8), (false, 9), (false, 10), (false, 11), (false, 12), (false, 13), (false, 14), (false, 15), (false, 16), (false, 17), (false, 18), (false, 19), (false, 20), (false, 21), (false, 22), (false, 23), (false, 24), (false, 25), (false, 26), (false, 27), (false, 28), (false, 29), (false, 30), (false, 31), (false, 32), (false, 33), (false, 34), (false, 35), (false, 36)] (by kernel_rfl) (by kernel_rfl) (by intro d _ _ _ _ h; cases d <;> exact h) ?_
      have hX1 := (Below.refl W2.heap.size W2).drew
      repeat (refine mix_quiet rfl ?_; go_big_quiet_step (fail); refine wpQuiet_nil ?_)
      refine mix_nil rfl ?_
      go_wp2
      go_ret
      exact ⟨ret_bool HR2.out.symm, ex_trans BZ hX1⟩
end Go.Proofs.Ytnplefhigbkbbaa
end

section
namespace Go.Proofs.Ytnplefhigbkbbaa
open Go.RowKit
attribute [local go_sem] Ex.cell? Ex.frozen? Gx.cell?

/-- a bath's readings without some of them: the first so many. -/
def keepTo (l : List (Nat × Nat)) (b : Nat) (rd : List Rd) : Nat → List Rd
  | 0 => []
  | i + 1 => keepTo l b rd i ++ (if hasB l (b, i) = true then [] else [gRd rd i])
def keepB (l : List (Nat × Nat)) (s : Se) (b : Nat) : Bt := ⟨(gBt s.baths b).heat, keepTo l b (gBt s.baths b).reads (gBt s.baths b).reads.length⟩
/-- a series without some readings. -/
def woS (s : Se) (l : List (Nat × Nat)) : Se := ⟨s.offs, s.err, (List.range s.baths.length).map (keepB l s)⟩
theorem keepTo_len {l : List (Nat × Nat)} {b : Nat} {rd : List Rd} : ∀ {i : Nat}, (keepTo l b rd i).length ≤ i
  | 0 => Nat.le_refl _
  | i + 1 => by
    have := keepTo_len (l := l) (b := b) (rd := rd) (i := i)
    rw [keepTo, List.length_append]
    split <;> simp <;> omega
/-- baths in a row of the call's own, each with its readings; the types may be either package's. -/
theorem nown_se {T1 T2 : TypeId} {W : World} {B : Nat} {v : Value} {X : List Xb} (h : NOwn (α := Xb) T1 3 T2 2 cB (fun x => x.2.1) (fun x => x.1.reads.length) (fun x => fRd x.1.reads) W B v X) {s : Se} {Ao : Option Addr} (hX : X.map (·.1) = s.baths) (ho : SlAt W W.heap.size 2 Ao s.offs.length (fR s.offs)) : ∃ Ab cb rA rc, v = .slice Ab s.baths.length cb ∧ SeIn W W.heap.size s Ao Ab rA rc := by
  obtain ⟨A, k, e, _, _, hr⟩ := own_row (c := cB) (sz := 3) (fun _ => rfl) (cB_at X) h.own
  have hl : X.length = s.baths.length := by rw [← hX, List.length_map]
  have hg : ∀ k, k < X.length → gBt s.baths k = (gXb X k).1 := fun k hk => by
    unfold gBt gXb
    rw [← hX]
    simp [hk]
  refine ⟨A, k, fun k => (gXb X k).2.1, fun k => (gXb X k).2.2, by rw [← hl]; exact e, ho, ?_, fun b hb => ?_⟩
  · rw [← hl]
    refine (hr.ext (fun k j hk hj => ?_)).sl
    unfold fB fBt
    rw [hg k hk]
    match j, hj with
    | 0, _ => rfl
    | 1, _ => rfl
    | 2, _ => rfl
  · rw [← hl] at hb
    rw [hg b hb]
    have hm : gXb X b ∈ X := by unfold gXb; simp [hb]
    exact (h.ins _ hm).sl
abbrev ROwn := NOwn (α := Xb) 82 3 89 2 cB (fun x => x.2.1) (fun x => x.1.reads.length) (fun x => fRd x.1.reads)
theorem rrd_info : (Try.prog.info? 89).map (fun i => (i.zero, i.size, i.bytes)) = some (some (.agg #[.int .i64 0, .int .i64 0]), 2, 16) := by kernel_rfl
theorem rbath_info : (Try.prog.info? 82).map (fun i => (i.zero, i.size, i.bytes)) = some (some (.agg #[.int .i64 0, .int .i64 0, .slice none 0 0]), 3, 40) := by kernel_rfl

set_option maxRecDepth 100000 in
set_option maxHeartbeats 12800000 in
theorem without_own (s : Se) (Ao Ab : Option Addr) (co cb : Nat) (rA : Nat → Option Addr) (rc : Nat → Nat) (w : World) (hs : SeIn w w.heap.size s Ao Ab rA rc) (ht : Thn s) (l : List (Nat × Nat)) (Al : Option Addr) (cl : Nat) (hl : l.length ≤ 1000000) (hA : SlAt w w.heap.size 2 Al l.length (fPl l)) :
    Calls Try.prog 33 #[.agg #[.slice Ao s.offs.length co, .int .i64 s.err, .slice Ab s.baths.length cb], .slice Al l.length cl] w fun e w' => (∃ Ab' cb' X, e = .returned (.agg #[.slice Ao s.offs.length co, .int .i64 s.err, .slice Ab' s.baths.length cb']) ∧ Hid (X.map (·.1) = (woS s l).baths) ∧ ROwn w' (w.heap.size + 1 + 1 + 1) (.slice Ab' s.baths.length cb') X) ∧ Below w.heap.size w w' := by
  obtain ⟨i1, hi1, hy0, hy1, hy2⟩ := info_parts rrd_info
  have HJ := Lib.hid hi1
  obtain ⟨i2, hi2, hu0, hu1, hu2⟩ := info_parts rbath_info
  have HK := Lib.hid hi2
  clear hi1 hi2
  have hnb := ht.nb
  have HT := Lib.hid ht
  clear ht
  have hb1 := ex_alloc (ex_alloc (ex_alloc (Below.refl w.heap.size w) (.cells #[.slice Ao s.offs.length co, .int .i64 s.err, .slice Ab s.baths.length cb] 25)) (.cells #[.slice none 0 0, .int .i64 0, .slice none 0 0] 25)) (.cells #[.slice Ao s.offs.length co, .int .i64 s.err, .slice none 0 0] 25)
  have q0 : Blk (((w.alloc (.cells #[.slice Ao s.offs.length co, .int .i64 s.err, .slice Ab s.baths.length cb] 25)).alloc (.cells #[.slice none 0 0, .int .i64 0, .slice none 0 0] 25)).alloc (.cells #[.slice Ao s.offs.length co, .int .i64 s.err, .slice none 0 0] 25)) w.heap.size 25 #[.slice Ao s.offs.length co, .int .i64 s.err, .slice Ab s.baths.length cb] := ((Blk.new _ _ _).alloc _).alloc _
  have q1 : Blk (((w.alloc (.cells #[.slice Ao s.offs.length co, .int .i64 s.err, .slice Ab s.baths.length cb] 25)).alloc (.cells #[.slice none 0 0, .int .i64 0, .slice none 0 0] 25)).alloc (.cells #[.slice Ao s.offs.length co, .int .i64 s.err, .slice none 0 0] 25)) (w.heap.size + 1) 25 #[.slice none 0 0, .int .i64 0, .slice none 0 0] := (Blk.new' _ _ _ (by simp)).alloc _
  have q2 : Blk (((w.alloc (.cells #[.slice Ao s.offs.length co, .int .i64 s.err, .slice Ab s.baths.length cb] 25)).alloc (.cells #[.slice none 0 0, .int .i64 0, .slice none 0 0] 25)).alloc (.cells #[.slice Ao s.offs.length co, .int .i64 s.err, .slice none 0 0] 25)) (w.heap.size + 1 + 1) 25 #[.slice Ao s.offs.length co, .int .i64 s.err, .slice none 0 0] := Blk.new' _ _ _ (by simp)
  go_enter Try.func33, Try.ntmps33
  go_wp2_with fail
  have hVs : w.heap.size + 1 + 1 + 1 ≤ (((w.alloc (.cells #[.slice Ao s.offs.length co, .int .i64 s.err, .slice Ab s.baths.length cb] 25)).alloc (.cells #[.slice none 0 0, .int .i64 0, .slice none 0 0] 25)).alloc (.cells #[.slice Ao s.offs.length co, .int .i64 s.err, .slice none 0 0] 25)).heap.size := by simp
  generalize ((w.alloc (.cells #[.slice Ao s.offs.length co, .int .i64 s.err, .slice Ab s.baths.length cb] 25)).alloc (.cells #[.slice none 0 0, .int .i64 0, .slice none 0 0] 25)).alloc (.cells #[.slice Ao s.offs.length co, .int .i64 s.err, .slice none 0 0] 25) = V at *
  refine wp_loop (fun a W => Rel (fun a W => ∃ k : Nat, k ≤ s.baths.length ∧ Below w.heap.size w W ∧ w.heap.size + 1 + 1 + 1 ≤ W.heap.size ∧ Blk W w.heap.size 25 #[.slice Ao s.offs.length co, .int .i64 s.err, .slice Ab s.baths.length cb] ∧ Blk W (w.heap.size + 1) 25 #[.slice none 0 0, .int .i64 0, .slice none 0 0] ∧ ∃ v, ∃ X : List Xb, Hid (X.map (·.1) = (List.range k).map (keepB l s)) ∧ Blk W (w.heap.size + 1 + 1) 25 #[.slice Ao s.offs.length co, .int .i64 s.err, v] ∧ ROwn W (w.heap.size + 1 + 1 + 1) v X ∧ ∃ u : Nat → Value, a = ⟨List.toArray (u 0 :: .slice Al l.length cl :: .pointer (some ⟨w.heap.size, 0, none⟩) :: u 3 :: .pointer (some ⟨w.heap.size + 1, 0, none⟩) :: .pointer (some ⟨w.heap.size + 1 + 1, 0, none⟩) :: .int .i64 (k : Int) :: u 7 :: u 8 :: u 9 :: u 10 :: u 11 :: u 12 :: u 13 :: u 14 :: u 15 :: u 16 :: u 17 :: u 18 :: u 19 :: u 20 :: u 21 :: u 22 :: u 23 :: u 24 :: u 25 :: u 26 :: u 27 :: u 28 :: u 29 :: u 30 :: u 31 :: u 32 :: u 33 :: u 34 :: u 35 :: u 36 :: u 37 :: u 38 :: u 39 :: u 40 :: u 41 :: u 42 :: u 43 :: u 44 :: u 45 :: u 46 :: u 47 :: u 48 :: u 49 :: u 50 :: u 51 :: u 52 :: u 53 :: u 54 :: u 55 :: u 56 :: u 57 :: u 58 :: u 59 :: u 60 :: u 61 :: u 62 :: u 63 :: u 64 :: u 65 :: []), []⟩) a W)
    (fun a _ => s.baths.length - (intOf (a.tmps.getD 6 undef)).toNat) ⟨⟨0, by omega, hb1, hVs, q0, q1, .slice none 0 0, [], Lib.hid rfl, q2, NOwn.nil, exFrame (by kernel_rfl)⟩⟩ ?_
  clear hb1 hVs q0 q1 q2 V
  rintro a W ⟨⟨k, hk, hbl, hsz, q0, q1, v, X, HL, q2, hN, u, rfl⟩⟩
  have l0 := q0.lt
  have l1 := q1.lt
  have l2 := q2.lt
  have a2 : W.cell? ⟨w.heap.size, 2, none⟩ = some (.slice Ab s.baths.length cb) := q0.cell 2
  by_cases hlt : k < s.baths.length
  rotate_left
  · obtain rfl : k = s.baths.length := by omega
    have HXB := Lib.hid (show X.map (·.1) = (woS s l).baths from HL.out)
    obtain ⟨A', c', e, _, _, _⟩ := own_row (c := cB) (sz := 3) (fun _ => rfl) (cB_at X) hN.own
    have hXl : X.length = s.baths.length := by
      have := congrArg List.length HL.out
      rwa [List.length_map, List.length_map, List.length_range] at this
    rw [hXl] at e
    subst e
    clear HL hXl
    have z0 : W.cell? ⟨w.heap.size + 1, 0, none⟩ = some (.slice none 0 0) := q1.cell 0
    have z1 : W.cell? ⟨w.heap.size + 1, 1, none⟩ = some (.int .i64 0) := q1.cell 1
    have z2 : W.cell? ⟨w.heap.size + 1, 2, none⟩ = some (.slice none 0 0) := q1.cell 2
    have b0 : W.cell? ⟨w.heap.size + 1 + 1, 0, none⟩ = some (.slice Ao s.offs.length co) := q2.cell 0
    have b1 : W.cell? ⟨w.heap.size + 1 + 1, 1, none⟩ = some (.int .i64 s.err) := q2.cell 1
    have b2 : W.cell? ⟨w.heap.size + 1 + 1, 2, none⟩ = some (.slice A' s.baths.length c') := q2.cell 2
    have ff := q1.frozen0
    have hw1 : w.heap.size ≤ w.heap.size + 1 := by omega
    have B9 := ex_set (ex_set (ex_set hbl (p := ⟨w.heap.size + 1, 0, none⟩) hw1 (.slice Ao s.offs.length co)) (p := ⟨w.heap.size + 1, 1, none⟩) hw1 (.int .i64 s.err)) (p := ⟨w.heap.size + 1, 2, none⟩) hw1 (.slice A' s.baths.length c')
    have q8a := q1.set_ 0 (.slice Ao s.offs.length co)
    have q8b := q8a.set_ 1 (.int .i64 s.err)
    have q8 := q8b.set_ 2 (.slice A' s.baths.length c')
    have hN9 := ((hN.set q1 (by decide) (by decide) 0 (.slice Ao s.offs.length co)).set q8a (by decide) (by decide) 1 (.int .i64 s.err)).set q8b (by decide) (by decide) 2 (.slice A' s.baths.length c')
    simp only [List.setIfInBounds_toArray, List.set_cons_zero, List.set_cons_succ] at q8
    clear q8a q8b
    have HN9 := Lib.hid hN9
    clear hN hN9
    go_wp2
    refine bodyPost_ret (results_cell_row rfl _ _ (w.heap.size + 1) 25 #[.slice Ao s.offs.length co, .int .i64 s.err, .slice A' s.baths.length c'] (0, 0) _ rfl q8 rfl rfl rfl) rfl ?_
    exact ⟨⟨_, _, X, rfl, HXB, HN9.out⟩, B9⟩
  obtain ⟨bb, ob, rfl, hbb, g0, g1, g2⟩ := IsBts.at_ (hs.baths.below hbl) hlt
  have hrd := hs.reads k hlt
  have hrl := HT.out.nr k hlt
  have hlen : X.length = k := by
    have := congrArg List.length HL.out
    rwa [List.length_map, List.length_map, List.length_range] at this
  obtain ⟨lo, hlo⟩ : ∃ lo, (gBt s.baths k).heat.lo = lo := ⟨_, rfl⟩
  obtain ⟨hi, hhi⟩ : ∃ hi, (gBt s.baths k).heat.hi = hi := ⟨_, rfl⟩
  obtain ⟨rd, hrdE⟩ : ∃ rd, (gBt s.baths k).reads = rd := ⟨_, rfl⟩
  obtain ⟨Ar, hAr⟩ : ∃ Ar, rA k = Ar := ⟨_, rfl⟩
  obtain ⟨cr, hcr⟩ : ∃ cr, rc k = cr := ⟨_, rfl⟩
  have HGB : Hid (∀ Y, Below w.heap.size w Y → Y.cell? ⟨bb, ob + k * 3 + 2, none⟩ = some (.slice Ar rd.length cr)) := Lib.hid (fun Y hY => by
    obtain ⟨b', o', e, _, _, _, h⟩ := IsBts.at_ (hs.baths.below hY) hlt
    injection e with e
    injection e with e1 e2
    subst e1 e2
    rw [h, hAr, hcr, hrdE])
  have HBK : Hid (keepB l s k = ⟨⟨lo, hi⟩, keepTo l k rd rd.length⟩) := Lib.hid (by unfold keepB; rw [← hlo, ← hhi, ← hrdE])
  rw [hlo] at g0
  rw [hhi] at g1
  rw [hrdE, hAr] at hrd
  rw [hrdE] at hrl
  clear hlo hhi hrdE hAr hcr g2
  have hxl : X.length ≤ 1000 := by omega
  clear hlen
  have lbb : bb < W.heap.size := by have := hbl.size; omega
  have HX0 := Blk.new W 82 #[.int .i64 lo, .int .i64 hi, .slice none 0 0]
  have hX2 := ex_alloc (Below.refl W.heap.size W) (.cells #[.int .i64 lo, .int .i64 hi, .slice none 0 0] 82)
  have hX2s : W.heap.size + 1 ≤ (W.alloc (.cells #[.int .i64 lo, .int .i64 hi, .slice none 0 0] 82)).heap.size := by simp
  go_wp2_with fail
  obtain ⟨px, hpx⟩ : ∃ px, W.heap.size = px := ⟨_, rfl⟩
  have HPX := Lib.hid hpx
  generalize W.alloc (.cells #[.int .i64 lo, .int .i64 hi, .slice none 0 0] 82) = X2 at *
  rw [hpx] at HX0 hX2s ⊢
  clear hpx a2 g0 g1 l0 l1 l2
  refine wp_loop (fun a Y => Rel (fun a Y => ∃ i : Nat, i ≤ rd.length ∧ Below W.heap.size W Y ∧ px + 1 ≤ Y.heap.size ∧ ∃ A3 c3, ∃ L3 : List Rd, Hid (L3 = keepTo l k rd i) ∧ Blk Y px 82 #[.int .i64 lo, .int .i64 hi, .slice A3 L3.length c3] ∧ Y.ownsRow (px + 1) 89 2 (.slice A3 L3.length c3) L3.length (L3.flatMap cRd) ∧ ∃ u : Nat → Value, a = ⟨List.toArray (u 0 :: .slice Al l.length cl :: .pointer (some ⟨w.heap.size, 0, none⟩) :: u 3 :: .pointer (some ⟨w.heap.size + 1, 0, none⟩) :: .pointer (some ⟨w.heap.size + 1 + 1, 0, none⟩) :: .int .i64 (k : Int) :: .pointer (some ⟨px, 0, none⟩) :: .int .i64 (i : Int) :: u 9 :: u 10 :: u 11 :: u 12 :: u 13 :: u 14 :: u 15 :: u 16 :: u 17 :: u 18 :: u 19 :: u 20 :: u 21 :: u 22 :: u 23 :: u 24 :: u 25 :: u 26 :: u 27 :: u 28 :: u 29 :: u 30 :: u 31 :: u 32 :: u 33 :: u 34 :: u 35 :: u 36 :: u 37 :: u 38 :: u 39 :: u 40 :: u 41 :: u 42 :: u 43 :: u 44 :: u 45 :: u 46 :: u 47 :: u 48 :: u 49 :: u 50 :: u 51 :: u 52 :: u 53 :: u 54 :: u 55 :: u 56 :: u 57 :: u 58 :: u 59 :: u 60 :: u 61 :: u 62 :: u 63 :: u 64 :: u 65 :: []), []⟩) a Y)
    (fun a _ => rd.length - (intOf (a.tmps.getD 8 undef)).toNat) ⟨⟨0, by omega, hX2, hX2s, none, 0, [], Lib.hid rfl, HX0, ⟨rfl, .inl ⟨rfl, rfl⟩⟩, exFrame (by kernel_rfl)⟩⟩ ?_
  clear HX0 hX2 hX2s X2
  rintro a Y ⟨⟨i, hi', hbX, hsY, A3, c3, L3, HL3, qx, own3, u, rfl⟩⟩
  have BY := ex_trans hbl hbX
  have q0Y := q0.below hbX q0.lt
  have l0 := q0Y.lt
  have lx := qx.lt
  have a2 : Y.cell? ⟨w.heap.size, 2, none⟩ = some (.slice (some ⟨bb, ob, none⟩) s.baths.length cb) := q0Y.cell 2
  have g2 := HGB.out Y BY
  have lbY : bb < Y.heap.size := by have := hbX.size; omega
  have hpX := HPX.out
  by_cases hli : i < rd.length
  · obtain ⟨br, orr, rfl, hbr, r0, r1⟩ := IsRds.at_ (hrd.below BY) hli
    have lbr : br < Y.heap.size := by have := BY.size; omega
    have hlen3 : L3.length ≤ 1000 := by rw [HL3.out]; have := keepTo_len (l := l) (b := k) (rd := rd) (i := i); omega
    obtain ⟨iv, hiv⟩ : ∃ iv, (gRd rd i).inst = iv := ⟨_, rfl⟩
    obtain ⟨vv, hvv⟩ : ∃ vv, (gRd rd i).val = vv := ⟨_, rfl⟩
    have HN3 : Hid (hasB l (k, i) = false → L3 ++ [⟨iv, vv⟩] = keepTo l k rd (i + 1)) := Lib.hid (fun h => by rw [keepTo, if_neg (by rw [h]; decide), HL3.out, ← hiv, ← hvv])
    have HN4 : Hid (hasB l (k, i) = true → L3 = keepTo l k rd (i + 1)) := Lib.hid (fun h => by rw [keepTo, if_pos h, List.append_nil, HL3.out])
    rw [hiv] at r0
    rw [hvv] at r1
    clear hiv hvv
    go_wp2_with fail
    refine (has_ref Al cl l k i Y hl ((hA.below BY).up BY.size)).mono ?_
    rintro e Y0 ⟨rfl, hY0⟩
    have hbX0 := ex_trans hbX hY0
    have BY0 := ex_trans BY hY0
    have qx0 := qx.below hY0 lx
    have own30 := own_below own3 hY0
    have q00 := q0Y.below hY0 l0
    have a20 : Y0.cell? ⟨w.heap.size, 2, none⟩ = some (.slice (some ⟨bb, ob, none⟩) s.baths.length cb) := q00.cell 2
    have g20 := HGB.out Y0 BY0
    have r00 := (hY0.cell (p := ⟨br, orr + i * 2, none⟩) lbr).trans r0
    have r10 := (hY0.cell (p := ⟨br, orr + i * 2 + 1, none⟩) lbr).trans r1
    have hsY0 := hY0.size
    have lx0 := qx0.lt
    have l00 := q00.lt
    have lbY0 : bb < Y0.heap.size := by omega
    have lbr0 : br < Y0.heap.size := by omega
    clear a2 g2 r0 r1 qx own3 q0Y l0 lx lbY lbr hY0
    generalize hasB l (k, i) = hb at *
    cases hb
    rotate_left
    · have HL4 := Lib.hid (HN4.out rfl)
      clear HN3 HN4
      go_wp2_with fail
      refine ⟨⟨⟨i + 1, by omega, hbX0, by omega, A3, c3, L3, HL4, qx0, own30, exFrame (by kernel_rfl)⟩⟩, ?_⟩
      show rd.length - (intOf (.int .i64 ((i : Int) + 1))).toNat < rd.length - (intOf (.int .i64 (i : Int))).toNat
      simp [intOf]
      omega
    have HL4 := Lib.hid (HN3.out rfl)
    clear HN3 HN4
    have own3 := own30
    clear own30
    obtain ⟨row, hrow⟩ : ∃ row, (Value.slice A3 L3.length c3).ownBlock = row := ⟨_, rfl⟩
    have hge := fun (j : Nat) (hj : (Value.slice A3 L3.length c3).ownBlock = some j) => own_ge own3 hj
    have hn0 : ¬ some w.heap.size = row := fun e => by have := hge _ (hrow.trans e.symm); have := hbl.size; omega
    have hnx : ¬ some px = row := fun e => by have := hge _ (hrow.trans e.symm); omega
    have hnb' : ¬ some bb = row := fun e => by have := hge _ (hrow.trans e.symm); omega
    have hnr : ¬ some br = row := fun e => by have := hge _ (hrow.trans e.symm); have := hbl.size; omega
    have hrw : ∀ j, row = some j → px + 1 ≤ j := fun j hj => hge _ (hrow.trans hj)
    have x2 : Y0.cell? ⟨px, 2, none⟩ = some (.slice A3 L3.length c3) := qx0.cell 2
    have HROW := Lib.hid hrow
    clear hrow hge
    go_wp2_with fail
    refine wp_region_gx_mix row 14 [(false, 0), (false, 1), (false, 2), (false, 3), (false, 4), (false, 5), (false, 6), (false, 7), (false, 8), (false, 9), (false, 10), (true, 11), (true, 12), (false, 13)] (by kernel_rfl) (by kernel_rfl) (by intro d _ _ _ _ h; cases d <;> exact h) ?_
    repeat (refine mix_quiet rfl ?_; go_big_quiet_step (fail); refine wpQuiet_nil ?_)
    have hX0' := (Below.refl Y0.heap.size Y0).drew
    refine mix_loud rfl ?_
    go_wp2_with fail
    have hX2 := ex_alloc hX0' (.cells #[.int .i64 iv, .int .i64 vv] 89)
    refine ⟨inGx (grown_row hX2), ?_⟩
    repeat (refine mix_quiet rfl ?_; go_big_quiet_step (fail); refine wpQuiet_nil ?_)
    have y4 := own_below own3 hX2
    have c63 : L3.length + 1 ≤ maxLen := by unfold maxLen; omega
    have cby : (L3.length + 1) * 16 ≤ 140737488355328 := by omega
    have hbase : px + 1 ≤ (Y0.drew.alloc (.cells #[.int .i64 iv, .int .i64 vv] 89)).heap.size := by have := hX2.size; omega
    refine mix_loud rfl ?_
    go_wp2_with (at_builtin; refine wpList_append_lies _ rfl _ _ _ rfl (px + 1) 89 i1 _ 2 16 Try.underlying80 HJ.out hy0 hy1 hy2 rfl (by omega) (.slice A3 L3.length c3) _ _ rfl y4 ⟨Y0.drew.heap.size, 0, none⟩ 1 1 [.int .i64 iv, .int .i64 vv] rfl rfl (World.news_of_block (w := (Y0.drew.alloc (.cells #[.int .i64 iv, .int .i64 vv] 89))) (heap_alloc_new Y0.drew _)) (by simp [Value.oneCell']) (by omega) c63 cby hbase (Y0.drew.heap.size + 1) (by simp) ?_; intro gg cap w1 hown' hgrow hat hlt')
    rw [HROW.out] at hgrow
    have hgB := (grown_row (r := row) hX2).andThen hgrow (fun j hj => .inr hj)
    refine ⟨inGx hgB, ?_⟩
    repeat (refine mix_quiet rfl ?_; go_big_quiet_step (fail); refine wpQuiet_nil ?_)
    refine mix_nil rfl ?_
    have hX1 := hbX0.grown hgB hbX0.size (fun j hj => by have := hrw j hj; omega)
    have qx3 := qx0.grown hgB hnx
    have x13 : w1.cell? ⟨px, 2, none⟩ = some (.slice A3 L3.length c3) := qx3.cell 2
    have lx3 := qx3.lt
    have fx3 := qx3.frozen0
    have qx4 := qx3.set_ 2 (.slice (some ⟨gg, 0, none⟩) (L3.length + 1) cap)
    simp only [List.setIfInBounds_toArray, List.set_cons_zero, List.set_cons_succ] at qx4
    have own4 := own_far (own_push (f := cRd) (x := ⟨iv, vv⟩) rfl hown') (p := ⟨px, 2, none⟩) (by show px < px + 1; omega) (.slice (some ⟨gg, 0, none⟩) (L3.length + 1) cap)
    have hB5 := ex_set hX1 (p := ⟨px, 2, none⟩) (by show W.heap.size ≤ px; omega) (.slice (some ⟨gg, 0, none⟩) (L3.length + 1) cap)
    have hs5 : px + 1 ≤ (w1.setCell ⟨px, 2, none⟩ (.slice (some ⟨gg, 0, none⟩) (L3.length + 1) cap)).heap.size := by have := hgB.size; simp; omega
    generalize hL4 : L3 ++ [(⟨iv, vv⟩ : Rd)] = L4 at *
    have hl4 : L3.length + 1 = L4.length := by rw [← hL4]; simp
    have HL5 := Lib.hid hl4
    clear hL4 hl4
    rw [HL5.out] at qx4 own4 hB5 hs5
    clear hown' hgB hgrow y4 hX2 hX0' hX1 own3 x2 a20 g20 r00 r10 hn0 hnx hnb' hnr qx0 q00
    go_wp2_with fail
    rw [HL5.out]
    refine ⟨⟨⟨i + 1, by omega, hB5, hs5, _, _, L4, HL4, qx4, own4, exFrame (by kernel_rfl)⟩⟩, ?_⟩
    show rd.length - (intOf (.int .i64 ((i : Int) + 1))).toNat < rd.length - (intOf (.int .i64 (i : Int))).toNat
    simp [intOf]
    omega
  obtain rfl : i = rd.length := by omega
  obtain ⟨A5, c5, e5, _, _, hr5⟩ := own_row (c := cRd) (sz := 2) (fun _ => rfl) (f := fRd L3) (fun k hk j hj => by
    have e := gRd_at hk
    match j, hj with
    | 0, _ => simp [cRd, fRd, e]
    | 1, _ => simp [cRd, fRd, e]) own3
  injection e5 with e5 _ e52
  subst e5 e52
  have hNY := hN.below hbX
  have q1Y := q1.below hbX q1.lt
  have q2Y := q2.below hbX q2.lt
  have l2 := q2Y.lt
  clear own3
  have x0 : Y.cell? ⟨px, 0, none⟩ = some (.int .i64 lo) := qx.cell 0
  have x1 : Y.cell? ⟨px, 1, none⟩ = some (.int .i64 hi) := qx.cell 1
  have x2 : Y.cell? ⟨px, 2, none⟩ = some (.slice A3 L3.length c3) := qx.cell 2
  have b2 : Y.cell? ⟨w.heap.size + 1 + 1, 2, none⟩ = some v := q2Y.cell 2
  have c63 : X.length + 1 ≤ maxLen := by unfold maxLen; omega
  have cby : (X.length + 1) * 40 ≤ 140737488355328 := by omega
  have hZ := ex_alloc (Below.refl Y.heap.size Y) (.cells #[.int .i64 lo, .int .i64 hi, .slice A3 L3.length c3] 82)
  have y4 := hNY.own.alloc (.cells #[.int .i64 lo, .int .i64 hi, .slice A3 L3.length c3] 82)
  have hbase : w.heap.size + 1 + 1 + 1 ≤ (Y.alloc (.cells #[.int .i64 lo, .int .i64 hi, .slice A3 L3.length c3] 82)).heap.size := by have := hZ.size; have := hbX.size; omega
  have hge := fun (j : Nat) (hj : v.ownBlock = some j) => own_ge hNY.own hj
  have hn0 : some w.heap.size ≠ v.ownBlock := fun e => by have := hge _ e.symm; omega
  have hn1 : some (w.heap.size + 1) ≠ v.ownBlock := fun e => by have := hge _ e.symm; omega
  have hn2 : some (w.heap.size + 1 + 1) ≠ v.ownBlock := fun e => by have := hge _ e.symm; omega
  have q0Z := q0Y.below hZ l0
  have q1Z := q1Y.below hZ q1Y.lt
  have q2Z := q2Y.below hZ l2
  go_wp2_with (refine pause_at 63 rfl ?_)
  refine Paused.mk ?_
  refine wpList_append_lies _ rfl _ _ _ rfl (w.heap.size + 1 + 1 + 1) 82 i2 _ 3 40 Try.underlying23 HK.out hu0 hu1 hu2 rfl (by omega) v _ _ rfl y4 ⟨Y.heap.size, 0, none⟩ 1 1 [.int .i64 lo, .int .i64 hi, .slice A3 L3.length c3] rfl rfl (World.news_of_block (heap_alloc_new Y _)) (by simp [Value.oneCell']) (by omega) c63 cby hbase (Y.heap.size + 1) (by simp) ?_
  intro gg cap w1 hown' hgrow hat hlt'
  have q23 := q2Z.grown hgrow hn2
  have b23 : w1.cell? ⟨w.heap.size + 1 + 1, 2, none⟩ = some v := q23.cell 2
  have l23 := q23.lt
  have f23 := q23.frozen0
  go_wp2_with fail
  have q03 := q0Z.grown hgrow hn0
  have q13 := q1Z.grown hgrow hn1
  have hN3 : ROwn w1 (w.heap.size + 1 + 1 + 1) (.slice (some ⟨gg, 0, none⟩) (X.length + 1) cap) (X ++ [((⟨⟨lo, hi⟩, L3⟩ : Bt), A3, c3)]) :=
    NOwn.push (hNY.below hZ) hgrow (by decide) rfl (own_push (f := cB) (x := ((⟨⟨lo, hi⟩, L3⟩ : Bt), A3, c3)) rfl hown') (fun y hy => by
      obtain rfl := List.mem_singleton.1 hy
      exact (hr5.below hZ).base (by omega))
  have HN : Hid ((X ++ [((⟨⟨lo, hi⟩, L3⟩ : Bt), A3, c3)]).map (·.1) = (List.range (k + 1)).map (keepB l s)) := Lib.hid (by
    rw [List.map_append, HL.out, List.range_succ, List.map_append, List.map_singleton, List.map_singleton, HBK.out, HL3.out])
  generalize X ++ [((⟨⟨lo, hi⟩, L3⟩ : Bt), A3, c3)] = X' at *
  have B3 : Below w.heap.size w w1 := (ex_trans BY hZ).grown hgrow (by have := BY.size; have := hZ.size; omega) (fun j hj => by have := hge j hj; omega)
  have B4 := ex_set B3 (p := ⟨w.heap.size + 1 + 1, 2, none⟩) (by show w.heap.size ≤ w.heap.size + 1 + 1; omega) (.slice (some ⟨gg, 0, none⟩) (X.length + 1) cap)
  have q04 := q03.far (p := ⟨w.heap.size + 1 + 1, 2, none⟩) (by show w.heap.size ≠ w.heap.size + 1 + 1; omega) (.slice (some ⟨gg, 0, none⟩) (X.length + 1) cap)
  have q14 := q13.far (p := ⟨w.heap.size + 1 + 1, 2, none⟩) (by show w.heap.size + 1 ≠ w.heap.size + 1 + 1; omega) (.slice (some ⟨gg, 0, none⟩) (X.length + 1) cap)
  have q24 := q23.set_ 2 (.slice (some ⟨gg, 0, none⟩) (X.length + 1) cap)
  simp only [List.setIfInBounds_toArray, List.set_cons_zero, List.set_cons_succ] at q24
  have hN4 := hN3.set q23 (by decide) (by decide) 2 (.slice (some ⟨gg, 0, none⟩) (X.length + 1) cap)
  have hs4 : w.heap.size + 1 + 1 + 1 ≤ (w1.setCell ⟨w.heap.size + 1 + 1, 2, none⟩ (.slice (some ⟨gg, 0, none⟩) (X.length + 1) cap)).heap.size := by have := hgrow.size; simp; omega
  refine ⟨⟨⟨k + 1, by omega, B4, hs4, q04, q14, _, X', HN, q24, hN4, exFrame (by kernel_rfl)⟩⟩, ?_⟩
  show s.baths.length - (intOf (.int .i64 ((k : Int) + 1))).toNat < s.baths.length - (intOf (.int .i64 (k : Int))).toNat
  simp [intOf]
  omega
theorem without_ref (s : Se) (Ao Ab : Option Addr) (co cb : Nat) (rA : Nat → Option Addr) (rc : Nat → Nat) (w : World) (hs : SeIn w w.heap.size s Ao Ab rA rc) (ht : Thn s) (l : List (Nat × Nat)) (Al : Option Addr) (cl : Nat) (hl : l.length ≤ 1000000) (hA : SlAt w w.heap.size 2 Al l.length (fPl l)) :
    Calls Try.prog 33 #[.agg #[.slice Ao s.offs.length co, .int .i64 s.err, .slice Ab s.baths.length cb], .slice Al l.length cl] w fun e w' => (∃ Ab' cb' rA' rc', e = .returned (.agg #[.slice Ao s.offs.length co, .int .i64 s.err, .slice Ab' s.baths.length cb']) ∧ SeIn w' w'.heap.size (woS s l) Ao Ab' rA' rc') ∧ Below w.heap.size w w' :=
  (without_own s Ao Ab co cb rA rc w hs ht l Al cl hl hA).mono fun _ w' ⟨⟨Ab', cb', X, h1, h2, h3⟩, h4⟩ => by
    obtain ⟨Ab9, cb9, rA9, rc9, e9, hse⟩ := nown_se (s := woS s l) h3 h2.out ((hs.offs.below h4).up h4.size)
    rw [show (woS s l).baths.length = s.baths.length by unfold woS; simp] at e9
    injection e9 with e9 _ e92
    subst e9 e92
    exact ⟨⟨_, _, _, _, h1, hse⟩, h4⟩
end Go.Proofs.Ytnplefhigbkbbaa
end

section
namespace Go.Proofs.Ytnplefhigbkbbaa
open Go.RowKit
attribute [local go_sem] Ex.cell? Ex.frozen? Gx.cell?

section
variable {l : List (Nat × Nat)} {b : Nat} {rd : List Rd}
theorem mem_keepTo {x : Rd} : ∀ {n : Nat}, x ∈ keepTo l b rd n ↔ ∃ i, i < n ∧ hasB l (b, i) = false ∧ x = gRd rd i
  | 0 => by simp [keepTo]
  | n + 1 => by
    rw [keepTo, List.mem_append, mem_keepTo]
    constructor
    · rintro (⟨i, h1, h2⟩ | h)
      · exact ⟨i, by omega, h2⟩
      · by_cases hh : hasB l (b, n) = true
        · rw [if_pos hh] at h; cases h
        · rw [if_neg hh] at h
          exact ⟨n, by omega, by simpa using hh, List.mem_singleton.1 h⟩
    · rintro ⟨i, h1, h2, h3⟩
      rcases Nat.lt_succ_iff_lt_or_eq.1 h1 with h4 | h4
      · exact .inl ⟨i, h4, h2, h3⟩
      · subst h4
        exact .inr (by rw [if_neg (by rw [h2]; decide), h3]; simp)
theorem keepTo_pw (h : ∀ k, k < rd.length → ∀ j, j < k → (gRd rd j).inst ≠ (gRd rd k).inst) : ∀ {n : Nat}, n ≤ rd.length → (keepTo l b rd n).Pairwise (fun x y => x.inst ≠ y.inst)
  | 0, _ => by simp [keepTo]
  | n + 1, hn => by
    rw [keepTo, List.pairwise_append]
    refine ⟨keepTo_pw h (by omega), by split <;> simp, fun x hx y hy => ?_⟩
    obtain ⟨i, h1, _, rfl⟩ := mem_keepTo.1 hx
    by_cases hh : hasB l (b, n) = true
    · rw [if_pos hh] at hy; cases hy
    · rw [if_neg hh] at hy
      obtain rfl := List.mem_singleton.1 hy
      exact h n (by omega) i h1
end
section
variable {s : Se} {l : List (Nat × Nat)}
theorem woS_len : (woS s l).baths.length = s.baths.length := by unfold woS; simp
theorem woS_at {b : Nat} (hb : b < s.baths.length) : gBt (woS s l).baths b = keepB l s b := by unfold woS gBt; simp [hb]
theorem gRd_mem {rd : List Rd} {k : Nat} (h : k < rd.length) : gRd rd k ∈ rd := by rw [gRd_at h]; exact List.getElem_mem h
theorem woS_mem {b i : Nat} (hb : b < s.baths.length) (hi : i < (gBt (woS s l).baths b).reads.length) : ∃ j, j < (gBt s.baths b).reads.length ∧ hasB l (b, j) = false ∧ gRd (gBt (woS s l).baths b).reads i = gRd (gBt s.baths b).reads j := by
  have h := gRd_mem hi
  rw [woS_at hb] at h ⊢
  exact mem_keepTo.1 h
theorem woS_ok (hok : SeOk s) : SeOk (woS s l) := by
  refine ⟨hok.no, by rw [woS_len]; exact hok.nb, hok.err, hok.offs, fun b hb => ?_, fun b hb k hk => ?_, fun b hb k hk j hj => ?_, fun b hb k hk => ?_⟩
  · rw [woS_len] at hb; rw [woS_at hb]; exact hok.heats b hb
  · rw [woS_len] at hb
    obtain ⟨i, h1, _, h3⟩ := woS_mem hb hk
    rw [h3]; exact hok.inst b hb i h1
  · rw [woS_len] at hb
    have hp : (gBt (woS s l).baths b).reads.Pairwise (fun x y => x.inst ≠ y.inst) := by rw [woS_at hb]; exact keepTo_pw (hok.once b hb) (Nat.le_refl _)
    have := List.pairwise_iff_getElem.1 hp j k (by omega) hk hj
    rwa [← gRd_at, ← gRd_at] at this
  · rw [woS_len] at hb
    obtain ⟨i, h1, _, h3⟩ := woS_mem hb hk
    rw [h3]; exact hok.val b hb i h1
/-- a truth of all but some readings. -/
def TruBut (s : Se) (l : List (Nat × Nat)) (o h : Nat → Int) : Prop :=
  (∀ n, n < s.offs.length → (gR s.offs n).lo ≤ o n ∧ o n ≤ (gR s.offs n).hi) ∧ (∀ b, b < s.baths.length → (gBt s.baths b).heat.lo ≤ h b ∧ h b ≤ (gBt s.baths b).heat.hi) ∧
  ∀ b, b < s.baths.length → ∀ i, i < (gBt s.baths b).reads.length → hasB l (b, i) = false → (gRd (gBt s.baths b).reads i).val - s.err ≤ h b + o (gRd (gBt s.baths b).reads i).inst.toNat ∧ h b + o (gRd (gBt s.baths b).reads i).inst.toNat ≤ (gRd (gBt s.baths b).reads i).val + s.err
theorem woS_tru {o h : Nat → Int} : Tru (woS s l) (fun _ => false) o h ↔ TruBut s l o h := by
  constructor
  · intro ht
    refine ⟨ht.offs, fun b hb => ?_, fun b hb i hi hh => ?_⟩
    · have := ht.heats b (by rw [woS_len]; exact hb)
      rwa [woS_at hb] at this
    · have hm : gRd (gBt s.baths b).reads i ∈ (gBt (woS s l).baths b).reads := by
        rw [woS_at hb]
        exact mem_keepTo.2 ⟨i, hi, hh, rfl⟩
      obtain ⟨k, hk, e⟩ := List.getElem_of_mem hm
      have := ht.read (fun _ => rfl) (by rw [woS_len]; exact hb) hk
      rw [gRd_at hk, e] at this
      exact this
  · rintro ⟨h1, h2, h3⟩
    refine Tru.of_reads h1 (fun b hb => ?_) (fun b hb i hi => ?_)
    · rw [woS_len] at hb; rw [woS_at hb]; exact h2 b hb
    · rw [woS_len] at hb
      obtain ⟨j, k1, k2, k3⟩ := woS_mem hb hi
      rw [k3]
      exact h3 b hb j k1 k2
theorem place_uniq : ∀ {n i j : Nat}, i < (placeB s n).length → j < (placeB s n).length → (placeB s n).getD i (0, 0) = (placeB s n).getD j (0, 0) → i = j := by
  intro n
  have hnd : (placeB s n).Nodup := by
    induction n with
    | zero => simp [placeB]
    | succ n ih =>
      rw [placeB, List.nodup_append]
      refine ⟨ih, ?_, ?_⟩
      · show List.Pairwise _ _
        rw [List.pairwise_map]
        exact List.Pairwise.imp (fun h e => h (by injection e)) List.nodup_range
      · intro p hp q hq e
        obtain ⟨i, _, rfl⟩ := List.mem_map.1 hq
        have := (mem_placeB.1 hp).1
        rw [e] at this
        omega
  intro i j hi hj h
  have h2 : (placeB s n)[i] = (placeB s n)[j] := by simpa [hi, hj] using h
  exact (List.getElem_inj hnd).1 h2
theorem pAt_inj {i j : Nat} (hi : i < (placeL s).length) (hj : j < (placeL s).length) (h : pAt s i = pAt s j) : i = j := place_uniq hi hj h
theorem has_plOf {T i : Nat} (hi : i < (placeL s).length) : hasB (plOf s T) (pAt s i) = T.testBit i := by
  unfold hasB plOf
  cases hb : T.testBit i
  · refine decide_eq_false (fun h => ?_)
    obtain ⟨j, hj, e⟩ := List.mem_map.1 h
    obtain ⟨h1, h2⟩ := mem_idxB.1 hj
    have := pAt_inj h1 hi e
    subst this
    rw [hb] at h2; cases h2
  · exact decide_eq_true (List.mem_map.2 ⟨i, mem_idxB.2 ⟨hi, hb⟩, rfl⟩)
theorem truBut_plOf {T : Nat} {o h : Nat → Int} : TruBut s (plOf s T) o h ↔ Tru s (fun i => T.testBit i) o h := by
  constructor
  · rintro ⟨h1, h2, h3⟩
    refine ⟨h1, h2, fun k hk ht => ?_⟩
    obtain ⟨h4, h5⟩ := pAt_mem hk
    exact h3 _ h4 _ h5 (by have := has_plOf (T := T) hk; rw [← ht]; exact this)
  · intro ht
    refine ⟨ht.offs, ht.heats, fun b hb i hi hh => ?_⟩
    obtain ⟨k, hk, e⟩ := List.getElem_of_mem (mem_placeL.2 (show (b, i).1 < s.baths.length ∧ (b, i).2 < (gBt s.baths (b, i).1).reads.length from ⟨hb, hi⟩))
    have e2 : pAt s k = (b, i) := (pAt_at hk).trans e
    have := ht.reads k hk (by rw [← has_plOf hk, e2]; exact hh)
    rw [e2] at this
    exact this
theorem can_wo {T : Nat} : Can (woS s (plOf s T)) ↔ Fits s T := by
  unfold Can Fits Clash
  rw [Classical.not_not]
  exact exists_congr fun o => exists_congr fun h => woS_tru.trans truBut_plOf
end
theorem less_trans {a b c : List (Nat × Nat)} (h1 : lessB a b = true) (h2 : lessB b c = true) : lessB a c = true := by
  unfold lessB at *
  simp only [Bool.or_eq_true, Bool.and_eq_true, decide_eq_true_eq] at *
  rcases h1 with h1 | ⟨h1, h1'⟩ <;> rcases h2 with h2 | ⟨h2, h2'⟩
  · exact .inl (by omega)
  · exact .inl (by omega)
  · exact .inl (by omega)
  · exact .inr ⟨by omega, ltP_trans h1' h2'⟩
theorem less_irr {a : List (Nat × Nat)} : lessB a a = false := by
  unfold lessB
  rw [ltP_irr]; simp
/-- the fewest of the first so many lists. -/
structure FewTo (s : Se) (k : Nat) (r : List (Nat × Nat)) : Prop where
  is : ∃ T, r = plOf s T ∧ Fits s T
  low : ∀ S, S < k → Fits s S → lessB (plOf s S) r = false
section
variable {s : Se} {k : Nat} {r : List (Nat × Nat)}
theorem idx_full : ∀ {n N : Nat}, n ≤ N → idxB (2 ^ N - 1) n = List.range n
  | 0, _, _ => rfl
  | n + 1, N, h => by
    rw [idxB, idx_full (by omega), List.range_succ, if_pos]
    rw [Nat.testBit_two_pow_sub_one]
    exact decide_eq_true (by omega)
theorem plOf_full : plOf s (2 ^ (placeL s).length - 1) = placeL s := by
  unfold plOf
  rw [idx_full (Nat.le_refl _)]
  refine List.ext_getElem (by simp) (fun i h1 h2 => ?_)
  simp only [List.getElem_map, List.getElem_range]
  exact pAt_at h2
theorem FewTo.start (hok : SeOk s) : FewTo s 0 (placeL s) := ⟨⟨2 ^ (placeL s).length - 1, plOf_full.symm, fits_all hok (fun i hi => by rw [Nat.testBit_two_pow_sub_one]; exact decide_eq_true hi)⟩, fun S hS => by omega⟩
theorem FewTo.no (h : FewTo s k r) (hn : lessB (plOf s k) r = false) : FewTo s (k + 1) r := ⟨h.is, fun S hS hf => by
  rcases Nat.lt_succ_iff_lt_or_eq.1 hS with h2 | h2
  · exact h.low S h2 hf
  · rw [h2]; exact hn⟩
theorem FewTo.skip (h : FewTo s k r) (hn : ¬ Fits s k) : FewTo s (k + 1) r := ⟨h.is, fun S hS hf => by
  rcases Nat.lt_succ_iff_lt_or_eq.1 hS with h2 | h2
  · exact h.low S h2 hf
  · rw [h2] at hf; exact absurd hf hn⟩
theorem FewTo.take (h : FewTo s k r) (hl : lessB (plOf s k) r = true) (hf : Fits s k) : FewTo s (k + 1) (plOf s k) := ⟨⟨k, rfl, hf⟩, fun S hS hf2 => by
  rcases Nat.lt_succ_iff_lt_or_eq.1 hS with h2 | h2
  · have := h.low S h2 hf2
    cases hx : lessB (plOf s S) (plOf s k)
    · rfl
    · rw [less_trans hx hl] at this; cases this
  · rw [h2]; exact less_irr⟩
theorem FewTo.len (h : FewTo s k r) : r.length ≤ (placeL s).length := by
  obtain ⟨T, rfl, _⟩ := h.is
  rw [plOf_len]; exact card_full
theorem FewTo.done (h : FewTo s (2 ^ (placeL s).length) r) : FewestIs s r := by
  obtain ⟨T, hT, hf⟩ := h.is
  refine ⟨T, hT, hf, fun S hS => ?_⟩
  have hb : ∀ i, i < (placeL s).length → (S % 2 ^ (placeL s).length).testBit i = S.testBit i := fun i hi => by
    rw [Nat.testBit_mod_two_pow, decide_eq_true hi, Bool.true_and]
  have h1 : SubS s (S % 2 ^ (placeL s).length) S := fun i hi hx => by rw [← hb i hi]; exact hx
  have h2 : SubS s S (S % 2 ^ (placeL s).length) := fun i hi hx => by rw [hb i hi]; exact hx
  have e := plOf_congr h1 h2
  have hS2 : Fits s (S % 2 ^ (placeL s).length) := fun hc => hS (hc.mono h2)
  have h3 := h.low _ (Nat.mod_lt _ (Nat.two_pow_pos _)) hS2
  rw [e] at h3
  have l1 : r.length = cardS s T := by rw [hT]; exact plOf_len
  have l2 : (plOf s S).length = cardS s S := plOf_len
  unfold lessB at h3
  simp only [Bool.or_eq_false_iff, Bool.and_eq_false_iff, decide_eq_false_iff_not] at h3
  refine ⟨by omega, fun he => ?_⟩
  rcases h3.2 with h4 | h4
  · exact absurd (by omega) h4
  · exact h4
end

set_option maxRecDepth 100000 in
set_option maxHeartbeats 12800000 in
theorem fewest_ref (s : Se) (Ao Ab : Option Addr) (co cb : Nat) (rA : Nat → Option Addr) (rc : Nat → Nat) (w : World) (hs : SeIn w w.heap.size s Ao Ab rA rc) (hok : SeOk s) (hfew : (placeL s).length ≤ 14) :
    Calls Try.prog 36 #[.agg #[.slice Ao s.offs.length co, .int .i64 s.err, .slice Ab s.baths.length cb]] w fun e w' => (∃ A r c, e = .returned (.slice A (r : List (Nat × Nat)).length c) ∧ Hid (FewestIs s r) ∧ SlAt w' w'.heap.size 2 A r.length (fPl r)) ∧ Below w.heap.size w w' := by
  have HOK := Lib.hid hok
  have HT := Lib.hid hok.thn
  clear hok
  have hb1 := ex_alloc (Below.refl w.heap.size w) (.cells #[.slice Ao s.offs.length co, .int .i64 s.err, .slice Ab s.baths.length cb] 25)
  have q1 : Blk (w.alloc (.cells #[.slice Ao s.offs.length co, .int .i64 s.err, .slice Ab s.baths.length cb] 25)) w.heap.size 25 #[.slice Ao s.offs.length co, .int .i64 s.err, .slice Ab s.baths.length cb] := Blk.new _ _ _
  obtain ⟨M, hM⟩ : ∃ M, 2 ^ (placeL s).length = M := ⟨_, rfl⟩
  have hMb : M ≤ 16384 := by
    have : 2 ^ (placeL s).length ≤ 2 ^ 14 := Nat.pow_le_pow_right (by omega) hfew
    omega
  have wM : IntKind.i64.wrap ((2 : Int) ^ (placeL s).length) = (M : Int) := by
    have e : ((2 : Int) ^ (placeL s).length) = ((2 ^ (placeL s).length : Nat) : Int) := by simp
    rw [e, hM]
    exact IntWalk.i64_in _ (by omega)
  have HM := Lib.hid hM
  clear hM
  have d64 : decide (((placeL s).length : Int) ≤ 64) = true := decide_eq_true (by omega)
  have n64 : (((placeL s).length : Int) ≤ 64) := by omega
  go_enter Try.func36, Try.ntmps36
  go_wp2_with fail
  generalize w.alloc (.cells #[.slice Ao s.offs.length co, .int .i64 s.err, .slice Ab s.baths.length cb] 25) = V at *
  refine (places_ref s Ao Ab co cb rA rc V (hs.go hb1) HT.out).mono ?_
  rintro e V1 ⟨⟨A0, c0, rfl, sP⟩, hV1⟩
  have B1 := ex_trans hb1 hV1
  have p0 := q1.below hV1 q1.lt
  have HF0 := Lib.hid (FewTo.start HOK.out)
  clear hb1 q1 hV1
  go_wp2_with fail
  refine wp_loop (fun a W => Rel (fun a W => ∃ k : Nat, k ≤ M ∧ Below w.heap.size w W ∧ Blk W w.heap.size 25 #[.slice Ao s.offs.length co, .int .i64 s.err, .slice Ab s.baths.length cb] ∧ ∃ A c r, Hid (FewTo s k r) ∧ SlAt W W.heap.size 2 A r.length (fPl r) ∧ ∃ u : Nat → Value, a = ⟨List.toArray (u 0 :: .pointer (some ⟨w.heap.size, 0, none⟩) :: u 2 :: .slice A r.length c :: .int .i64 ((placeL s).length : Int) :: .int .i64 (k : Int) :: u 6 :: u 7 :: u 8 :: u 9 :: u 10 :: u 11 :: u 12 :: u 13 :: u 14 :: u 15 :: u 16 :: u 17 :: u 18 :: u 19 :: u 20 :: u 21 :: u 22 :: u 23 :: u 24 :: u 25 :: u 26 :: u 27 :: u 28 :: u 29 :: u 30 :: u 31 :: u 32 :: u 33 :: u 34 :: u 35 :: u 36 :: u 37 :: []), []⟩) a W)
    (fun a _ => M - (intOf (a.tmps.getD 5 undef)).toNat) ⟨⟨0, by omega, B1, p0, A0, c0, placeL s, HF0, sP, exFrame (by kernel_rfl)⟩⟩ ?_
  clear HF0 sP p0 B1 V1
  rintro a W ⟨⟨k, hk, hbl, q0, A, c, r, HF, sr, u, rfl⟩⟩
  have l0 := q0.lt
  by_cases hlt : k < M
  rotate_left
  · obtain rfl : k = M := by omega
    have HR : Hid (FewestIs s r) := Lib.hid (by have := HF.out; rw [← HM.out] at this; exact this.done)
    go_wp2
    go_ret
    first | exact ⟨⟨_, _, ⟨_, rfl⟩, HR, sr⟩, hbl⟩ | exact ⟨⟨A, r, c, rfl, HR, sr⟩, hbl⟩
  have hrl := HF.out.len
  have a0 : W.cell? ⟨w.heap.size, 0, none⟩ = some (.slice Ao s.offs.length co) := q0.cell 0
  have a1 : W.cell? ⟨w.heap.size, 1, none⟩ = some (.int .i64 s.err) := q0.cell 1
  have a2 : W.cell? ⟨w.heap.size, 2, none⟩ = some (.slice Ab s.baths.length cb) := q0.cell 2
  go_wp2_with fail
  refine (bits_ref s Ao Ab co cb rA rc W ((hs.below hbl).up hbl.size) HOK.out k).mono ?_
  rintro e W1 ⟨⟨A1, c1, rfl, s1⟩, hW1⟩
  have hbl1 := ex_trans hbl hW1
  have q01 := q0.below hW1 l0
  have sr1 := (sr.below hW1).up hW1.size
  have hl1 : (plOf s k).length ≤ 14 := by have : (plOf s k).length ≤ (placeL s).length := (by rw [plOf_len]; exact card_full); omega
  have HNO : Hid (lessB (plOf s k) r = false → FewTo s (k + 1) r) := Lib.hid HF.out.no
  have HSK : Hid (¬ Can (woS s (plOf s k)) → FewTo s (k + 1) r) := Lib.hid (fun h => HF.out.skip (fun hf => h (can_wo.2 hf)))
  have HTK : Hid (lessB (plOf s k) r = true → Can (woS s (plOf s k)) → FewTo s (k + 1) (plOf s k)) := Lib.hid (fun h h2 => HF.out.take h (can_wo.1 h2))
  generalize plOf s k = l at *
  clear a0 a1 a2 l0 sr q0 hbl
  go_wp2_with fail
  refine (less_ref A1 A c1 c l r W1 (by omega) (by omega) s1 sr1).mono ?_
  rintro e W2 ⟨rfl, hW2⟩
  have hbl2 := ex_trans hbl1 hW2
  have q02 := q01.below hW2 q01.lt
  have sr2 := (sr1.below hW2).up hW2.size
  have s2 := (s1.below hW2).up hW2.size
  clear sr1 s1 q01 hbl1
  generalize lessB l r = x at *
  cases x
  · have HF2 := Lib.hid (HNO.out rfl)
    clear HNO HSK HTK
    go_wp2_with fail
    refine ⟨⟨⟨k + 1, by omega, hbl2, q02, A, c, r, HF2, sr2, exFrame (by kernel_rfl)⟩⟩, ?_⟩
    show M - (intOf (.int .i64 ((k : Int) + 1))).toNat < M - (intOf (.int .i64 (k : Int))).toNat
    simp [intOf]
    omega
  have l0 := q02.lt
  have a0 : W2.cell? ⟨w.heap.size, 0, none⟩ = some (.slice Ao s.offs.length co) := q02.cell 0
  have a1 : W2.cell? ⟨w.heap.size, 1, none⟩ = some (.int .i64 s.err) := q02.cell 1
  have a2 : W2.cell? ⟨w.heap.size, 2, none⟩ = some (.slice Ab s.baths.length cb) := q02.cell 2
  go_wp2_with fail
  refine (without_ref s Ao Ab co cb rA rc W2 ((hs.below hbl2).up hbl2.size) HT.out l A1 c1 (by omega) s2).mono ?_
  rintro e W3 ⟨⟨Ab', cb', rA', rc', rfl, hs3⟩, hW3⟩
  have hbl3 := ex_trans hbl2 hW3
  have q03 := q02.below hW3 q02.lt
  have sr3 := (sr2.below hW3).up hW3.size
  have s3 := (s2.below hW3).up hW3.size
  have hnar := narrow_ref (woS s l) Ao Ab' co cb' rA' rc' W3 hs3 (woS_ok HOK.out)
  rw [woS_len] at hnar
  have hno : (woS s l).offs.length = s.offs.length := rfl
  have hner : (woS s l).err = s.err := rfl
  rw [hno, hner] at hnar
  clear a0 a1 a2 l0 hno hner
  go_wp2_with fail
  refine hnar.mono ?_
  clear hnar
  rintro e W4 ⟨⟨A5, c5, A6, c6, O5, H5, rfl, _, _, _⟩, hW4⟩
  have hbl4 := ex_trans hbl3 hW4
  have q04 := q03.below hW4 q03.lt
  have sr4 := (sr3.below hW4).up hW4.size
  have s4 := (s3.below hW4).up hW4.size
  by_cases hc : Can (woS s l)
  · have HCT : Hid (canB (woS s l) = true) := Lib.hid (canB_true hc)
    rw [HCT.out]
    have HF2 := Lib.hid (show FewTo s (k + 1) l by first | exact HTK.out rfl hc | exact HTK.out trivial hc)
    clear hc HNO HSK HTK
    go_wp2_with fail
    refine ⟨⟨⟨k + 1, by omega, hbl4, q04, A1, c1, l, HF2, s4, exFrame (by kernel_rfl)⟩⟩, ?_⟩
    show M - (intOf (.int .i64 ((k : Int) + 1))).toNat < M - (intOf (.int .i64 (k : Int))).toNat
    simp [intOf]
    omega
  · have HCF : Hid (canB (woS s l) = false) := Lib.hid (canB_false hc)
    rw [HCF.out]
    have HF2 := Lib.hid (HSK.out hc)
    clear hc HNO HSK HTK
    go_wp2_with fail
    refine ⟨⟨⟨k + 1, by omega, hbl4, q04, A, c, r, HF2, sr4, exFrame (by kernel_rfl)⟩⟩, ?_⟩
    show M - (intOf (.int .i64 ((k : Int) + 1))).toNat < M - (intOf (.int .i64 (k : Int))).toNat
    simp [intOf]
    omega
end Go.Proofs.Ytnplefhigbkbbaa
end

section
namespace Go.Proofs.Ytnplefhigbkbbaa
open Go.RowKit
attribute [local go_sem] Ex.cell? Ex.frozen? Gx.cell?

set_option maxRecDepth 100000 in
set_option maxHeartbeats 1600000 in
theorem word_law (A : Option Addr) (c : Nat) (l : List Int) (at_ : Int) (w : World) (hA : SlAt w w.heap.size 1 A l.length (fU l)) (hw : ∀ k, k < l.length → 0 ≤ gI l k ∧ gI l k ≤ 65535) (h0 : 0 ≤ at_) (h1 : at_ ≤ 1000) (hl : l.length ≤ maxLen) :
    Calls Try.prog 93 #[.slice A l.length c, .int .i64 at_] w fun e w' => (∃ n : Int, e = .returned (.int .i64 n) ∧ 0 ≤ n ∧ n ≤ 65535) ∧ Below w.heap.size w w' := by
  unfold maxLen at hl
  by_cases h : l.length = 0
  · have HL := Lib.hid h
    clear h
    go_enter Try.func93, Try.ntmps93
    rw [HL.out]
    go_wp2
    go_ret
    exact ⟨⟨0, rfl, by omega, by omega⟩, Below.refl _ _⟩
  · have hk : (at_ % (l.length : Int)).toNat < l.length := by
      have := Int.emod_lt_of_pos at_ (show (0 : Int) < (l.length : Int) by omega)
      have := Int.emod_nonneg at_ (show (l.length : Int) ≠ 0 by omega)
      omega
    have hr0 := Int.emod_nonneg at_ (show (l.length : Int) ≠ 0 by omega)
    have hr1 := Int.emod_lt_of_pos at_ (show (0 : Int) < (l.length : Int) by omega)
    obtain ⟨m, hm⟩ : ∃ m : Nat, at_ % (l.length : Int) = (m : Int) := ⟨(at_ % (l.length : Int)).toNat, by omega⟩
    have hmk : m < l.length := by omega
    obtain ⟨b, off, rfl, hb, hc⟩ := IsWords.at_ hA hmk
    have hv := hw _ hmk
    have e0 : ((l.length : Int) == 0) = false := by simpa using h
    have e0' : (l.length == 0) = false := by simpa using h
    have h1l : (1 : Int) ≤ (l.length : Int) := by omega
    have e2 : IntKind.i64.wrap (gI l m) = gI l m := IntWalk.i64_in _ (by omega)
    clear hk hr0 hr1
    go_enter Try.func93, Try.ntmps93
    go_wp2
    go_ret
    exact ⟨⟨_, rfl, hv.1, hv.2⟩, Below.refl _ _⟩


set_option maxRecDepth 100000 in
set_option maxHeartbeats 3200000 in
theorem some_law (lo hi n : Int) (w : World) (h0 : 0 ≤ n) (h1 : n ≤ 65535) (hl : -100000 ≤ lo) (hlh : lo ≤ hi) (hh : hi ≤ 100000) :
    Calls Try.prog 92 #[.agg #[.int .i64 lo, .int .i64 hi], .int .i64 n] w fun e w' => (∃ x : Int, e = .returned (.int .i64 x) ∧ lo ≤ x ∧ x ≤ hi) ∧ Below w.heap.size w w' := by
  have hb := ex_alloc (Below.refl w.heap.size w) (.cells #[.int .i64 lo, .int .i64 hi] 46)
  have k0 : (hi - lo + 1 == 0) = false := by rw [beq_eq_false_iff_ne]; omega
  have k0' : ¬ hi - lo + 1 = 0 := by omega
  have k1 : IntKind.i64.wrap (hi - lo) = hi - lo := IntWalk.i64_in _ (by omega)
  have k2 : IntKind.i64.wrap (hi - lo + 1) = hi - lo + 1 := IntWalk.i64_in _ (by omega)
  obtain ⟨r, hr⟩ : ∃ r, n.tmod (hi - lo + 1) = r := ⟨_, rfl⟩
  have hr0 : 0 ≤ r := by rw [← hr]; exact Int.tmod_nonneg _ h0
  have hr1 : r < hi - lo + 1 := by rw [← hr]; exact Int.tmod_lt_of_pos _ (by omega)
  have k3 : IntKind.i64.wrap (n.tmod (hi - lo + 1)) = r := by rw [hr]; exact IntWalk.i64_in _ (by omega)
  have k4 : IntKind.i64.wrap (lo + r) = lo + r := IntWalk.i64_in _ (by omega)
  go_enter Try.func92, Try.ntmps92
  go_wp2_with fail
  refine wp_region_ext_mix 11 [(false, 0), (false, 1), (false, 2), (false, 3), (false, 4), (false, 5), (false, 6), (false, 7), (false, 8), (false, 9), (false, 10)] (by kernel_rfl) (by kernel_rfl) (by intro d _ _ _ _ h; cases d <;> exact h) ?_
  have hX0 := (Below.refl (w.alloc (.cells #[.int .i64 lo, .int .i64 hi] 46)).heap.size (w.alloc (.cells #[.int .i64 lo, .int .i64 hi] 46))).drew
  repeat (refine mix_quiet rfl ?_; go_big_quiet_step (fail); refine wpQuiet_nil ?_)
  refine mix_nil rfl ?_
  go_wp2
  go_ret
  exact ⟨⟨lo + r, rfl, by omega, by omega⟩, ex_trans hb hX0⟩

theorem results_ttc_row {P : Program} {fn : Func} {t u p : Tmp} {ty : TypeId} (h : fn.results = #[.tmp t, .tmp u, .cell p ty]) (tmps : Array Value) (w : World) (g : Nat) (ty' : TypeId) (cs : Array Value) (fr : Nat × Nat) (d : TypeDesc)
    (hp : tmps.getD p undef = .pointer (some ⟨g, 0, none⟩)) (hg : w.heap[g]? = some (.cells cs ty' fr))
    (hu : P.underlying ty = some d) (hd : (match d with | .struct _ | .array _ _ => true | _ => false) = true) (hi : (P.info? ty).map (·.size) = some cs.size) :
    (results fn tmps).run P w = .ok (.tuple #[tmps.getD t undef, tmps.getD u undef, .agg cs]) w := by
  have hp' : tmps[p]?.getD undef = .pointer (some ⟨g, 0, none⟩) := by simpa using hp
  simp [results, h, hp', asAddr, run_loadVar_row w g ty' ty cs fr d hg hu hd hi]

/-- offsets so far, by words. -/
structure OffR (s : Se) (k : Nat) (o : List Int) : Prop where
  len : o.length = k
  at_ : ∀ j, j < k → (gR s.offs j).lo ≤ gI o j ∧ gI o j ≤ (gR s.offs j).hi
theorem OffR.nil {s : Se} : OffR s 0 [] := ⟨rfl, fun j hj => by omega⟩
theorem OffR.snoc {s : Se} {k : Nat} {o : List Int} {x : Int} (h : OffR s k o) (h1 : (gR s.offs k).lo ≤ x) (h2 : x ≤ (gR s.offs k).hi) : OffR s (k + 1) (o ++ [x]) := by
  refine ⟨by rw [List.length_append, h.len]; rfl, fun j hj => ?_⟩
  rcases Nat.lt_succ_iff_lt_or_eq.1 hj with h3 | h3
  · rw [gI_snoc (by rw [h.len]; exact h3)]; exact h.at_ j h3
  · subst h3
    have : gI (o ++ [x]) j = x := by have := gI_last (l := o) (x := x); rwa [h.len] at this
    rw [this]; exact ⟨h1, h2⟩
/-- a bath whose first so many readings have been made anew. -/
structure BathR (s : Se) (o : List Int) (hv : Int) (a : Bt) (rd : List Rd) (i : Nat) : Prop where
  len : rd.length = i
  at_ : ∀ j, j < i → (gRd rd j).inst = (gRd a.reads j).inst ∧ hv + gI o (gRd a.reads j).inst.toNat - s.err ≤ (gRd rd j).val ∧ (gRd rd j).val ≤ hv + gI o (gRd a.reads j).inst.toNat + s.err
theorem BathR.nil {s : Se} {o : List Int} {hv : Int} {a : Bt} : BathR s o hv a [] 0 := ⟨rfl, fun j hj => by omega⟩
theorem gRd_snoc {l : List Rd} {x : Rd} {j : Nat} (h : j < l.length) : gRd (l ++ [x]) j = gRd l j := by simp [gRd, List.getElem?_append, h]
theorem gRd_last {l : List Rd} {x : Rd} : gRd (l ++ [x]) l.length = x := by simp [gRd]
theorem BathR.snoc {s : Se} {o : List Int} {hv : Int} {a : Bt} {rd : List Rd} {i : Nat} {iv v : Int} (h : BathR s o hv a rd i) (h1 : iv = (gRd a.reads i).inst) (h2 : hv + gI o iv.toNat - s.err ≤ v) (h3 : v ≤ hv + gI o iv.toNat + s.err) : BathR s o hv a (rd ++ [⟨iv, v⟩]) (i + 1) := by
  refine ⟨by rw [List.length_append, h.len]; rfl, fun j hj => ?_⟩
  rcases Nat.lt_succ_iff_lt_or_eq.1 hj with h4 | h4
  · rw [gRd_snoc (by rw [h.len]; exact h4)]; exact h.at_ j h4
  · subst h4
    have : gRd (rd ++ [⟨iv, v⟩]) j = ⟨iv, v⟩ := by have := gRd_last (l := rd) (x := ⟨iv, v⟩); rwa [h.len] at this
    rw [this, ← h1]
    exact ⟨rfl, h2, h3⟩
/-- heats and baths so far. -/
structure BathsR (s : Se) (o : List Int) (b : Nat) (h : List Int) (X : List Bt) : Prop where
  lh : h.length = b
  lx : X.length = b
  heat : ∀ j, j < b → (gBt s.baths j).heat.lo ≤ gI h j ∧ gI h j ≤ (gBt s.baths j).heat.hi ∧ (gBt X j).heat = (gBt s.baths j).heat
  rd : ∀ j, j < b → BathR s o (gI h j) (gBt s.baths j) (gBt X j).reads (gBt s.baths j).reads.length
theorem BathsR.nil {s : Se} {o : List Int} : BathsR s o 0 [] [] := ⟨rfl, rfl, fun j hj => by omega, fun j hj => by omega⟩
theorem gBt_snoc {l : List Bt} {x : Bt} {j : Nat} (h : j < l.length) : gBt (l ++ [x]) j = gBt l j := by simp [gBt, List.getElem?_append, h]
theorem gBt_last {l : List Bt} {x : Bt} : gBt (l ++ [x]) l.length = x := by simp [gBt]
theorem BathsR.snoc {s : Se} {o : List Int} {b : Nat} {h : List Int} {X : List Bt} {hv : Int} {rd : List Rd} (H : BathsR s o b h X) (h1 : (gBt s.baths b).heat.lo ≤ hv) (h2 : hv ≤ (gBt s.baths b).heat.hi) (h3 : BathR s o hv (gBt s.baths b) rd (gBt s.baths b).reads.length) :
    BathsR s o (b + 1) (h ++ [hv]) (X ++ [⟨(gBt s.baths b).heat, rd⟩]) := by
  have e1 : gI (h ++ [hv]) b = hv := by have := gI_last (l := h) (x := hv); rwa [H.lh] at this
  have e2 : gBt (X ++ [⟨(gBt s.baths b).heat, rd⟩]) b = ⟨(gBt s.baths b).heat, rd⟩ := by have := gBt_last (l := X) (x := ⟨(gBt s.baths b).heat, rd⟩); rwa [H.lx] at this
  refine ⟨by rw [List.length_append, H.lh]; rfl, by rw [List.length_append, H.lx]; rfl, fun j hj => ?_, fun j hj => ?_⟩
  · rcases Nat.lt_succ_iff_lt_or_eq.1 hj with h4 | h4
    · rw [gI_snoc (by rw [H.lh]; exact h4), gBt_snoc (by rw [H.lx]; exact h4)]; exact H.heat j h4
    · subst h4; rw [e1, e2]; exact ⟨h1, h2, rfl⟩
  · rcases Nat.lt_succ_iff_lt_or_eq.1 hj with h4 | h4
    · rw [gI_snoc (by rw [H.lh]; exact h4), gBt_snoc (by rw [H.lx]; exact h4)]; exact H.rd j h4
    · subst h4; rw [e1, e2]; exact h3
/-- what Read tells: offsets and heats that are a truth of the series with its Values made anew. -/
structure ReadV (s : Se) (o h : List Int) (x : Se) : Prop where
  lo : o.length = s.offs.length
  lh : h.length = s.baths.length
  offs : x.offs = s.offs
  err : x.err = s.err
  lb : x.baths.length = s.baths.length
  heat : ∀ b, b < s.baths.length → (gBt x.baths b).heat = (gBt s.baths b).heat
  lr : ∀ b, b < s.baths.length → (gBt x.baths b).reads.length = (gBt s.baths b).reads.length
  inst : ∀ b, b < s.baths.length → ∀ i, i < (gBt s.baths b).reads.length → (gRd (gBt x.baths b).reads i).inst = (gRd (gBt s.baths b).reads i).inst
  ok : SeOk x
  tru : Tru x (fun _ => false) (fun n => gI o n) (fun b => gI h b)
theorem ReadV.of {s : Se} {o h : List Int} {X : List Bt} (hok : SeOk s) (ho : OffR s s.offs.length o) (H : BathsR s o s.baths.length h X) : ReadV s o h ⟨s.offs, s.err, X⟩ := by
  have hlr : ∀ b, b < s.baths.length → (gBt X b).reads.length = (gBt s.baths b).reads.length := fun b hb => (H.rd b hb).len
  have hin : ∀ b, b < s.baths.length → ∀ i, i < (gBt s.baths b).reads.length → (gRd (gBt X b).reads i).inst = (gRd (gBt s.baths b).reads i).inst := fun b hb i hi => ((H.rd b hb).at_ i hi).1
  refine ⟨ho.len, H.lh, rfl, rfl, H.lx, fun b hb => (H.heat b hb).2.2, hlr, hin, ⟨hok.no, ?_, hok.err, hok.offs, ?_, ?_, ?_, ?_⟩, Tru.of_reads ho.at_ ?_ ?_⟩
  · show X.length ≤ 6
    rw [H.lx]; exact hok.nb
  · intro b hb
    have hb : b < s.baths.length := by rw [← H.lx]; exact hb
    show 0 ≤ (gBt X b).heat.lo ∧ (gBt X b).heat.lo ≤ (gBt X b).heat.hi ∧ (gBt X b).heat.hi ≤ 1000
    rw [(H.heat b hb).2.2]; exact hok.heats b hb
  · intro b hb k hk
    have hb : b < s.baths.length := by rw [← H.lx]; exact hb
    have hk : k < (gBt s.baths b).reads.length := by rw [← hlr b hb]; exact hk
    show 0 ≤ (gRd (gBt X b).reads k).inst ∧ (gRd (gBt X b).reads k).inst ≤ (s.offs.length : Int) - 1
    rw [hin b hb k hk]; exact hok.inst b hb k hk
  · intro b hb k hk j hj
    have hb : b < s.baths.length := by rw [← H.lx]; exact hb
    have hk : k < (gBt s.baths b).reads.length := by rw [← hlr b hb]; exact hk
    show (gRd (gBt X b).reads j).inst ≠ (gRd (gBt X b).reads k).inst
    rw [hin b hb k hk, hin b hb j (by omega)]; exact hok.once b hb k hk j hj
  · intro b hb k hk
    have hb : b < s.baths.length := by rw [← H.lx]; exact hb
    have hk : k < (gBt s.baths b).reads.length := by rw [← hlr b hb]; exact hk
    show -1000 ≤ (gRd (gBt X b).reads k).val ∧ (gRd (gBt X b).reads k).val ≤ 2000
    have h1 := (H.rd b hb).at_ k hk
    have h2 := hok.inst b hb k hk
    have h3 := ho.at_ (gRd (gBt s.baths b).reads k).inst.toNat (by omega)
    have h4 := hok.offs (gRd (gBt s.baths b).reads k).inst.toNat (by omega)
    have h5 := H.heat b hb
    have h6 := hok.heats b hb
    have h7 := hok.err
    omega
  · intro b hb
    have hb : b < s.baths.length := by rw [← H.lx]; exact hb
    show (gBt X b).heat.lo ≤ gI h b ∧ gI h b ≤ (gBt X b).heat.hi
    have := H.heat b hb
    rw [this.2.2]; exact ⟨this.1, this.2.1⟩
  · intro b hb i hi
    have hb : b < s.baths.length := by rw [← H.lx]; exact hb
    have hi : i < (gBt s.baths b).reads.length := by rw [← hlr b hb]; exact hi
    show (gRd (gBt X b).reads i).val - s.err ≤ gI h b + gI o (gRd (gBt X b).reads i).inst.toNat ∧ gI h b + gI o (gRd (gBt X b).reads i).inst.toNat ≤ (gRd (gBt X b).reads i).val + s.err
    have h1 := (H.rd b hb).at_ i hi
    rw [h1.1]
    omega
theorem ReadV.thn {s x : Se} {o h : List Int} (H : ReadV s o h x) (ht : Thn s) : Thn x := ⟨by rw [H.offs]; exact ht.no, by rw [H.lb]; exact ht.nb, fun b hb => by
  have hb : b < s.baths.length := by rw [← H.lb]; exact hb
  rw [H.lr b hb]; exact ht.nr b hb⟩
theorem ReadV.can {s x : Se} {o h : List Int} (H : ReadV s o h x) : Can x := ⟨_, _, H.tru⟩
end Go.Proofs.Ytnplefhigbkbbaa
end
