/- Bath: leave (walk). · Bath: leave, by its depth (walk). · Bath: fewest (walk). · Bath: Blame (walk). · Bath's laws: between, dipped, three, wrong, yard (walks). · Bath's laws: wrong, yard (walks). · Bath's laws: ints, places, to, ranges, list (walks). · Bath's laws: what holds of the examples (plain). -/
import Derived.WalkSpells
import Derived.Test.YtnplefhigbkbbaaQ6
import Derived.Test.YtnplefhigbkbbaaQ2
set_option linter.unusedVariables false
set_option linter.unusedSimpArgs false
set_option linter.unusedSectionVars false
section
namespace Go.Proofs.Ytnplefhigbkbbaa
open Go.RowKit
attribute [local go_sem] Ex.cell? Ex.frozen? Fx.cell?

theorem eql_nil_pl (w : World) (a : Option Addr) (n c : Nat) : (binOp .eql 51 (.slice a n c) (.slice none 0 0)).run Try.prog w = .ok (.bool a.isNone) w := Lib.run_eql_slice_nil w _ _ a n c 0 0 Try.underlying51
attribute [local go_sem] eql_nil_pl
theorem wp_region_fx_mix {P : Program} {Q : Exit → Act → World → Prop} {id : Nat} {a : Act} {w : World} {l : List Oper} (R : Nat → Prop) (n : Nat) (ks : List (Bool × Nat)) (hm : P.follows .mixedOrders = true)
    (hB : (mixedB .any l.toArray n ks && decide (ks.length = n)) = true) (hQ : ∀ d v c a w, Q (.panic c) (a.put d v) w → Q (.panic c) a w)
    (h : wpMix P l Q (fun w' => ∃ x : Fx w R, w' = x.W) n ks a w.drew) : (Code.region id l.toArray true).wp P Q a w :=
  wp_region_mixed_tail n ks _ hm hB hQ (inFx (Fr.refl R w).drew) h
theorem plOf_sm {s : Se} (hok : SeOk s) {b : Nat} : SmP (plOf s b) := by
  intro p hp
  unfold plOf at hp
  obtain ⟨i, hi, rfl⟩ := List.mem_map.1 hp
  obtain ⟨h1, h2⟩ := pAt_mem (mem_idxB.1 hi).1
  have h3 := hok.nb
  have h4 := reads_le hok h1
  have h5 := hok.no
  omega
/-- the best so far, in memory. -/
def BestAt (base : Nat) (W : World) (vb : Value) : Option (List (Nat × Nat)) → Prop
  | none => vb = .slice none 0 0
  | some r => r ≠ [] ∧ r.length ≤ 36 ∧ SmP r ∧ W.ownsRow base 137 2 vb r.length (r.flatMap cP)
theorem BestAt.fr {base : Nat} {W W' : World} {vb : Value} {R : Nat → Prop} (hf : Fr R W W') (hR : ∀ x, base ≤ x → x < W.heap.size → ¬ R x) : ∀ {b : Option (List (Nat × Nat))}, BestAt base W vb b → BestAt base W' vb b
  | none, h => h
  | some _, ⟨h1, h2, h3, h4⟩ => ⟨h1, h2, h3, own_fr h4 hf (fun x hx => by have := own_lt h4 hx; exact hR x this.1 this.2)⟩
/-- what holds while leave goes on. -/
structure LS (s : Se) (q m pw pb pl : Nat) (w0 : World) (b : Option (List (Nat × Nat))) (W : World) : Prop where
  fr : Fr (fun x => x = m) w0 W
  qw : Blk W pw 128 #[.pointer (some ⟨q, 0, none⟩)]
  ql : Blk W pl 175 #[.func (.func 106) #[] #[.pointer (some ⟨pw, 0, none⟩), .pointer (some ⟨pb, 0, none⟩), .pointer (some ⟨pl, 0, none⟩)]]
  mp : ∃ L, IsMp keyL vBool W m L ∧ MapOk s L
  bs : ∃ vb, Blk W pb 51 #[vb] ∧ BestAt w0.heap.size W vb b
theorem LS.move {s : Se} {q m pw pb pl : Nat} {w0 W W' : World} {b : Option (List (Nat × Nat))} (h : LS s q m pw pb pl w0 b W) (hm : m < w0.heap.size) (hp : w0.heap.size ≤ pw ∧ w0.heap.size ≤ pb ∧ w0.heap.size ≤ pl ∧ pw ≠ pb ∧ pl ≠ pb) (hf : Fr (fun x => x = m) W W') (hmp : ∃ L, IsMp keyL vBool W' m L ∧ MapOk s L) : LS s q m pw pb pl w0 b W' :=
  ⟨h.fr.trans hf (fun _ _ h => h), h.qw.fr hf (by omega), h.ql.fr hf (by omega), hmp, by
    obtain ⟨vb, h1, h2⟩ := h.bs
    exact ⟨vb, h1.fr hf (by omega), h2.fr hf (fun x hx _ => by omega)⟩⟩
theorem LS.below {s : Se} {q m pw pb pl : Nat} {w0 W W' : World} {b : Option (List (Nat × Nat))} (h : LS s q m pw pb pl w0 b W) (hm : m < w0.heap.size) (hp : w0.heap.size ≤ pw ∧ w0.heap.size ≤ pb ∧ w0.heap.size ≤ pl ∧ pw ≠ pb ∧ pl ≠ pb) (hb : Below W.heap.size W W') : LS s q m pw pb pl w0 b W' :=
  h.move hm hp (Fr.below hb) (by obtain ⟨L, h1, h2⟩ := h.mp; exact ⟨L, h1.below hb, h2⟩)
/-- the best is set anew. -/
theorem LS.set {s : Se} {q m pw pb pl : Nat} {w0 W : World} {b : Option (List (Nat × Nat))} (h : LS s q m pw pb pl w0 b W) (hm : m < w0.heap.size) (hp : w0.heap.size ≤ pw ∧ w0.heap.size ≤ pb ∧ w0.heap.size ≤ pl ∧ pw ≠ pb ∧ pl ≠ pb) {v : Value} {r : List (Nat × Nat)} {base : Nat} (hr : r ≠ []) (hl : r.length ≤ 36) (hsm : SmP r) (hown : W.ownsRow base 137 2 v r.length (r.flatMap cP)) (hb1 : w0.heap.size ≤ base) (hb2 : pb < base) :
    LS s q m pw pb pl w0 (some r) (W.setCell ⟨pb, 0, none⟩ v) ∧ Fr (fun x => x = pb) W (W.setCell ⟨pb, 0, none⟩ v) := by
  have hf : Fr (fun x => x = pb) W (W.setCell ⟨pb, 0, none⟩ v) := (Fr.refl (fun x => x = pb) W).andSet rfl
  refine ⟨⟨h.fr.trans hf (fun x hx e => by omega), h.qw.fr hf (by omega), h.ql.fr hf (by omega), ?_, ?_⟩, hf⟩
  · obtain ⟨L, h1, h2⟩ := h.mp
    exact ⟨L, h1.fr hf (by omega), h2⟩
  · obtain ⟨vb, h1, _⟩ := h.bs
    have h2 := h1.set_ 0 v
    simp only [List.setIfInBounds_toArray, List.set_cons_zero] at h2
    exact ⟨v, h2, hr, hl, hsm, own_base (own_fr hown hf (fun x hx => by have := own_ge hown hx; omega)) hb1⟩
theorem plOf_ne {s : Se} (hc0 : Clash s 0) {o : Nat} (h : Fits s o) : plOf s o ≠ [] := fun e => by
  have h1 : cardS s o = 0 := by have := plOf_len (s := s) (b := o); rw [e] at this; exact this.symm
  exact h (hc0.mono (sub_zero.back (by unfold cardS at h1; rw [h1]; exact Nat.zero_le _)))
theorem own_cells2 {W : World} {base : Nat} {e : TypeId} {sz : Nat} {v : Value} {r : List (Nat × Nat)} {xs : List Value} (h : W.ownsRow base e sz v r.length xs) (hr : r ≠ []) : ∃ g cap, v = .slice (some ⟨g, 0, none⟩) r.length cap ∧ base ≤ g := by
  rcases h.2 with ⟨_, h0⟩ | ⟨g, cap, cur, rfl, hb, _⟩
  · exact absurd (List.eq_nil_of_length_eq_zero h0) hr
  · exact ⟨g, cap, rfl, hb⟩
def LeavePost (s : Se) (q m pw pb pl : Nat) (w0 : World) (o many : Nat) (b : Option (List (Nat × Nat))) (W : World) (e : Ending) (W' : World) : Prop :=
  ∃ found b', e = .returned (.bool found) ∧ LeaveIs s o many b found b' ∧ LS s q m pw pb pl w0 b' W' ∧ Fr (fun x => x = m ∨ x = pb) W W'
/-- the places of the first so many of a set. -/
def plTo (s : Se) (b k : Nat) : List (Nat × Nat) := (idxB b k).map (pAt s)
theorem plTo_yes {s : Se} {b k : Nat} (h : b.testBit k = true) : plTo s b (k + 1) = plTo s b k ++ [pAt s k] := by unfold plTo; rw [idxB, if_pos h, List.map_append]; rfl
theorem plTo_no {s : Se} {b k : Nat} (h : b.testBit k = false) : plTo s b (k + 1) = plTo s b k := by unfold plTo; rw [idxB, if_neg (by rw [h]; simp), List.append_nil]
theorem plTo_len {s : Se} {b k : Nat} : (plTo s b k).length ≤ k := by unfold plTo; rw [List.length_map, idxB_len]; exact card_full

set_option maxRecDepth 100000 in
set_option maxHeartbeats 3200000 in
theorem leave_fit (s : Se) (Ao Ab A : Option Addr) (co cb c q m : Nat) (rA : Nat → Option Addr) (rc : Nat → Nat) (L0 : List (Nat × Bool)) (w0 : World) (hs : SeIn w0 w0.heap.size s Ao Ab rA rc) (hw : WorkAt w0 q m s Ao Ab co cb A c L0) (hok : SeOk s) (hc0 : Clash s 0) (pw pb pl : Nat) (hp : w0.heap.size ≤ pw ∧ w0.heap.size ≤ pb ∧ w0.heap.size ≤ pl ∧ pw ≠ pb ∧ pl ≠ pb) (o many : Nat) (b : Option (List (Nat × Nat))) (W : World) (ho : o < 68719476736) (hS : LS s q m pw pb pl w0 b W) (hfit : Fits s o) :
    Calls Try.prog 106 #[.agg #[.int .u64 (o : Int)], .int .i64 (many : Int), .pointer (some ⟨pw, 0, none⟩), .pointer (some ⟨pb, 0, none⟩), .pointer (some ⟨pl, 0, none⟩)] W (LeavePost s q m pw pb pl w0 o many b W) := by
  obtain ⟨i0, hi0, hz0, hz1, hz2⟩ := info_parts place_info
  have HI := Lib.hid hi0
  clear hi0
  have hpl := placeL_len hok
  have hm0 := hw.mp.lt
  have hb1 := ex_alloc (Below.refl W.heap.size W) (.cells #[.int .u64 (o : Int)] 133)
  have q1 : Blk (W.alloc (.cells #[.int .u64 (o : Int)] 133)) W.heap.size 133 #[.int .u64 (o : Int)] := Blk.new _ _ _
  have S1 := hS.below hm0 hp hb1
  obtain ⟨L1, mp1, HL1⟩ := S1.mp
  have HW1 := hw.of S1.fr mp1
  have HS1 := hs.keeps (keeps_of_fr S1.fr hw.mp)
  have a0 : W.cell? ⟨pw, 0, none⟩ = some (.pointer (some ⟨q, 0, none⟩)) := hS.qw.cell 0
  have la := hS.qw.lt
  go_enter Try.func106, Try.ntmps106
  go_wp2_with fail
  refine (clashes_any s Ao Ab A co cb c q m rA rc L1 o _ HS1 HW1 HL1 hok ho).mono ?_
  rintro e V ⟨x, L2, rfl, hx, hw2, hL2, F2⟩
  have S2 := S1.move hm0 hp F2 ⟨L2, hw2.mp, hL2⟩
  have q2 := q1.fr F2 (by have := hS.fr.size; omega)
  have FE : Fr (fun b => b = m) W V := (Fr.below hb1).trans F2 (fun _ _ h => h)
  clear a0 la HS1 HW1 HL1 mp1 S1 q1 F2
  obtain rfl : x = false := by
    cases x
    · rfl
    · exact absurd (hx.1 rfl) hfit
  have HF := Lib.hid hfit
  have a0 : V.cell? ⟨pw, 0, none⟩ = some (.pointer (some ⟨q, 0, none⟩)) := S2.qw.cell 0
  have la := S2.qw.lt
  have a3 : V.cell? ⟨q, 3, none⟩ = some (.slice A (placeL s).length c) := hw2.wk.cell 3
  have lq := hw2.wk.lt
  clear hx hb1 hfit
  go_wp2_with fail
  clear a0 la a3 lq
  refine wp_loop (fun a X => Rel (fun a X => ∃ k : Nat, k ≤ (placeL s).length ∧ Below V.heap.size V X ∧ ∃ v, X.ownsRow V.heap.size 137 2 v (plTo s o k).length ((plTo s o k).flatMap cP) ∧ ∃ u : Nat → Value, a = ⟨List.toArray (u 0 :: .int .i64 (many : Int) :: .pointer (some ⟨pw, 0, none⟩) :: .pointer (some ⟨pb, 0, none⟩) :: .pointer (some ⟨pl, 0, none⟩) :: .pointer (some ⟨W.heap.size, 0, none⟩) :: u 6 :: .bool false :: v :: u 9 :: u 10 :: u 11 :: u 12 :: u 13 :: u 14 :: u 15 :: u 16 :: u 17 :: u 18 :: u 19 :: .slice A (placeL s).length c :: .int .i64 ((placeL s).length : Int) :: .int .i64 (k : Int) :: u 23 :: u 24 :: u 25 :: u 26 :: u 27 :: u 28 :: u 29 :: u 30 :: u 31 :: u 32 :: u 33 :: u 34 :: u 35 :: u 36 :: u 37 :: u 38 :: u 39 :: u 40 :: u 41 :: u 42 :: u 43 :: u 44 :: u 45 :: u 46 :: u 47 :: u 48 :: u 49 :: u 50 :: u 51 :: u 52 :: u 53 :: u 54 :: u 55 :: u 56 :: u 57 :: u 58 :: u 59 :: u 60 :: u 61 :: u 62 :: u 63 :: u 64 :: u 65 :: u 66 :: u 67 :: u 68 :: u 69 :: u 70 :: u 71 :: []), []⟩) a X)
    (fun a _ => (placeL s).length - (intOf (a.tmps.getD 22 undef)).toNat) ⟨⟨0, by omega, Below.refl _ _, .slice none 0 0, ⟨rfl, .inl ⟨rfl, rfl⟩⟩, exFrame (by kernel_rfl)⟩⟩ ?_
  rintro a X ⟨⟨k, hk, hbl, v, hown, u, rfl⟩⟩
  have q3 := q2.below hbl q2.lt
  have hsz := hbl.size
  by_cases hlt : k < (placeL s).length
  ·
    obtain ⟨bo, oo, hAo, hbo, gc⟩ := (hw2.pl.below hbl) (by omega)
    rw [hAo]
    have g0 : X.cell? ⟨bo, oo + k * 2, none⟩ = some (.int .i64 ((pAt s k).1 : Int)) := gc k 0 hlt (by omega)
    have g1 : X.cell? ⟨bo, oo + k * 2 + 1, none⟩ = some (.int .i64 ((pAt s k).2 : Int)) := by have := gc k 1 hlt (by omega); rw [← Nat.add_assoc] at this; exact this
    have lbo : bo < X.heap.size := by omega
    have c0 : X.cell? ⟨W.heap.size, 0, none⟩ = some (.int .u64 (o : Int)) := q3.cell 0
    have lc := q3.lt
    clear gc
    cases htb : o.testBit k
    · have HP := Lib.hid (plTo_no (s := s) htb)
      have e1 := bit_tst1 false ho htb
      have hX := ex_alloc hbl (.cells #[.int .i64 ((pAt s k).1 : Int), .int .i64 ((pAt s k).2 : Int)] 137)
      have own2 := hown.alloc (.cells #[.int .i64 ((pAt s k).1 : Int), .int .i64 ((pAt s k).2 : Int)] 137)
      clear htb
      rw [← HP.out] at own2
      generalize (pAt s k).1 = p1 at *
      generalize (pAt s k).2 = p2 at *
      go_wp2_with fail
      refine ⟨⟨⟨k + 1, by omega, hX, v, own2, exFrame (by kernel_rfl)⟩⟩, ?_⟩
      show (placeL s).length - (intOf (.int .i64 ((k : Int) + 1))).toNat < (placeL s).length - (intOf (.int .i64 (k : Int))).toNat
      simp [intOf]
      omega
    · have HP := Lib.hid (plTo_yes (s := s) htb)
      have e1 := bit_tst1 true ho htb
      obtain ⟨p1, hp1⟩ : ∃ p1, (pAt s k).1 = p1 := ⟨_, rfl⟩
      obtain ⟨p2, hp2⟩ : ∃ p2, (pAt s k).2 = p2 := ⟨_, rfl⟩
      have HP1 := Lib.hid hp1
      have HP2 := Lib.hid hp2
      have hln := plTo_len (s := s) (b := o) (k := k)
      rw [hp1] at g0
      rw [hp2] at g1
      clear htb hp1 hp2
      have hX1 := ex_alloc hbl (.cells #[.int .i64 (p1 : Int), .int .i64 (p2 : Int)] 137)
      have hX := ex_alloc hX1 (.cells #[.int .i64 (p1 : Int), .int .i64 (p2 : Int)] 137)
      have own2 := (hown.alloc (.cells #[.int .i64 (p1 : Int), .int .i64 (p2 : Int)] 137)).alloc (.cells #[.int .i64 (p1 : Int), .int .i64 (p2 : Int)] 137)
      have c63 : (plTo s o k).length + 1 ≤ maxLen := by unfold maxLen; omega
      have cby : ((plTo s o k).length + 1) * 16 ≤ 140737488355328 := by omega
      have hbase : V.heap.size ≤ ((X.alloc (.cells #[.int .i64 (p1 : Int), .int .i64 (p2 : Int)] 137)).alloc (.cells #[.int .i64 (p1 : Int), .int .i64 (p2 : Int)] 137)).heap.size := by simp; omega
      go_wp2_with (at_builtin; refine wpList_append_lies _ rfl _ _ _ rfl V.heap.size 137 i0 _ 2 16 Try.underlying51 HI.out hz0 hz1 hz2 rfl (by omega) v _ _ rfl own2 ⟨X.heap.size + 1, 0, none⟩ 1 1 [.int .i64 (p1 : Int), .int .i64 (p2 : Int)] rfl rfl (World.news_of_block (heap_alloc_at _ _ (by simp))) (by simp [Value.oneCell']) (by omega) c63 cby hbase (X.heap.size + 1 + 1) (by simp) ?_; intro gg cap X1 hown' hgrow hat hlt')
      have hge := fun (j : Nat) (hj : v.ownBlock = some j) => own_ge hown hj
      have hX4 := hX.grown hgrow (by simp; omega) (fun j hj => hge j hj)
      have own5 : X1.ownsRow V.heap.size 137 2 (.slice (some ⟨gg, 0, none⟩) ((plTo s o k).length + 1) cap) (plTo s o (k + 1)).length ((plTo s o (k + 1)).flatMap cP) := by
        rw [HP.out, List.flatMap_append, List.length_append]
        have : cP (pAt s k) = [.int .i64 (p1 : Int), .int .i64 (p2 : Int)] := by unfold cP; rw [HP1.out, HP2.out]
        simpa [this] using hown'
      refine ⟨⟨k + 1, by omega, hX4, _, own5, exFrame (by kernel_rfl)⟩, ?_⟩
      show (placeL s).length - (intOf (.int .i64 ((k : Int) + 1))).toNat < (placeL s).length - (intOf (.int .i64 (k : Int))).toNat
      simp [intOf]
      omega
  have hkE : k = (placeL s).length := by omega
  subst hkE
  have HPL : Hid (plTo s o (placeL s).length = plOf s o) := Lib.hid rfl
  rw [HPL.out] at hown
  have S3 := S2.below hm0 hp hbl
  obtain ⟨vb, qb, hbest⟩ := S3.bs
  have b0 : X.cell? ⟨pb, 0, none⟩ = some vb := qb.cell 0
  have lb := qb.lt
  have fb := qb.frozen 0
  have lbV : pb < V.heap.size := by obtain ⟨_, h, _⟩ := S2.bs; exact h.lt
  have hlen : (plOf s o).length ≤ 36 := Nat.le_trans (plTo_len (s := s) (b := o) (k := (placeL s).length)) hpl
  have hV0 := S2.fr.size
  obtain ⟨S4, F4⟩ := S3.set hm0 hp (plOf_ne hc0 HF.out) hlen (plOf_sm hok) hown hV0 lbV
  have FX : Fr (fun b => b = m) W X := FE.trans (Fr.below (R := fun b => b = m) hbl) (fun _ _ h => h)
  have FY : Fr (fun b => b = m ∨ b = pb) W (X.setCell ⟨pb, 0, none⟩ v) := ⟨F4.os.trans FX.os, F4.tape.trans FX.tape, F4.output.trans FX.output, Nat.le_trans FX.size F4.size, fun k hk hn => (F4.block k (Nat.lt_of_lt_of_le hk FX.size) (fun e => hn (.inr e))).trans (FX.block k hk (fun e => hn (.inl e)))⟩
  have FX' : Fr (fun b => b = m ∨ b = pb) W X := ⟨FX.os, FX.tape, FX.output, FX.size, fun k hk hn => FX.block k hk (fun e => hn (.inl e))⟩
  have hL0 := leave_fits (many := many) (b := b) HF.out
  cases b with
  | none =>
    have hvb : vb = .slice none 0 0 := hbest
    subst hvb
    have HLV := Lib.hid hL0
    obtain ⟨Av, cv, rfl, vl1, vl2, vsl⟩ := own_P hown
    clear hbest hL0
    go_wp2_with fail
    go_ret
    exact ⟨true, _, rfl, HLV.out, S4, FY⟩
  | some r =>
    have HLV := Lib.hid hL0
    obtain ⟨r1, r2, r3, r4⟩ := hbest
    obtain ⟨Ar, cr, rfl, rl1, rl2, rsl⟩ := own_P r4
    obtain ⟨gr, capr, er, _⟩ := own_cells2 r4 r1
    injection er with er1 er2 er3
    obtain ⟨Av, cv, rfl, vl1, vl2, vsl⟩ := own_P hown
    have SMV := Lib.hid (plOf_sm hok (b := o))
    have SMR := Lib.hid r3
    subst er1
    clear r1 r3 r4 hL0 er2 er3
    go_wp2_with fail
    refine (compare_any Av _ cv cr (plOf s o) r X vsl rsl SMV.out SMR.out (by omega) (by omega)).mono ?_
    rintro e Y ⟨rfl, hbY⟩
    have S5 := S3.below hm0 hp hbY
    have own5 := own_below hown hbY
    obtain ⟨S6, F6⟩ := S5.set hm0 hp (plOf_ne hc0 HF.out) hlen SMV.out own5 hV0 lbV
    obtain ⟨vb5, qb5, _⟩ := S5.bs
    have lb5 := qb5.lt
    have b5 : Y.cell? ⟨pb, 0, none⟩ = some vb5 := qb5.cell 0
    have fb5 := qb5.frozen 0
    have FX2 : Fr (fun b => b = m ∨ b = pb) W Y := FX'.trans (Fr.below (R := fun b => b = m ∨ b = pb) hbY) (fun _ _ h => h)
    have FY2 : Fr (fun b => b = m ∨ b = pb) W (Y.setCell ⟨pb, 0, none⟩ (.slice Av (plOf s o).length cv)) := FX2.trans F6 (fun _ _ h => .inr h)
    cases hlt2 : ltP (plOf s o) r
    · have e1 : decide (cmpI (plOf s o) r < 0) = false := decide_eq_false (fun h => by rw [cmpI_neg, hlt2] at h; cases h)
      have HLV2 : Hid (LeaveIs s o many (some r) true (some r)) := Lib.hid (by have := HLV.out; unfold betterO at this; simp only [hlt2, Bool.false_eq_true, if_false] at this; exact this)
      clear hlt2
      go_wp2_with fail
      go_ret
      exact ⟨true, _, rfl, HLV2.out, S5, FX2⟩
    · have e1 : decide (cmpI (plOf s o) r < 0) = true := decide_eq_true (cmpI_neg.2 hlt2)
      have HLV2 : Hid (LeaveIs s o many (some r) true (some (plOf s o))) := Lib.hid (by have := HLV.out; unfold betterO at this; simp only [hlt2, if_true] at this; exact this)
      clear hlt2
      go_wp2_with fail
      go_ret
      exact ⟨true, _, rfl, HLV2.out, S6, FY2⟩
end Go.Proofs.Ytnplefhigbkbbaa
end

section
namespace Go.Proofs.Ytnplefhigbkbbaa
open Go.RowKit
attribute [local go_sem] Ex.cell? Ex.frozen? Fx.cell?

attribute [local go_sem] eql_nil_pl
set_option maxRecDepth 100000 in
set_option maxHeartbeats 3200000 in
theorem leave_none (s : Se) (Ao Ab A : Option Addr) (co cb c q m : Nat) (rA : Nat → Option Addr) (rc : Nat → Nat) (L0 : List (Nat × Bool)) (w0 : World) (hs : SeIn w0 w0.heap.size s Ao Ab rA rc) (hw : WorkAt w0 q m s Ao Ab co cb A c L0) (hok : SeOk s) (hc0 : Clash s 0) (pw pb pl : Nat) (hp : w0.heap.size ≤ pw ∧ w0.heap.size ≤ pb ∧ w0.heap.size ≤ pl ∧ pw ≠ pb ∧ pl ≠ pb) (o : Nat) (b : Option (List (Nat × Nat))) (W : World) (ho : o < 68719476736) (hS : LS s q m pw pb pl w0 b W) (hcl : Clash s o) :
    Calls Try.prog 106 #[.agg #[.int .u64 (o : Int)], .int .i64 ((0 : Nat) : Int), .pointer (some ⟨pw, 0, none⟩), .pointer (some ⟨pb, 0, none⟩), .pointer (some ⟨pl, 0, none⟩)] W (LeavePost s q m pw pb pl w0 o 0 b W) := by
  obtain ⟨i0, hi0, hz0, hz1, hz2⟩ := info_parts place_info
  have HI := Lib.hid hi0
  clear hi0
  have hpl := placeL_len hok
  have hm0 := hw.mp.lt
  have hb1 := ex_alloc (Below.refl W.heap.size W) (.cells #[.int .u64 (o : Int)] 133)
  have q1 : Blk (W.alloc (.cells #[.int .u64 (o : Int)] 133)) W.heap.size 133 #[.int .u64 (o : Int)] := Blk.new _ _ _
  have S1 := hS.below hm0 hp hb1
  obtain ⟨L1, mp1, HL1⟩ := S1.mp
  have HW1 := hw.of S1.fr mp1
  have HS1 := hs.keeps (keeps_of_fr S1.fr hw.mp)
  have a0 : W.cell? ⟨pw, 0, none⟩ = some (.pointer (some ⟨q, 0, none⟩)) := hS.qw.cell 0
  have la := hS.qw.lt
  go_enter Try.func106, Try.ntmps106
  go_wp2_with fail
  refine (clashes_any s Ao Ab A co cb c q m rA rc L1 o _ HS1 HW1 HL1 hok ho).mono ?_
  rintro e V ⟨x, L2, rfl, hx, hw2, hL2, F2⟩
  have S2 := S1.move hm0 hp F2 ⟨L2, hw2.mp, hL2⟩
  have q2 := q1.fr F2 (by have := hS.fr.size; omega)
  have FE : Fr (fun b => b = m) W V := (Fr.below hb1).trans F2 (fun _ _ h => h)
  clear a0 la HS1 HW1 HL1 mp1 S1 q1 F2
  obtain rfl : x = true := hx.2 hcl
  have HL := Lib.hid (leave_zero (b := b) hcl)
  clear hx hb1 hcl
  go_wp2_with fail
  go_ret
  exact ⟨false, b, rfl, HL.out, S2, ⟨FE.os, FE.tape, FE.output, FE.size, fun k hk hn => FE.block k hk (fun e => hn (.inl e))⟩⟩

set_option maxRecDepth 100000 in
set_option maxHeartbeats 3200000 in
theorem leave_any (s : Se) (Ao Ab A : Option Addr) (co cb c q m : Nat) (rA : Nat → Option Addr) (rc : Nat → Nat) (L0 : List (Nat × Bool)) (w0 : World) (hs : SeIn w0 w0.heap.size s Ao Ab rA rc) (hw : WorkAt w0 q m s Ao Ab co cb A c L0) (hok : SeOk s) (hc0 : Clash s 0) (pw pb pl : Nat) (hp : w0.heap.size ≤ pw ∧ w0.heap.size ≤ pb ∧ w0.heap.size ≤ pl ∧ pw ≠ pb ∧ pl ≠ pb) : ∀ (many : Nat), many ≤ 1000 → ∀ (o : Nat) (b : Option (List (Nat × Nat))) (W : World), o < 68719476736 → LS s q m pw pb pl w0 b W →
    Calls Try.prog 106 #[.agg #[.int .u64 (o : Int)], .int .i64 (many : Int), .pointer (some ⟨pw, 0, none⟩), .pointer (some ⟨pb, 0, none⟩), .pointer (some ⟨pl, 0, none⟩)] W (LeavePost s q m pw pb pl w0 o many b W) := by
  intro many
  induction many with
  | zero =>
    intro _ o b W ho hS
    by_cases hcl : Clash s o
    · exact leave_none s Ao Ab A co cb c q m rA rc L0 w0 hs hw hok hc0 pw pb pl hp o b W ho hS hcl
    · exact leave_fit s Ao Ab A co cb c q m rA rc L0 w0 hs hw hok hc0 pw pb pl hp o 0 b W ho hS hcl
  | succ n ih =>
  intro hmany o b W ho hS
  by_cases hcl : Clash s o
  rotate_left
  · exact leave_fit s Ao Ab A co cb c q m rA rc L0 w0 hs hw hok hc0 pw pb pl hp o (n + 1) b W ho hS hcl
  have HIH := Lib.hid ih
  clear ih
  obtain ⟨i0, hi0, hz0, hz1, hz2⟩ := info_parts place_info
  have HI := Lib.hid hi0
  clear hi0
  have hpl := placeL_len hok
  have hm0 := hw.mp.lt
  have hb1 := ex_alloc (Below.refl W.heap.size W) (.cells #[.int .u64 (o : Int)] 133)
  have q1 : Blk (W.alloc (.cells #[.int .u64 (o : Int)] 133)) W.heap.size 133 #[.int .u64 (o : Int)] := Blk.new _ _ _
  have S1 := hS.below hm0 hp hb1
  obtain ⟨L1, mp1, HL1⟩ := S1.mp
  have HW1 := hw.of S1.fr mp1
  have HS1 := hs.keeps (keeps_of_fr S1.fr hw.mp)
  have a0 : W.cell? ⟨pw, 0, none⟩ = some (.pointer (some ⟨q, 0, none⟩)) := hS.qw.cell 0
  have la := hS.qw.lt
  go_enter Try.func106, Try.ntmps106
  go_wp2_with fail
  refine (clashes_any s Ao Ab A co cb c q m rA rc L1 o _ HS1 HW1 HL1 hok ho).mono ?_
  rintro e V ⟨x, L2, rfl, hx, hw2, hL2, F2⟩
  have S2 := S1.move hm0 hp F2 ⟨L2, hw2.mp, hL2⟩
  have q2 := q1.fr F2 (by have := hS.fr.size; omega)
  have FE : Fr (fun b => b = m) W V := (Fr.below hb1).trans F2 (fun _ _ h => h)
  clear a0 la HS1 HW1 HL1 mp1 S1 q1 F2
  obtain rfl : x = true := hx.2 hcl
  have HC := Lib.hid hcl
  have a0 : V.cell? ⟨pw, 0, none⟩ = some (.pointer (some ⟨q, 0, none⟩)) := S2.qw.cell 0
  have la := S2.qw.lt
  have b0 : V.cell? ⟨W.heap.size, 0, none⟩ = some (.int .u64 (o : Int)) := q2.cell 0
  have lb := q2.lt
  have hnz : (((n : Int) + 1) == 0) = false := by rw [beq_eq_false_iff_ne]; omega
  have hnz2 : ((n + 1 : Nat) == 0) = false := by simp
  clear hx hb1 hcl
  go_wp2_with fail
  refine (knot_any s Ao Ab A co cb c q m rA rc L2 o V (hs.keeps (keeps_of_fr S2.fr hw.mp)) hw2 (by assumption) hok ho HC.out).mono ?_
  rintro e X ⟨vk, l, L3, rfl, hkn, hkl, hownk, hw3, hL3, F3⟩
  have S3 := S2.move hm0 hp F3 ⟨L3, hw3.mp, hL3⟩
  have q3 := q2.fr F3 (by have := hS.fr.size; omega)
  have FX : Fr (fun b => b = m) W X := FE.trans F3 (fun _ _ h => h)
  obtain ⟨Ak, ck, rfl, hk1, hslk⟩ := own_sl hownk
  have HKN := Lib.hid hkn
  clear a0 la b0 lb hkn hw3 hL3 F3 hnz hnz2
  have HAK : Hid (∀ g o2, Ak = some ⟨g, o2, none⟩ → V.heap.size ≤ g) := Lib.hid (by
    rintro g o2 rfl
    rcases hownk.2 with ⟨h1, _⟩ | ⟨g', cap, cur, h1, hge, _⟩
    · cases h1
    · injection h1 with h1 _ _
      injection h1 with h1
      injection h1 with h1
      omega)
  rw [natI_len] at hslk ⊢
  have hsk : Below V.heap.size V V := Below.refl _ _
  have hWX : W.heap.size < X.heap.size := by have := q3.lt; exact this
  obtain ⟨vb0, qb0, _⟩ := hS.bs
  have hpbW : pb < W.heap.size := qb0.lt
  have hpwW : pw < W.heap.size := hS.qw.lt
  have hplW : pl < W.heap.size := hS.ql.lt
  have hmW : m < W.heap.size := by have := hS.fr.size; omega
  clear qb0 hsk hownk
  have HT0 := Lib.hid (LeaveTo.start (s := s) (out := o) (many := n) (b := b) (l := l))
  go_wp2_with fail
  refine wp_loop (fun a Y => Rel (fun a Y => ∃ j : Nat, j ≤ l.length ∧ ∃ found b1, Hid (LeaveTo s o n l j b found b1) ∧ LS s q m pw pb pl w0 b1 Y ∧ Fr (fun x => x = m ∨ x = pb) X Y ∧ ∃ u : Nat → Value, a = ⟨List.toArray (u 0 :: .int .i64 ((n : Int) + 1) :: .pointer (some ⟨pw, 0, none⟩) :: .pointer (some ⟨pb, 0, none⟩) :: .pointer (some ⟨pl, 0, none⟩) :: .pointer (some ⟨W.heap.size, 0, none⟩) :: u 6 :: .bool found :: u 8 :: u 9 :: u 10 :: u 11 :: u 12 :: u 13 :: u 14 :: u 15 :: u 16 :: u 17 :: u 18 :: u 19 :: u 20 :: u 21 :: u 22 :: u 23 :: u 24 :: u 25 :: u 26 :: u 27 :: u 28 :: u 29 :: u 30 :: u 31 :: u 32 :: u 33 :: u 34 :: u 35 :: u 36 :: u 37 :: u 38 :: u 39 :: u 40 :: u 41 :: u 42 :: u 43 :: u 44 :: u 45 :: u 46 :: u 47 :: u 48 :: u 49 :: u 50 :: .slice Ak l.length ck :: .int .i64 (l.length : Int) :: .int .i64 (j : Int) :: u 54 :: u 55 :: u 56 :: u 57 :: u 58 :: u 59 :: u 60 :: u 61 :: u 62 :: u 63 :: u 64 :: u 65 :: u 66 :: u 67 :: u 68 :: u 69 :: u 70 :: u 71 :: []), []⟩) a Y)
    (fun a _ => l.length - (intOf (a.tmps.getD 53 undef)).toNat) ⟨⟨0, by omega, false, b, HT0, S3, Fr.refl _ _, exFrame (by kernel_rfl)⟩⟩ ?_
  clear HT0 S3
  rintro a Y ⟨⟨j, hj, found, b1, HT, S4, F4, u, rfl⟩⟩
  by_cases hlt : j < l.length
  rotate_left
  · have hjE : j = l.length := by omega
    subst hjE
    have HD := Lib.hid (HT.out.done HKN.out)
    go_wp2_with fail
    go_ret
    refine ⟨found, b1, rfl, HD.out, S4, ?_⟩
    exact (show Fr (fun x => x = m ∨ x = pb) W X from ⟨FX.os, FX.tape, FX.output, FX.size, fun k hk hn => FX.block k hk (fun e => hn (.inl e))⟩).trans F4 (fun _ _ h => h)
  have hmem : l[j] ∈ l := List.getElem_mem hlt
  have hkn := HKN.out.1 _ hmem
  obtain ⟨bk, ok, hAk, hbk, gk⟩ := hslk (by omega)
  have gk := gk j 0 hlt (by omega)
  have hgv : fI (natI l) j 0 = .int .i64 ((l[j] : Nat) : Int) := by simp [fI, gI, natI, hlt]
  rw [hgv] at gk
  have HST : Hid (∀ (f2 : Bool) (b2 : Option (List (Nat × Nat))), LeaveIs s (o ||| 2 ^ l[j]) n b1 f2 b2 → LeaveTo s o n l (j + 1) b (f2 || found) b2) := Lib.hid (fun f2 b2 h => HT.out.step hlt hkn h)
  generalize l[j] = i at *
  rw [hAk]
  have hi36 : i < 36 := by omega
  have e5 := or_val ho hi36
  have hbkne : bk ≠ m ∧ bk ≠ pb := by
    have h1 := HAK.out _ _ hAk
    have h2 := FE.size
    omega
  have ck := (World.cell?_of_block (F4.block bk hbk (by rintro (h | h); exact hbkne.1 h; exact hbkne.2 h))).trans gk
  simp only [Nat.mul_one, Nat.add_zero] at ck
  have q4 := q3.fr F4 (by omega)
  have c0 : Y.cell? ⟨W.heap.size, 0, none⟩ = some (.int .u64 (o : Int)) := q4.cell 0
  have c1 : Y.cell? ⟨pl, 0, none⟩ = some (.func (.func 106) #[] #[.pointer (some ⟨pw, 0, none⟩), .pointer (some ⟨pb, 0, none⟩), .pointer (some ⟨pl, 0, none⟩)]) := S4.ql.cell 0
  have l0 := q4.lt
  have l1 := S4.ql.lt
  have lk : bk < Y.heap.size := by have := F4.size; omega
  have w1 : IntKind.i64.wrap ((n : Int) + 1 - 1) = (n : Int) := IntWalk.i64_in _ (by omega) |>.trans (by omega)
  have n1 : ¬ W.heap.size = m := by omega
  have n2 : ¬ W.heap.size = pb := by omega
  have n3 : ¬ pl = m := by omega
  have n4 : ¬ pl = pb := by omega
  clear hgv gk hkn hmem HT
  go_wp2_with fail
  refine wp_region_fx_mix (fun x => x = m ∨ x = pb) 13 [(false, 0), (false, 1), (false, 2), (false, 3), (false, 4), (false, 5), (false, 6), (false, 7), (false, 8), (true, 9), (false, 10), (false, 11), (false, 12)] (by kernel_rfl) (by kernel_rfl) (by intro d _ _ _ _ h; cases d <;> exact h) ?_
  have hX0 := (Below.refl Y.heap.size Y).drew
  repeat (refine mix_quiet rfl ?_; go_big_quiet_step (fail); refine wpQuiet_nil ?_)
  refine mix_loud rfl ?_
  go_wp2_with fail
  refine (HIH.out (by omega) (o ||| 2 ^ i) b1 Y.drew (or_lt ho hi36) (S4.below hm0 hp hX0)).mono ?_
  rintro e Z ⟨f2, b2, rfl, hL5, S5, F5⟩
  have HT2 := Lib.hid (HST.out f2 b2 hL5)
  have F5' : Fr (fun x => x = m ∨ x = pb) Y Z := (Fr.below (R := fun x => x = m ∨ x = pb) hX0).trans F5 (fun _ _ h => h)
  have F6 : Fr (fun x => x = m ∨ x = pb) X Z := F4.trans F5' (fun _ _ h => h)
  clear hL5 ck c0 c1 e5
  go_wp2_with fail
  refine ⟨inFx F5', ?_⟩
  cases f2
  · repeat (refine mix_quiet rfl ?_; go_big_quiet_step (fail); refine wpQuiet_nil ?_)
    refine mix_nil rfl ?_
    rw [Bool.false_or] at HT2
    go_wp2_with fail
    refine ⟨⟨⟨j + 1, by omega, found, b2, HT2, S5, F6, exFrame (by kernel_rfl)⟩⟩, ?_⟩
    show l.length - (intOf (.int .i64 ((j : Int) + 1))).toNat < l.length - (intOf (.int .i64 (j : Int))).toNat
    simp [intOf]
    omega
  · repeat (refine mix_quiet rfl ?_; go_big_quiet_step (fail); refine wpQuiet_nil ?_)
    refine mix_nil rfl ?_
    rw [Bool.true_or] at HT2
    go_wp2_with fail
    refine ⟨⟨⟨j + 1, by omega, true, b2, HT2, S5, F6, exFrame (by kernel_rfl)⟩⟩, ?_⟩
    show l.length - (intOf (.int .i64 ((j : Int) + 1))).toNat < l.length - (intOf (.int .i64 (j : Int))).toNat
    simp [intOf]
    omega
end Go.Proofs.Ytnplefhigbkbbaa
end

section
namespace Go.Proofs.Ytnplefhigbkbbaa
open Go.RowKit
attribute [local go_sem] Ex.cell? Ex.frozen? run_store_func

theorem all_bits {i : Nat} (h : i < 36) : (68719476735 : Nat).testBit i = true := by
  rw [show (68719476735 : Nat) = 2 ^ 36 - 1 by decide, Nat.testBit_two_pow_sub_one]
  exact decide_eq_true h
theorem found_all {s : Se} (hok : SeOk s) {k : Nat} (hk : (placeL s).length ≤ k) {b' : Option (List (Nat × Nat))} (h : LeaveIs s 0 k none false b') : False := by
  have hpl := placeL_len hok
  have h1 := low_of h 68719476735 (fits_all hok (fun i hi => all_bits (by omega)))
  have h2 : cardS s 68719476735 ≤ (placeL s).length := card_full
  omega
def FewPost (s : Se) (m : Nat) (w : World) (e : Ending) (w' : World) : Prop := ∃ A r c, e = .returned (.slice A (r : List (Nat × Nat)).length c) ∧ FewestIs s r ∧ r.length ≤ 36 ∧ SlAt w' w'.heap.size 2 A r.length (fPl r) ∧ Fr (fun x => x = m) w w'

set_option maxRecDepth 100000 in
set_option maxHeartbeats 3200000 in
theorem fewest_any (s : Se) (Ao Ab A : Option Addr) (co cb c q m : Nat) (rA : Nat → Option Addr) (rc : Nat → Nat) (L0 : List (Nat × Bool)) (w : World) (hs : SeIn w w.heap.size s Ao Ab rA rc) (hw : WorkAt w q m s Ao Ab co cb A c L0) (hL : MapOk s L0) (hok : SeOk s) (hc0 : Clash s 0) :
    Calls Try.prog 78 #[.pointer (some ⟨q, 0, none⟩)] w (FewPost s m w) := by
  have hpl := placeL_len hok
  have hmw := hw.mp.lt
  have hb3 := ex_alloc (ex_alloc (ex_alloc (Below.refl w.heap.size w) (.cells #[.pointer (some ⟨q, 0, none⟩)] 128)) (.cells #[.slice none 0 0] 51)) (.cells #[.func (.func 106) #[] #[.pointer (some ⟨w.heap.size, 0, none⟩), .pointer (some ⟨w.heap.size + 1, 0, none⟩), .pointer (some ⟨w.heap.size + 1 + 1, 0, none⟩)]] 175)
  have q0 : Blk (((w.alloc (.cells #[.pointer (some ⟨q, 0, none⟩)] 128)).alloc (.cells #[.slice none 0 0] 51)).alloc (.cells #[.func (.func 106) #[] #[.pointer (some ⟨w.heap.size, 0, none⟩), .pointer (some ⟨w.heap.size + 1, 0, none⟩), .pointer (some ⟨w.heap.size + 1 + 1, 0, none⟩)]] 175)) w.heap.size 128 #[.pointer (some ⟨q, 0, none⟩)] := ((Blk.new _ _ _).alloc _).alloc _
  have q1 : Blk (((w.alloc (.cells #[.pointer (some ⟨q, 0, none⟩)] 128)).alloc (.cells #[.slice none 0 0] 51)).alloc (.cells #[.func (.func 106) #[] #[.pointer (some ⟨w.heap.size, 0, none⟩), .pointer (some ⟨w.heap.size + 1, 0, none⟩), .pointer (some ⟨w.heap.size + 1 + 1, 0, none⟩)]] 175)) (w.heap.size + 1) 51 #[.slice none 0 0] := (Blk.new' _ _ _ (by simp)).alloc _
  have q2 : Blk (((w.alloc (.cells #[.pointer (some ⟨q, 0, none⟩)] 128)).alloc (.cells #[.slice none 0 0] 51)).alloc (.cells #[.func (.func 106) #[] #[.pointer (some ⟨w.heap.size, 0, none⟩), .pointer (some ⟨w.heap.size + 1, 0, none⟩), .pointer (some ⟨w.heap.size + 1 + 1, 0, none⟩)]] 175)) (w.heap.size + 1 + 1) 175 #[.func (.func 106) #[] #[.pointer (some ⟨w.heap.size, 0, none⟩), .pointer (some ⟨w.heap.size + 1, 0, none⟩), .pointer (some ⟨w.heap.size + 1 + 1, 0, none⟩)]] := Blk.new' _ _ _ (by simp)
  have hp : w.heap.size ≤ w.heap.size ∧ w.heap.size ≤ w.heap.size + 1 ∧ w.heap.size ≤ w.heap.size + 1 + 1 ∧ w.heap.size ≠ w.heap.size + 1 ∧ w.heap.size + 1 + 1 ≠ w.heap.size + 1 := by omega
  have S0 : LS s q m w.heap.size (w.heap.size + 1) (w.heap.size + 1 + 1) w none (((w.alloc (.cells #[.pointer (some ⟨q, 0, none⟩)] 128)).alloc (.cells #[.slice none 0 0] 51)).alloc (.cells #[.func (.func 106) #[] #[.pointer (some ⟨w.heap.size, 0, none⟩), .pointer (some ⟨w.heap.size + 1, 0, none⟩), .pointer (some ⟨w.heap.size + 1 + 1, 0, none⟩)]] 175)) := ⟨Fr.below hb3, q0, q2, ⟨L0, hw.mp.below hb3, hL⟩, _, q1, rfl⟩
  have HP := Lib.hid hp
  have a3 : w.cell? ⟨q, 3, none⟩ = some (.slice A (placeL s).length c) := hw.wk.cell 3
  have la := hw.wk.lt
  have la2 : q < w.heap.size + 1 := by omega
  have la3 : q < w.heap.size + 1 + 1 := by omega
  have w1 : IntKind.i64.wrap (((placeL s).length : Int) + 1) = ((placeL s).length : Int) + 1 := IntWalk.i64_in _ (by omega)
  clear hb3 q0 q1 q2 hp
  go_enter Try.func78, Try.ntmps78
  go_wp2_with fail
  generalize ((w.alloc (.cells #[.pointer (some ⟨q, 0, none⟩)] 128)).alloc (.cells #[.slice none 0 0] 51)).alloc (.cells #[.func (.func 106) #[] #[.pointer (some ⟨w.heap.size, 0, none⟩), .pointer (some ⟨w.heap.size + 1, 0, none⟩), .pointer (some ⟨w.heap.size + 1 + 1, 0, none⟩)]] 175) = V at *
  refine wp_loop (fun a W => Rel (fun a W => ∃ k : Nat, k ≤ (placeL s).length ∧ LS s q m w.heap.size (w.heap.size + 1) (w.heap.size + 1 + 1) w none W ∧ Hid (∀ S, Fits s S → k ≤ cardS s S) ∧ ∃ u : Nat → Value, a = ⟨List.toArray (u 0 :: .pointer (some ⟨w.heap.size, 0, none⟩) :: u 2 :: .pointer (some ⟨w.heap.size + 1, 0, none⟩) :: .pointer (some ⟨w.heap.size + 1 + 1, 0, none⟩) :: u 5 :: u 6 :: u 7 :: u 8 :: u 9 :: u 10 :: u 11 :: .int .i64 ((placeL s).length + 1 : Int) :: .int .i64 (k : Int) :: u 14 :: u 15 :: u 16 :: u 17 :: u 18 :: u 19 :: u 20 :: u 21 :: []), []⟩) a W)
    (fun a _ => (placeL s).length - (intOf (a.tmps.getD 13 undef)).toNat) ⟨⟨0, by omega, S0, Lib.hid (fun S _ => Nat.zero_le _), exFrame (by kernel_rfl)⟩⟩ ?_
  clear S0
  rintro a W ⟨⟨k, hk, S1, HK, u, rfl⟩⟩
  have c1 : W.cell? ⟨w.heap.size + 1 + 1, 0, none⟩ = some (.func (.func 106) #[] #[.pointer (some ⟨w.heap.size, 0, none⟩), .pointer (some ⟨w.heap.size + 1, 0, none⟩), .pointer (some ⟨w.heap.size + 1 + 1, 0, none⟩)]) := S1.ql.cell 0
  have l1 := S1.ql.lt
  have hlt : (k : Int) < ((placeL s).length : Int) + 1 := by omega
  have d1 : decide ((k : Int) < ((placeL s).length : Int) + 1) = true := decide_eq_true hlt
  go_wp2_with fail
  rw [show (0 : Int) = ((0 : Nat) : Int) from rfl]
  refine (leave_any s Ao Ab A co cb c q m rA rc L0 w hs hw hok hc0 w.heap.size (w.heap.size + 1) (w.heap.size + 1 + 1) HP.out k (by omega) 0 none W (by omega) S1).mono ?_
  rintro e W2 ⟨found, b', rfl, hL2, S2, F2⟩
  have HL := Lib.hid hL2
  clear hL2 c1 l1 hlt
  cases found
  · have hnk : k < (placeL s).length := by
      rcases Nat.lt_or_ge k (placeL s).length with h | h
      · exact h
      · exact (found_all hok h HL.out).elim
    obtain rfl : b' = none := HL.out.no rfl
    have HK2 := Lib.hid (low_of HL.out)
    clear HL
    go_wp2_with fail
    refine ⟨⟨⟨k + 1, by omega, S2, HK2, exFrame (by kernel_rfl)⟩⟩, ?_⟩
    show (placeL s).length - (intOf (.int .i64 ((k : Int) + 1))).toNat < (placeL s).length - (intOf (.int .i64 (k : Int))).toNat
    simp [intOf]
    omega
  · obtain ⟨r, rfl, hr⟩ := fewest_of HK.out HL.out
    have HR := Lib.hid hr
    obtain ⟨vb, qb, hr1, hr2, hr3, hown⟩ := S2.bs
    obtain ⟨Ar, cr, rfl, rl1, rl2, rsl⟩ := own_P hown
    have b0 : W2.cell? ⟨w.heap.size + 1, 0, none⟩ = some (.slice Ar r.length cr) := qb.cell 0
    have lb := qb.lt
    clear hr hr1 hr3 hown HL
    go_wp2_with fail
    go_ret
    exact ⟨Ar, r, cr, rfl, HR.out, hr2, rsl, S2.fr⟩
end Go.Proofs.Ytnplefhigbkbbaa
end

section
namespace Go.Proofs.Ytnplefhigbkbbaa
open Go.RowKit
attribute [local go_sem] Ex.cell? Ex.frozen?

/-- the readings of an instrument, among the first so many. -/
def ofB (s : Se) (n : Nat) : Nat → Nat
  | 0 => 0
  | k + 1 => if (rdAt s (pAt s k)).inst = (n : Int) then ofB s n k ||| 2 ^ k else ofB s n k
theorem ofB_bit {s : Se} {n i : Nat} : ∀ {k : Nat}, (ofB s n k).testBit i = (decide (i < k) && decide ((rdAt s (pAt s i)).inst = (n : Int)))
  | 0 => by simp [ofB]
  | k + 1 => by
    rw [ofB]
    by_cases e : i = k
    · subst e
      split
      · rename_i h
        rw [or_bit, h]; simp
      · rename_i h
        rw [ofB_bit]; simp [h]
    · have e2 : decide (i < k + 1) = decide (i < k) := by rw [decide_eq_decide]; omega
      rw [e2]
      split
      · have e3 : decide (k = i) = false := decide_eq_false (fun h => e h.symm)
        rw [or_bit, ofB_bit, e3, Bool.or_false]
      · exact ofB_bit
theorem ofB_lt {s : Se} {n : Nat} : ∀ {k : Nat}, k ≤ 36 → ofB s n k < 68719476736
  | 0, _ => by simp [ofB]
  | k + 1, h => by
    rw [ofB]
    split
    · exact or_lt (ofB_lt (by omega)) (by omega)
    · exact ofB_lt (by omega)
/-- the numbers that do, in their order. -/
def IncL (P : Nat → Prop) : Nat → List Nat → Prop
  | 0, l => l = []
  | k + 1, l => (P k ∧ ∃ l', l = l' ++ [k] ∧ IncL P k l') ∨ (¬ P k ∧ IncL P k l)
theorem IncL.uniq {P : Nat → Prop} : ∀ {k : Nat} {l l' : List Nat}, IncL P k l → IncL P k l' → l = l'
  | 0, _, _, h, h' => by rw [show _ = [] from h, show _ = [] from h']
  | k + 1, l, l', h, h' => by
    rcases h with ⟨p, m, rfl, hm⟩ | ⟨p, hm⟩
    · rcases h' with ⟨_, m', rfl, hm'⟩ | ⟨p', _⟩
      · rw [IncL.uniq hm hm']
      · exact absurd p p'
    · rcases h' with ⟨p', _⟩ | ⟨_, hm'⟩
      · exact absurd p' p
      · exact IncL.uniq hm hm'
theorem IncL.len {P : Nat → Prop} : ∀ {k : Nat} {l : List Nat}, IncL P k l → l.length ≤ k
  | 0, _, h => by rw [show _ = [] from h]; exact Nat.le_refl _
  | k + 1, l, h => by
    rcases h with ⟨_, m, rfl, hm⟩ | ⟨_, hm⟩
    · have := IncL.len hm; simp; omega
    · have := IncL.len hm; omega
theorem IncL.congr {P Q : Nat → Prop} : ∀ {k : Nat} {l : List Nat}, (∀ n, n < k → (P n ↔ Q n)) → IncL P k l → IncL Q k l
  | 0, _, _, h => h
  | k + 1, l, he, h => by
    rcases h with ⟨p, m, e, hm⟩ | ⟨p, hm⟩
    · exact .inl ⟨(he k (by omega)).1 p, m, e, IncL.congr (fun n hn => he n (by omega)) hm⟩
    · exact .inr ⟨fun q => p ((he k (by omega)).2 q), IncL.congr (fun n hn => he n (by omega)) hm⟩
theorem clash_zero {s : Se} : Clash s 0 ↔ ¬ Can s := by
  have e0 : (fun i => Nat.testBit 0 i) = fun _ => false := by funext i; simp
  unfold Clash Can
  rw [e0]
/-- what Blame tells. -/
def BlameV (s : Se) (r : List (Nat × Nat)) (al : List Nat) (ev : Int) : Prop :=
  (ckSe s ≠ 0 ∧ ev = ckSe s ∧ r = [] ∧ al = []) ∨ (ckSe s = 0 ∧ Can s ∧ ev = 0 ∧ r = [] ∧ al = []) ∨
  (ckSe s = 0 ∧ ¬ Can s ∧ ev = 0 ∧ FewestIs s r ∧ IncL (fun n => Fits s (ofB s n (placeL s).length)) s.offs.length al)

set_option maxRecDepth 100000 in
set_option maxHeartbeats 6400000 in
theorem Blame_any (s : Se) (Ao Ab : Option Addr) (co cb : Nat) (rA : Nat → Option Addr) (rc : Nat → Nat) (w : World) (hs : SeIn w w.heap.size s Ao Ab rA rc) (hsm : Sm s) :
    Calls Try.prog 32 #[.agg #[.slice Ao s.offs.length co, .int .i64 s.err, .slice Ab s.baths.length cb]] w fun e w' => (∃ A r c Al al cl ev, e = .returned (.tuple #[.slice A (r : List (Nat × Nat)).length c, .slice Al (al : List Nat).length cl, .int .i64 ev]) ∧ Hid (BlameV s r al ev) ∧ r.length ≤ 36 ∧ al.length ≤ 6 ∧ SlAt w' w'.heap.size 2 A r.length (fPl r) ∧ SlAt w' w'.heap.size 1 Al al.length (fI (natI al))) ∧ Below w.heap.size w w' := by
  obtain ⟨i0, hi0, hz0, hz1, hz2⟩ := info_parts int_info
  have HI := Lib.hid hi0
  clear hi0
  have hb1 := ex_alloc (Below.refl w.heap.size w) (.cells #[.slice Ao s.offs.length co, .int .i64 s.err, .slice Ab s.baths.length cb] 34)
  have q1 : Blk (w.alloc (.cells #[.slice Ao s.offs.length co, .int .i64 s.err, .slice Ab s.baths.length cb] 34)) w.heap.size 34 #[.slice Ao s.offs.length co, .int .i64 s.err, .slice Ab s.baths.length cb] := Blk.new _ _ _
  go_enter Try.func32, Try.ntmps32
  go_wp2_with fail
  refine (check_any s Ao Ab co cb rA rc _ (hs.go hb1) hsm.reads hsm.baths hsm.offs).mono ?_
  rintro e W1 ⟨rfl, hb2⟩
  have B2 := ex_trans hb1 hb2
  by_cases hck : ckSe s = 0
  rotate_left
  · have HCK := Lib.hid hck
    have e1 : (ckSe s != 0) = true := by simp [hck]
    have e2 : (ckSe s == 0) = false := by simp [hck]
    clear hck
    go_wp2
    go_ret3
    exact ⟨⟨none, [], 0, none, [], 0, _, rfl, Lib.hid (.inl ⟨HCK.out, rfl, rfl, rfl⟩), by simp, by simp, fun h => absurd h (by simp), fun h => absurd h (by simp)⟩, B2⟩
  have HCK := Lib.hid hck
  have HOK := Lib.hid (seOk_iff.1 hck)
  have p1 := q1.below hb2 q1.lt
  rw [hck]
  clear hck q1 hb1
  have hpl := placeL_len HOK.out
  have h6 := HOK.out.no
  have a0 : W1.cell? ⟨w.heap.size, 0, none⟩ = some (.slice Ao s.offs.length co) := p1.cell 0
  have a1 : W1.cell? ⟨w.heap.size, 1, none⟩ = some (.int .i64 s.err) := p1.cell 1
  have a2 : W1.cell? ⟨w.heap.size, 2, none⟩ = some (.slice Ab s.baths.length cb) := p1.cell 2
  have l1 := p1.lt
  go_wp2_with fail
  refine (work_any s Ao Ab co cb rA rc W1 (hs.go B2) hsm.baths hsm.reads (by omega)).mono ?_
  rintro e W2 ⟨q, m, A, c, rfl, hw, hq, hmge, hb3⟩
  have B3 := ex_trans B2 hb3
  have p2 := p1.below hb3 l1
  have hs2 := hs.go B3
  clear p1 a0 a1 a2 l1
  have hmW : m < W2.heap.size := hw.mp.lt
  have hmne : m ≠ w.heap.size := by
    intro e
    have h1 := hw.mp
    rw [e] at h1
    exact absurd ((show W2.heap[w.heap.size]? = some _ from h1).symm.trans p2) (by simp)
  go_wp2_with fail
  rw [show (0 : Int) = ((0 : Nat) : Int) from rfl]
  refine (clashes_any s Ao Ab A co cb c q m rA rc [] 0 W2 hs2 hw MapOk.nil HOK.out (by omega)).mono ?_
  rintro e W3 ⟨x, L3, rfl, hx, hw3, hL3, F3⟩
  have HF3 : Hid (∀ (W : World), Fr (fun b => b = m) W2 W → Below w.heap.size w W) := Lib.hid fun W hf => hf.toBelow B3 (by have := B3.size; omega) (fun x hx => by rw [show x = m from hx]; exact Nat.le_trans B2.size hmge)
  cases x
  · have hcan : Can s := Classical.byContradiction fun h => by have := hx.2 (clash_zero.2 h); cases this
    have HV : Hid (BlameV s [] [] 0) := Lib.hid (.inr (.inl ⟨HCK.out, hcan, rfl, rfl, rfl⟩))
    clear hx hcan
    go_wp2
    go_ret3
    exact ⟨⟨none, [], 0, none, [], 0, _, rfl, HV, by simp, by simp, fun h => absurd h (by simp), fun h => absurd h (by simp)⟩, HF3.out _ F3⟩
  have HC := Lib.hid (hx.1 rfl)
  have p3 := p2.fr F3 (fun h => hmne h.symm)
  have a0 : W3.cell? ⟨w.heap.size, 0, none⟩ = some (.slice Ao s.offs.length co) := p3.cell 0
  have l1 := p3.lt
  clear hx
  go_wp2_with fail
  have mp3 := hw3.mp
  clear a0 l1 hw3
  refine wp_loop (fun a W => Rel (fun a W => ∃ n : Nat, n ≤ s.offs.length ∧ ∃ al L, Hid (IncL (fun n => Fits s (ofB s n (placeL s).length)) n al) ∧ Hid (MapOk s L) ∧ IsMp keyL vBool W m L ∧ Fr (fun b => b = m) W2 W ∧ ∃ v, W.ownsRow W2.heap.size 3 1 v (natI al).length ((natI al).map (Value.int .i64)) ∧ ∃ u : Nat → Value, a = ⟨List.toArray (u 0 :: .pointer (some ⟨w.heap.size, 0, none⟩) :: u 2 :: v :: u 4 :: u 5 :: .pointer (some ⟨q, 0, none⟩) :: u 7 :: u 8 :: u 9 :: u 10 :: u 11 :: u 12 :: u 13 :: u 14 :: u 15 :: u 16 :: u 17 :: u 18 :: u 19 :: u 20 :: u 21 :: u 22 :: .slice Ao s.offs.length co :: .int .i64 (s.offs.length : Int) :: .int .i64 (n : Int) :: u 26 :: u 27 :: u 28 :: u 29 :: u 30 :: u 31 :: u 32 :: u 33 :: u 34 :: u 35 :: u 36 :: u 37 :: u 38 :: u 39 :: u 40 :: u 41 :: u 42 :: u 43 :: u 44 :: u 45 :: u 46 :: u 47 :: u 48 :: u 49 :: u 50 :: u 51 :: u 52 :: u 53 :: u 54 :: u 55 :: u 56 :: u 57 :: u 58 :: u 59 :: u 60 :: u 61 :: u 62 :: u 63 :: u 64 :: u 65 :: u 66 :: u 67 :: u 68 :: u 69 :: u 70 :: []), []⟩) a W)
    (fun a _ => s.offs.length - (intOf (a.tmps.getD 25 undef)).toNat) ⟨⟨0, by omega, [], L3, Lib.hid rfl, Lib.hid hL3, mp3, F3, .slice none 0 0, ⟨by simp [natI], .inl ⟨rfl, by simp [natI]⟩⟩, exFrame (by kernel_rfl)⟩⟩ ?_
  clear mp3 F3 p3 hL3 L3
  rintro a W ⟨⟨n, hn, al, L, HAL, HL, mp, F, v, hown, u, rfl⟩⟩
  have p3 := p2.fr F (fun h => hmne h.symm)
  have lp3 := p3.lt
  have hFs := F.size
  have hW := hw.of F mp
  have hsW := hs2.keeps (keeps_of_fr F hw.mp)
  by_cases hlt : n < s.offs.length
  rotate_left
  · have hnE : n = s.offs.length := by omega
    subst hnE
    have hal6 := HAL.out.len
    clear lp3
    go_wp2_with fail
    refine (fewest_any s Ao Ab A co cb c q m rA rc L W hsW hW HL.out HOK.out HC.out).mono ?_
    rintro e W5 ⟨Ar, r, cr, rfl, hr, hr36, hsr, F5⟩
    have HV : Hid (BlameV s r al 0) := Lib.hid (.inr (.inr ⟨HCK.out, clash_zero.1 HC.out, rfl, hr, HAL.out⟩))
    have own5 := own_fr hown F5 (fun b hb => by have := own_ge hown hb; omega)
    obtain ⟨Al, cl, rfl, _, hsl⟩ := own_sl own5
    rw [natI_len] at hsl ⊢
    clear hr
    go_wp2
    go_ret3
    exact ⟨⟨Ar, r, cr, Al, al, cl, 0, rfl, HV, hr36, by omega, hsr, hsl⟩, HF3.out _ (F.trans F5 (fun _ _ h => h))⟩
  have a3 : W.cell? ⟨q, 3, none⟩ = some (.slice A (placeL s).length c) := hW.wk.cell 3
  have lq := hW.wk.lt
  have lq2 : q < W.heap.size + 1 := by omega
  have qo : Blk (W.alloc (.cells #[.int .u64 0] 133)) W.heap.size 133 #[.int .u64 ((ofB s n 0 : Nat) : Int)] := Blk.new _ _ _
  have hb0 := ex_alloc (Below.refl W.heap.size W) (.cells #[.int .u64 0] 133)
  go_wp2_with fail
  generalize W.alloc (.cells #[.int .u64 0] 133) = V0 at *
  clear a3 lq2
  refine wp_loop (fun a Y => Rel (fun a Y => ∃ k : Nat, k ≤ (placeL s).length ∧ Below W.heap.size W Y ∧ Blk Y W.heap.size 133 #[.int .u64 ((ofB s n k : Nat) : Int)] ∧ ∃ u : Nat → Value, a = ⟨List.toArray (u 0 :: .pointer (some ⟨w.heap.size, 0, none⟩) :: u 2 :: v :: u 4 :: u 5 :: .pointer (some ⟨q, 0, none⟩) :: .int .i64 (n : Int) :: .pointer (some ⟨W.heap.size, 0, none⟩) :: u 9 :: u 10 :: u 11 :: u 12 :: u 13 :: u 14 :: u 15 :: u 16 :: u 17 :: u 18 :: u 19 :: u 20 :: u 21 :: u 22 :: .slice Ao s.offs.length co :: .int .i64 (s.offs.length : Int) :: .int .i64 (n : Int) :: u 26 :: u 27 :: u 28 :: u 29 :: u 30 :: .slice A (placeL s).length c :: .int .i64 ((placeL s).length : Int) :: .int .i64 (k : Int) :: u 34 :: u 35 :: u 36 :: u 37 :: u 38 :: u 39 :: u 40 :: u 41 :: u 42 :: u 43 :: u 44 :: u 45 :: u 46 :: u 47 :: u 48 :: u 49 :: u 50 :: u 51 :: u 52 :: u 53 :: u 54 :: u 55 :: u 56 :: u 57 :: u 58 :: u 59 :: u 60 :: u 61 :: u 62 :: u 63 :: u 64 :: u 65 :: u 66 :: u 67 :: u 68 :: u 69 :: u 70 :: []), []⟩) a Y)
    (fun a _ => (placeL s).length - (intOf (a.tmps.getD 33 undef)).toNat) ⟨⟨0, by omega, hb0, qo, exFrame (by kernel_rfl)⟩⟩ ?_
  clear hb0 qo
  rintro a Y ⟨⟨k, hk, hbY, qo, u, rfl⟩⟩
  have hYs := hbY.size
  have hob := ofB_lt (s := s) (n := n) (k := k) (by omega)
  by_cases hkl : k < (placeL s).length
  ·
    have pY := p3.below hbY lp3
    obtain ⟨bo, oo, hAo, hbo, gc⟩ := (hW.pl.below hbY) (by omega)
    rw [hAo]
    have g0 := gc k 0 hkl (by omega)
    have g1 := gc k 1 hkl (by omega)
    clear gc
    obtain ⟨hp1, hp2⟩ := pAt_mem hkl
    have hinst := HOK.out.inst _ hp1 _ hp2
    have HSTEP : Hid (ofB s n (k + 1) = if (rdAt s (pAt s k)).inst = (n : Int) then ofB s n k ||| 2 ^ k else ofB s n k) := Lib.hid rfl
    have HRA : Hid (rdAt s (pAt s k) = gRd (gBt s.baths (pAt s k).1).reads (pAt s k).2) := Lib.hid rfl
    have hg0 : fPl (placeL s) k 0 = .int .i64 ((pAt s k).1 : Int) := rfl
    have hg1 : fPl (placeL s) k 1 = .int .i64 ((pAt s k).2 : Int) := rfl
    rw [hg0] at g0
    rw [hg1] at g1
    clear hg0 hg1
    have hbw : bo < Y.heap.size := by omega
    generalize pAt s k = p at *
    obtain ⟨pb, pr⟩ := p
    simp only [Nat.add_zero] at hp1 hp2 hinst HSTEP HRA g0 g1
    rw [← Nat.add_assoc] at g1
    have qp : Blk (Y.alloc (.cells #[.int .i64 (pb : Int), .int .i64 (pr : Int)] 137)) Y.heap.size 137 #[.int .i64 (pb : Int), .int .i64 (pr : Int)] := Blk.new _ _ _
    have hX := ex_alloc (Below.refl Y.heap.size Y) (.cells #[.int .i64 (pb : Int), .int .i64 (pr : Int)] 137)
    have bY2 := ex_trans hbY hX
    have qo2 := qo.below hX qo.lt
    have pY2 := pY.below hX pY.lt
    have hsY := hsW.go bY2
    obtain ⟨bb, ob, hAb, hbb, _, _, c2⟩ := IsBts.at_ hsY.baths hp1
    obtain ⟨br, obr, hAr, hbr, r0, r1⟩ := IsRds.at_ (hsY.reads pb hp1) hp2
    rw [hAr] at c2
    rw [hAb] at pY2
    rw [← HRA.out] at r0 r1 hinst
    obtain ⟨iv, hiv⟩ : ∃ iv, (rdAt s (pb, pr)).inst = iv := ⟨_, rfl⟩
    rw [hiv] at r0 HSTEP hinst
    clear hiv HRA r1 hsY
    go_wp2_with fail
    generalize Y.alloc (.cells #[.int .i64 (pb : Int), .int .i64 (pr : Int)] 137) = U at *
    have k2 : U.cell? ⟨w.heap.size, 2, none⟩ = some (.slice (some ⟨bb, ob, none⟩) s.baths.length cb) := pY2.cell 2
    have p0 : U.cell? ⟨Y.heap.size, 0, none⟩ = some (.int .i64 (pb : Int)) := qp.cell 0
    have p1 : U.cell? ⟨Y.heap.size, 1, none⟩ = some (.int .i64 (pr : Int)) := qp.cell 1
    have lp := qp.lt
    have lk := pY2.lt
    refine wp_region_ext_mix 13 [(false, 0), (false, 1), (false, 2), (false, 3), (false, 4), (false, 5), (false, 6), (false, 7), (false, 8), (false, 9), (false, 10), (false, 11), (false, 12)] (by kernel_rfl) (by kernel_rfl) (by intro d _ _ _ _ h; cases d <;> exact h) ?_
    have hX0 := (Below.refl U.heap.size U).drew
    repeat (refine mix_quiet rfl ?_; go_big_quiet_step (fail); refine wpQuiet_nil ?_)
    refine mix_nil (r := [_]) rfl ?_
    have qo3 := qo2.below hX0 qo2.lt
    have bY3 := ex_trans bY2 hX0
    by_cases hiv : iv = (n : Int)
    rotate_left
    · have e1 : (iv == (n : Int)) = false := by simp [hiv]
      have HS2 : Hid (ofB s n (k + 1) = ofB s n k) := Lib.hid (by rw [HSTEP.out, if_neg hiv])
      clear hiv k2 p0 p1 c2 r0 HSTEP
      rw [← HS2.out] at qo3
      go_wp2_with fail
      refine ⟨⟨⟨k + 1, by omega, bY3, qo3, exFrame (by kernel_rfl)⟩⟩, ?_⟩
      show (placeL s).length - (intOf (.int .i64 ((k : Int) + 1))).toNat < (placeL s).length - (intOf (.int .i64 (k : Int))).toNat
      simp [intOf]
      omega
    · have e1 : (iv == (n : Int)) = true := by simp [hiv]
      have HS2 : Hid (ofB s n (k + 1) = ofB s n k ||| 2 ^ k) := Lib.hid (by rw [HSTEP.out, if_pos hiv])
      have e5 := or_val hob (show k < 36 by omega)
      rw [← HS2.out] at e5
      obtain ⟨o2, ho2⟩ : ∃ o2, ofB s n (k + 1) = o2 := ⟨_, rfl⟩
      obtain ⟨o1, ho1⟩ : ∃ o1, ofB s n k = o1 := ⟨_, rfl⟩
      have HO2 := Lib.hid ho2
      rw [ho2, ho1] at e5
      rw [ho1] at qo3
      clear ho1 ho2
      clear hiv k2 p0 p1 c2 r0 HSTEP
      go_wp2_with fail
      generalize U.drew = U2 at *
      have o0 : U2.cell? ⟨W.heap.size, 0, none⟩ = some (.int .u64 (o1 : Int)) := qo3.cell 0
      have lo := qo3.lt
      have fo := qo3.frozen 0
      refine wp_region_ext_mix 6 [(false, 0), (false, 1), (false, 2), (false, 3), (false, 4), (false, 5)] (by kernel_rfl) (by kernel_rfl) (by intro d _ _ _ _ h; cases d <;> exact h) ?_
      have hX4 := (Below.refl U2.heap.size U2).drew
      repeat (refine mix_quiet rfl ?_; go_big_quiet_step (fail); refine wpQuiet_nil ?_)
      refine mix_nil (r := [_]) rfl ?_
      have fo4 : U2.drew.frozen? ⟨W.heap.size, 0, none⟩ = false := fo
      have qo4 := (qo3.below hX4 lo).set_ 0 (.int .u64 (o2 : Int))
      simp only [List.setIfInBounds_toArray, List.set_cons_zero] at qo4
      have bY4 := ex_set (p := ⟨W.heap.size, 0, none⟩) (ex_trans bY3 hX4) (Nat.le_refl _) (.int .u64 (o2 : Int))
      go_wp2_with fail
      refine ⟨⟨⟨k + 1, by omega, bY4, by rw [HO2.out]; exact qo4, exFrame (by kernel_rfl)⟩⟩, ?_⟩
      show (placeL s).length - (intOf (.int .i64 ((k : Int) + 1))).toNat < (placeL s).length - (intOf (.int .i64 (k : Int))).toNat
      simp [intOf]
      omega
  have hkE : k = (placeL s).length := by omega
  subst hkE
  have HFT : Hid (∀ l', IncL (fun n => Fits s (ofB s n (placeL s).length)) n l' → (¬ Clash s (ofB s n (placeL s).length) → IncL (fun n => Fits s (ofB s n (placeL s).length)) (n + 1) (l' ++ [n])) ∧ (Clash s (ofB s n (placeL s).length) → IncL (fun n => Fits s (ofB s n (placeL s).length)) (n + 1) l')) := Lib.hid (fun l' hl' => ⟨fun h => .inl ⟨h, l', rfl, hl'⟩, fun h => .inr ⟨fun hf => hf h, hl'⟩⟩)
  generalize ofB s n (placeL s).length = o at *
  have o0 : Y.cell? ⟨W.heap.size, 0, none⟩ = some (.int .u64 (o : Int)) := qo.cell 0
  have lo := qo.lt
  have FY := F.trans (Fr.below (R := fun b => b = m) hbY) (fun _ _ h => h)
  have mpY := mp.below hbY
  go_wp2_with fail
  refine (clashes_any s Ao Ab A co cb c q m rA rc L o Y (hs2.keeps (keeps_of_fr FY hw.mp)) (hw.of FY mpY) HL.out HOK.out hob).mono ?_
  rintro e Z ⟨x, L5, rfl, hx, hw5, hL5, F5⟩
  have FZ := FY.trans F5 (fun _ _ h => h)
  have HL5 := Lib.hid hL5
  have mp5 := hw5.mp
  have own5 := own_fr (own_below hown hbY) F5 (fun b hb => by have := own_ge hown hb; omega)
  have hZs := FZ.size
  cases x
  rotate_left
  · have HA := Lib.hid ((HFT.out al HAL.out).2 (hx.1 rfl))
    clear hx hL5 o0 lo
    go_wp2_with fail
    refine ⟨⟨⟨n + 1, by omega, al, L5, HA, HL5, mp5, FZ, v, own5, exFrame (by kernel_rfl)⟩⟩, ?_⟩
    show s.offs.length - (intOf (.int .i64 ((n : Int) + 1))).toNat < s.offs.length - (intOf (.int .i64 (n : Int))).toNat
    simp [intOf]
    omega
  · have HA := Lib.hid ((HFT.out al HAL.out).1 (fun h => by have := hx.2 h; cases this))
    have hal := HAL.out.len
    have c63 : (natI al).length + 1 ≤ maxLen := by rw [natI_len]; unfold maxLen; omega
    have cby : ((natI al).length + 1) * 8 ≤ 140737488355328 := by rw [natI_len]; omega
    have y4 := own5.alloc (.cells #[.int .i64 (n : Int)] 3)
    have hX6 := ex_alloc (Below.refl Z.heap.size Z) (.cells #[.int .i64 (n : Int)] 3)
    have F6 := FZ.trans (Fr.below (R := fun b => b = m) hX6) (fun _ _ h => h)
    have mp6 := mp5.below hX6
    have hbase : W2.heap.size ≤ (Z.alloc (.cells #[.int .i64 (n : Int)] 3)).heap.size := by simp; omega
    have hge := fun (j : Nat) (hj : v.ownBlock = some j) => own_ge own5 hj
    clear hx hL5 o0 lo
    go_wp2_with (at_builtin; refine wpList_append_lies _ rfl _ _ _ rfl W2.heap.size 3 i0 _ 1 8 Try.underlying52 HI.out hz0 hz1 hz2 rfl (by omega) v _ _ rfl y4 ⟨Z.heap.size, 0, none⟩ 1 1 [.int .i64 (n : Int)] rfl rfl (World.news_of_block (heap_alloc_new Z _)) (by simp [Value.oneCell']) (by omega) c63 cby hbase (Z.heap.size + 1) (by simp) ?_; intro gg cap w1 hown' hgrow hat hlt')
    have F7 : Fr (fun b => b = m) W2 w1 := F6.trans (Fr.grown (R := fun b => v.ownBlock = some b) hgrow (fun b e => .inl e)) (fun x hx h => by have := hge x h; omega)
    have mp7 := mp6.of_block (hgrow.block _ mp6.lt (fun e => by have := hge _ e.symm; omega))
    have own7 : w1.ownsRow W2.heap.size 3 1 (.slice (some ⟨gg, 0, none⟩) ((natI al).length + 1) cap) (natI (al ++ [n])).length ((natI (al ++ [n])).map (Value.int .i64)) := by
      unfold natI at hown' ⊢
      rw [List.map_append, List.map_append, List.length_append]
      exact hown'
    refine ⟨⟨n + 1, by omega, al ++ [n], L5, HA, HL5, mp7, F7, _, own7, exFrame (by kernel_rfl)⟩, ?_⟩
    show s.offs.length - (intOf (.int .i64 ((n : Int) + 1))).toNat < s.offs.length - (intOf (.int .i64 (n : Int))).toNat
    simp [intOf]
    omega
end Go.Proofs.Ytnplefhigbkbbaa
end

section
namespace Go.Proofs.Ytnplefhigbkbbaa
open Go.RowKit
attribute [local go_sem] Ex.cell? Ex.frozen?

theorem eq_rg (a b c d : Int) (w : World) : (Op.equalIn 10000 41 (.agg #[.int .i64 a, .int .i64 b]) (.agg #[.int .i64 c, .int .i64 d])).run Try.prog w = .ok (a == c && b == d) w := by
  simp [go_sem]
  by_cases h1 : a = c <;> by_cases h2 : b = d <;> simp [h1, h2]
set_option maxRecDepth 100000 in
theorem between_law (lo hi : Int) (w : World) :
    Calls Try.prog 53 #[.int .i64 lo, .int .i64 hi] w fun e w' => e = .returned (.agg #[.int .i64 lo, .int .i64 hi]) ∧ Below w.heap.size w w' := by
  go_enter Try.func53, Try.ntmps53
  go_wp2_with fail
  refine bodyPost_ret (results_cell_row rfl _ _ w.heap.size 41 #[.int .i64 lo, .int .i64 hi] (0, 0) _ rfl (Blk.new _ _ _) rfl rfl rfl) rfl ?_
  exact ⟨rfl, ex_alloc (Below.refl _ _) _⟩
set_option maxRecDepth 100000 in
theorem dipped_law (A : Option Addr) (n c : Nat) (w : World) :
    Calls Try.prog 68 #[.slice A n c] w fun e w' => e = .returned (.agg #[.int .i64 100, .int .i64 300, .slice A n c]) ∧ Below w.heap.size w w' := by
  go_enter Try.func68, Try.ntmps68
  have hb1 := ex_alloc (Below.refl w.heap.size w) (.cells #[.int .i64 0, .int .i64 0, .slice none 0 0] 116)
  have q1 : Blk (w.alloc (.cells #[.int .i64 0, .int .i64 0, .slice none 0 0] 116)) w.heap.size 116 #[.int .i64 0, .int .i64 0, .slice none 0 0] := Blk.new _ _ _
  go_wp2_with fail
  generalize w.alloc (.cells #[.int .i64 0, .int .i64 0, .slice none 0 0] 116) = V at *
  refine (between_law 100 300 V).mono ?_
  rintro e U ⟨rfl, hX⟩
  have hb2 := ex_trans hb1 hX
  have q2 := q1.below hX q1.lt
  have a0 : U.cell? ⟨w.heap.size, 0, none⟩ = some (.int .i64 0) := q2.cell 0
  have a1 : U.cell? ⟨w.heap.size, 1, none⟩ = some (.int .i64 0) := q2.cell 1
  have a2 : U.cell? ⟨w.heap.size, 2, none⟩ = some (.slice none 0 0) := q2.cell 2
  have l2 := q2.lt
  have f2 := q2.frozen0
  have q3 := ((q2.set_ 0 (.int .i64 100)).set_ 1 (.int .i64 300)).set_ 2 (.slice A n c)
  simp only [List.setIfInBounds_toArray, List.set_cons_zero, List.set_cons_succ] at q3
  have hb3 := ex_set (p := ⟨w.heap.size, 2, none⟩) (ex_set (p := ⟨w.heap.size, 1, none⟩) (ex_set (p := ⟨w.heap.size, 0, none⟩) hb2 (Nat.le_refl _) (.int .i64 100)) (Nat.le_refl _) (.int .i64 300)) (Nat.le_refl _) (.slice A n c)
  go_wp2_with fail
  refine bodyPost_ret (results_cell_row rfl _ _ w.heap.size 116 #[.int .i64 100, .int .i64 300, .slice A n c] (0, 0) _ rfl q3 rfl rfl rfl) rfl ?_
  exact ⟨rfl, hb3⟩

/-- a bath as the call makes it: where its readings lie. -/
abbrev Xb := Bt × Option Addr × Nat
def cB (x : Xb) : List Value := [.int .i64 x.1.heat.lo, .int .i64 x.1.heat.hi, .slice x.2.1 x.1.reads.length x.2.2]
instance : Inhabited Bt := ⟨⟨⟨0, 0⟩, []⟩⟩
def gXb (l : List Xb) (k : Nat) : Xb := l.getD k default
def fB (l : List Xb) : Nat → Nat → Value := fun k j => match j with | 0 => .int .i64 (gXb l k).1.heat.lo | 1 => .int .i64 (gXb l k).1.heat.hi | _ => .slice (gXb l k).2.1 (gXb l k).1.reads.length (gXb l k).2.2
theorem cB_at (l : List Xb) (k : Nat) (hk : k < l.length) (j : Nat) (hj : j < 3) : (cB l[k])[j]? = some (fB l k j) := by
  have e : gXb l k = l[k] := by unfold gXb; simp [hk]
  match j, hj with
  | 0, _ => simp [cB, fB, e]
  | 1, _ => simp [cB, fB, e]
  | 2, _ => simp [cB, fB, e]
theorem cB_one (x : Xb) (u : Value) (hu : u ∈ cB x) : u.oneCell' = true := by
  simp [cB] at hu
  rcases hu with rfl | rfl | rfl <;> rfl
/-- baths in a row of the call's own, each with its readings. -/
abbrev BOwn := NOwn (α := Xb) 116 3 118 2 cB (fun x => x.2.1) (fun x => x.1.reads.length) (fun x => fRd x.1.reads)
/-- a series whose baths lie so. -/
theorem BOwn.se {W : World} {B : Nat} {v : Value} {X : List Xb} (h : BOwn W B v X) {s : Se} {Ao : Option Addr} (hX : X.map (·.1) = s.baths) (ho : SlAt W W.heap.size 2 Ao s.offs.length (fR s.offs)) : ∃ Ab cb rA rc, v = .slice Ab s.baths.length cb ∧ SeIn W W.heap.size s Ao Ab rA rc := by
  obtain ⟨A, k, e, _, _, hr⟩ := own_row (c := cB) (sz := 3) (fun _ => rfl) (cB_at X) h.own
  have hl : X.length = s.baths.length := by rw [← hX, List.length_map]
  have hg : ∀ k, k < X.length → gBt s.baths k = (gXb X k).1 := fun k hk => by
    unfold gBt gXb
    rw [← hX]
    simp [hk]
  refine ⟨A, k, fun k => (gXb X k).2.1, fun k => (gXb X k).2.2, by rw [← hl]; exact e, ho, ?_, fun b hb => ?_⟩
  · rw [← hl]
    refine (hr.ext (fun k j hk hj => ?_)).sl
    unfold fB fBt
    rw [hg k hk]
    match j, hj with
    | 0, _ => rfl
    | 1, _ => rfl
    | 2, _ => rfl
  · rw [← hl] at hb
    rw [hg b hb]
    have hm : gXb X b ∈ X := by unfold gXb; simp [hb]
    exact (h.ins _ hm).sl
theorem bath_info : (Try.prog.info? 116).map (fun i => (i.zero, i.size, i.bytes)) = some (some (.agg #[.int .i64 0, .int .i64 0, .slice none 0 0]), 3, 40) := by kernel_rfl
/-- the series of the examples. -/
def b1 : Bt := ⟨⟨100, 300⟩, [⟨0, 200⟩, ⟨1, 203⟩]⟩
def b2 : Bt := ⟨⟨100, 300⟩, [⟨1, 252⟩, ⟨2, 250⟩]⟩
def thrS (more : List Bt) : Se := ⟨[⟨0, 0⟩, ⟨-9, 9⟩, ⟨-9, 9⟩], 1, [b1, b2] ++ more⟩
/-- a series told by a call: where it lies. -/
def SeV (s : Se) (v : Value) (w' : World) : Prop := ∃ Ao Ab co cb X, v = .agg #[.slice Ao s.offs.length co, .int .i64 s.err, .slice Ab s.baths.length cb] ∧ RowAt w' 0 41 2 Ao s.offs.length (fR s.offs) ∧ BOwn w' 0 (.slice Ab s.baths.length cb) X ∧ X.map (·.1) = s.baths
theorem SeV.se {s : Se} {v : Value} {w' : World} (h : SeV s v w') : ∃ Ao Ab co cb rA rc, v = .agg #[.slice Ao s.offs.length co, .int .i64 s.err, .slice Ab s.baths.length cb] ∧ SeIn w' w'.heap.size s Ao Ab rA rc := by
  obtain ⟨Ao, Ab, co, cb, X, e, h1, h2, h3⟩ := h
  obtain ⟨Ab', cb', rA, rc, e2, h4⟩ := h2.se h3 h1.sl
  injection e2 with e2 _ e3
  subst e2 e3
  exact ⟨Ao, Ab, co, cb, rA, rc, e, h4⟩

set_option maxRecDepth 100000 in
set_option maxHeartbeats 6400000 in
theorem three_law (X : List Xb) (Am : Option Addr) (cm : Nat) (w : World) (hl : X.length ≤ 1000) (hA : SlAt w w.heap.size 3 Am X.length (fB X)) (hX : ∀ x ∈ X, RowAt w 0 118 2 x.2.1 x.1.reads.length (fRd x.1.reads)) :
    Calls Try.prog 65 #[.slice Am X.length cm] w fun e w' => (∃ v, e = .returned v ∧ SeV (thrS (X.map (·.1))) v w') ∧ Below w.heap.size w w' := by
  obtain ⟨i1, hi1, hy0, hy1, hy2⟩ := info_parts bath_info
  have HJ := Lib.hid hi1
  clear hi1
  have hb1 := ex_alloc (Below.refl w.heap.size w) (.cells #[.slice none 0 0, .int .i64 0, .slice none 0 0] 34)
  have q1 : Blk (w.alloc (.cells #[.slice none 0 0, .int .i64 0, .slice none 0 0] 34)) w.heap.size 34 #[.slice none 0 0, .int .i64 0, .slice none 0 0] := Blk.new _ _ _
  go_enter Try.func65, Try.ntmps65
  go_wp2_with fail
  generalize w.alloc (.cells #[.slice none 0 0, .int .i64 0, .slice none 0 0] 34) = V1 at *
  refine (between_law 0 0 V1).mono ?_
  rintro e V2 ⟨rfl, h2⟩
  have hb2 := ex_trans hb1 h2
  have q2 := q1.below h2 q1.lt
  go_wp2_with fail
  refine (between_law (-9) 9 V2).mono ?_
  rintro e V3 ⟨rfl, h3⟩
  have hb3 := ex_trans hb2 h3
  have q3 := q2.below h3 q2.lt
  go_wp2_with fail
  refine (between_law (-9) 9 V3).mono ?_
  rintro e V4 ⟨rfl, h4⟩
  have hb4 := ex_trans hb3 h4
  have q4 := q3.below h4 q3.lt
  clear hb1 q1 h2 hb2 q2 h3 hb3 q3 h4
  have h5 := ex_alloc (ex_alloc (Below.refl V4.heap.size V4) (.cells #[.int .i64 0, .int .i64 0, .int .i64 (-9), .int .i64 9, .int .i64 (-9), .int .i64 9] 41)) (.cells #[.int .i64 0, .int .i64 200, .int .i64 1, .int .i64 203] 118)
  have o5 : Blk ((V4.alloc (.cells #[.int .i64 0, .int .i64 0, .int .i64 (-9), .int .i64 9, .int .i64 (-9), .int .i64 9] 41)).alloc (.cells #[.int .i64 0, .int .i64 200, .int .i64 1, .int .i64 203] 118)) V4.heap.size 41 #[.int .i64 0, .int .i64 0, .int .i64 (-9), .int .i64 9, .int .i64 (-9), .int .i64 9] := (Blk.new _ _ _).alloc _
  have r5 : Blk ((V4.alloc (.cells #[.int .i64 0, .int .i64 0, .int .i64 (-9), .int .i64 9, .int .i64 (-9), .int .i64 9] 41)).alloc (.cells #[.int .i64 0, .int .i64 200, .int .i64 1, .int .i64 203] 118)) (V4.heap.size + 1) 118 #[.int .i64 0, .int .i64 200, .int .i64 1, .int .i64 203] := Blk.new' _ _ _ (by simp)
  go_wp2_with fail
  generalize (V4.alloc (.cells #[.int .i64 0, .int .i64 0, .int .i64 (-9), .int .i64 9, .int .i64 (-9), .int .i64 9] 41)).alloc (.cells #[.int .i64 0, .int .i64 200, .int .i64 1, .int .i64 203] 118) = V5 at *
  refine (dipped_law (some ⟨V4.heap.size + 1, 0, none⟩) 2 2 V5).mono ?_
  rintro e V6 ⟨rfl, h6⟩
  have hb6 := ex_trans hb4 (ex_trans h5 h6)
  have q6 := q4.below (ex_trans h5 h6) q4.lt
  have o6 := o5.below h6 o5.lt
  have r6 := r5.below h6 r5.lt
  obtain ⟨qo, hqo⟩ : ∃ q, V4.heap.size = q := ⟨_, rfl⟩
  rw [hqo] at o6 r6 ⊢
  have hqo2 : w.heap.size < qo := by have := q4.lt; omega
  clear h5 h6 o5 r5 hb4 q4 hqo
  have h7 := ex_alloc (Below.refl V6.heap.size V6) (.cells #[.int .i64 1, .int .i64 252, .int .i64 2, .int .i64 250] 118)
  have u7 : Blk (V6.alloc (.cells #[.int .i64 1, .int .i64 252, .int .i64 2, .int .i64 250] 118)) V6.heap.size 118 #[.int .i64 1, .int .i64 252, .int .i64 2, .int .i64 250] := Blk.new _ _ _
  go_wp2_with fail
  generalize V6.alloc (.cells #[.int .i64 1, .int .i64 252, .int .i64 2, .int .i64 250] 118) = V7 at *
  refine (dipped_law (some ⟨V6.heap.size, 0, none⟩) 2 2 V7).mono ?_
  rintro e V8 ⟨rfl, h8⟩
  have hb8 := ex_trans hb6 (ex_trans h7 h8)
  have q8 := q6.below (ex_trans h7 h8) q6.lt
  have o8 := o6.below (ex_trans h7 h8) o6.lt
  have r8 := r6.below (ex_trans h7 h8) r6.lt
  have u8 := u7.below h8 u7.lt
  obtain ⟨qu, hqu⟩ : ∃ q, V6.heap.size = q := ⟨_, rfl⟩
  rw [hqu] at u8 ⊢
  have hqu2 : w.heap.size ≤ qu := by have := hb6.size; omega
  clear h7 h8 u7 hb6 q6 o6 r6 hqu
  have h9 := ex_alloc (Below.refl V8.heap.size V8) (.cells #[.int .i64 100, .int .i64 300, .slice (some ⟨qo + 1, 0, none⟩) 2 2, .int .i64 100, .int .i64 300, .slice (some ⟨qu, 0, none⟩) 2 2] 116)
  have x9 : Blk (V8.alloc (.cells #[.int .i64 100, .int .i64 300, .slice (some ⟨qo + 1, 0, none⟩) 2 2, .int .i64 100, .int .i64 300, .slice (some ⟨qu, 0, none⟩) 2 2] 116)) V8.heap.size 116 #[.int .i64 100, .int .i64 300, .slice (some ⟨qo + 1, 0, none⟩) 2 2, .int .i64 100, .int .i64 300, .slice (some ⟨qu, 0, none⟩) 2 2] := Blk.new _ _ _
  have hb9 := ex_trans hb8 h9
  have q9 := q8.below h9 q8.lt
  have o9 := o8.below h9 o8.lt
  have r9 := r8.below h9 r8.lt
  have u9 := u8.below h9 u8.lt
  have hws := hb8.size
  have hws2 : w.heap.size < V8.heap.size := q8.lt
  have hqo3 : qo < V8.heap.size := o8.lt
  have HX0 : BOwn (V8.alloc (.cells #[.int .i64 100, .int .i64 300, .slice (some ⟨qo + 1, 0, none⟩) 2 2, .int .i64 100, .int .i64 300, .slice (some ⟨qu, 0, none⟩) 2 2] 116)) 0 (.slice (some ⟨V8.heap.size, 0, none⟩) 2 2) [(b1, some ⟨qo + 1, 0, none⟩, 2), (b2, some ⟨qu, 0, none⟩, 2)] := by
    refine ⟨⟨rfl, .inr ⟨V8.heap.size, 2, _, rfl, by omega, x9, by simp, by unfold maxLen; simp, rfl, rfl⟩⟩, fun x hx => ?_⟩
    simp only [List.mem_cons, List.not_mem_nil, or_false] at hx
    rcases hx with rfl | rfl
    · exact .inr ⟨qo + 1, _, rfl, by omega, r9, fun k j hk hj => by
        match k, hk, j, hj with
        | 0, _, 0, _ => rfl
        | 0, _, 1, _ => rfl
        | 1, _, 0, _ => rfl
        | 1, _, 1, _ => rfl⟩
    · exact .inr ⟨qu, _, rfl, by omega, u9, fun k j hk hj => by
        match k, hk, j, hj with
        | 0, _, 0, _ => rfl
        | 0, _, 1, _ => rfl
        | 1, _, 0, _ => rfl
        | 1, _, 1, _ => rfl⟩
  have hA9 := (hA.below hb9).up hb9.size
  have hX9 : ∀ x ∈ X, RowAt (V8.alloc (.cells #[.int .i64 100, .int .i64 300, .slice (some ⟨qo + 1, 0, none⟩) 2 2, .int .i64 100, .int .i64 300, .slice (some ⟨qu, 0, none⟩) 2 2] 116)) 0 118 2 x.2.1 x.1.reads.length (fRd x.1.reads) := fun x hx => ((hX x hx).below hb9).base (by omega)
  have hbs : 0 ≤ (V8.alloc (.cells #[.int .i64 100, .int .i64 300, .slice (some ⟨qo + 1, 0, none⟩) 2 2, .int .i64 100, .int .i64 300, .slice (some ⟨qu, 0, none⟩) 2 2] 116)).heap.size := by have := hb9.size; omega
  have HX9 := Lib.hid hX9
  clear hX9 x9 h9 hb8 q8 o8 r8 u8
  go_wp2_with (first | (at_builtin; refine wpList_append_list (f := cB) (F := fB) (sz := 3) (fun _ => rfl) cB_at cB_one rfl _ _ _ rfl 0 116 i1 _ 40 Try.underlying32 HJ.out hy0 hy1 hy2 rfl (by omega) (some ⟨V8.heap.size, 0, none⟩) 2 [(b1, some ⟨qo + 1, 0, none⟩, 2), (b2, some ⟨qu, 0, none⟩, 2)] rfl HX0.own Am cm X rfl hA9 (by simp; unfold maxLen; omega) (by simp; omega) hbs (V8.heap.size + 1) (by simp) ?_; intro L1 Ay cy v1 HL1 o1 g1 n1) | (refine pause_at 18 rfl ?_))
  have hb10 := hb9.grown g1 hb9.size (fun j hj => by have : V8.heap.size = j := by simpa [Value.ownBlock] using hj
                                                     omega)
  have q10 := q9.grown g1 (by simp [Value.ownBlock]; omega)
  have o10 := o9.grown g1 (by simp [Value.ownBlock]; omega)
  have HB : BOwn v1 0 (.slice Ay L1.length cy) L1 := HX0.push g1 (by decide) HL1.out o1 HX9.out
  have a0 : v1.cell? ⟨w.heap.size, 0, none⟩ = some (.slice none 0 0) := q10.cell 0
  have a1 : v1.cell? ⟨w.heap.size, 1, none⟩ = some (.int .i64 0) := q10.cell 1
  have a2 : v1.cell? ⟨w.heap.size, 2, none⟩ = some (.slice none 0 0) := q10.cell 2
  have l10 := q10.lt
  have f10 := q10.frozen0
  have q11 := ((q10.set_ 0 (.slice (some ⟨qo, 0, none⟩) 3 3)).set_ 1 (.int .i64 1)).set_ 2 (.slice Ay L1.length cy)
  have HB2 := ((HB.set q10 (by decide) (by decide) 0 (.slice (some ⟨qo, 0, none⟩) 3 3)).set (q10.set_ 0 (.slice (some ⟨qo, 0, none⟩) 3 3)) (by decide) (by decide) 1 (.int .i64 1)).set ((q10.set_ 0 (.slice (some ⟨qo, 0, none⟩) 3 3)).set_ 1 (.int .i64 1)) (by decide) (by decide) 2 (.slice Ay L1.length cy)
  have o11 := ((o10.far (p := ⟨w.heap.size, 0, none⟩) (by show qo ≠ w.heap.size; omega) (.slice (some ⟨qo, 0, none⟩) 3 3)).far (p := ⟨w.heap.size, 1, none⟩) (by show qo ≠ w.heap.size; omega) (.int .i64 1)).far (p := ⟨w.heap.size, 2, none⟩) (by show qo ≠ w.heap.size; omega) (.slice Ay L1.length cy)
  simp only [List.setIfInBounds_toArray, List.set_cons_zero, List.set_cons_succ] at q11
  have hb11 := ex_set (p := ⟨w.heap.size, 2, none⟩) (ex_set (p := ⟨w.heap.size, 1, none⟩) (ex_set (p := ⟨w.heap.size, 0, none⟩) hb10 (Nat.le_refl _) (.slice (some ⟨qo, 0, none⟩) 3 3)) (Nat.le_refl _) (.int .i64 1)) (Nat.le_refl _) (.slice Ay L1.length cy)
  have HL2 : Hid (L1.map (·.1) = (thrS (X.map (·.1))).baths) := Lib.hid (by rw [HL1.out, List.map_append]; rfl)
  clear HX0 g1 n1 o1 HB HX9 hA9 hbs q9 o9 r9 u9 hb9
  refine Paused.mk ?_
  go_wp2_with fail
  refine bodyPost_ret (results_cell_row rfl _ _ w.heap.size 34 #[.slice (some ⟨qo, 0, none⟩) 3 3, .int .i64 1, .slice Ay L1.length cy] (0, 0) _ rfl q11 rfl rfl rfl) rfl ?_
  refine ⟨?_, hb11⟩
  refine ⟨_, rfl, some ⟨qo, 0, none⟩, Ay, 3, cy, L1, ?_, .inr ⟨qo, _, rfl, Nat.zero_le _, o11, fun k j hk hj => ?_⟩, ?_, HL2.out⟩
  rotate_left
  · have hk : k < 3 := hk
    match k, hk, j, hj with
    | 0, _, 0, _ => rfl
    | 0, _, 1, _ => rfl
    | 1, _, 0, _ => rfl
    | 1, _, 1, _ => rfl
    | 2, _, 0, _ => rfl
    | 2, _, 1, _ => rfl
  · have hl : (thrS (X.map (·.1))).baths.length = L1.length := by rw [← HL2.out, List.length_map]
    rw [hl]; exact HB2
  · have hl : (thrS (X.map (·.1))).baths.length = L1.length := by rw [← HL2.out, List.length_map]
    rw [hl]; rfl
end Go.Proofs.Ytnplefhigbkbbaa
end

section
namespace Go.Proofs.Ytnplefhigbkbbaa
open Go.RowKit
attribute [local go_sem] Ex.cell? Ex.frozen?

theorem RowAt.set {W : World} {B sz n : Nat} {T T' : TypeId} {A : Option Addr} {f : Nat → Nat → Value} (h : RowAt W B T sz A n f) {b : Nat} {cs : Array Value} (hq : Blk W b T' cs) (ht : T ≠ T') (i : Nat) (u : Value) : RowAt (W.setCell ⟨b, i, none⟩ u) B T sz A n f := by
  rcases h with h3 | ⟨g, cur, e, k1, k2, k3⟩
  · exact .inl h3
  · exact .inr ⟨g, cur, e, k1, k2.fr (Fr.set (R := fun x => x = b) W b i u rfl) (blk_ne k2 hq ht), k3⟩
theorem SeV.below {s : Se} {v : Value} {W W' : World} (h : SeV s v W) (hb : Below W.heap.size W W') : SeV s v W' := by
  obtain ⟨Ao, Ab, co, cb, X, e, h1, h2, h3⟩ := h
  exact ⟨Ao, Ab, co, cb, X, e, h1.below hb, h2.below hb, h3⟩
theorem SeV.set {s : Se} {v : Value} {W : World} (h : SeV s v W) {b : Nat} {T : TypeId} {cs : Array Value} (hq : Blk W b T cs) (h1 : 41 ≠ T) (h2 : 116 ≠ T) (h3 : 118 ≠ T) (i : Nat) (u : Value) : SeV s v (W.setCell ⟨b, i, none⟩ u) := by
  obtain ⟨Ao, Ab, co, cb, X, e, k1, k2, k3⟩ := h
  exact ⟨Ao, Ab, co, cb, X, e, k1.set hq h1 i u, NOwn.set k2 hq h2 h3 i u, k3⟩
def b3 : Bt := ⟨⟨100, 300⟩, [⟨0, 150⟩, ⟨2, 160⟩]⟩
/-- a works told by a call: where it lies. -/
def WoV (w : Wo) (v : Value) (w' : World) : Prop := ∃ A c, v = .agg #[.slice A w.rng.length c, .int .i64 w.room, .int .i64 w.steps] ∧ RowAt w' 0 41 2 A w.rng.length (fR w.rng)
def yardW (room : Int) : Wo := ⟨[⟨0, 100⟩, ⟨50, 200⟩, ⟨150, 300⟩, ⟨90, 160⟩], room, 2⟩

set_option maxRecDepth 100000 in
set_option maxHeartbeats 6400000 in
theorem wrong_law (w : World) :
    Calls Try.prog 67 #[] w fun e w' => (∃ v, e = .returned v ∧ SeV (thrS [b3]) v w') ∧ Below w.heap.size w w' := by
  have hb1 := ex_alloc (Below.refl w.heap.size w) (.cells #[.slice none 0 0, .int .i64 0, .slice none 0 0] 34)
  have q1 : Blk (w.alloc (.cells #[.slice none 0 0, .int .i64 0, .slice none 0 0] 34)) w.heap.size 34 #[.slice none 0 0, .int .i64 0, .slice none 0 0] := Blk.new _ _ _
  have hb2 := ex_alloc hb1 (.cells #[.int .i64 0, .int .i64 150, .int .i64 2, .int .i64 160] 118)
  have q2 := q1.alloc (.cells #[.int .i64 0, .int .i64 150, .int .i64 2, .int .i64 160] 118)
  have r2 : Blk ((w.alloc (.cells #[.slice none 0 0, .int .i64 0, .slice none 0 0] 34)).alloc (.cells #[.int .i64 0, .int .i64 150, .int .i64 2, .int .i64 160] 118)) (w.heap.size + 1) 118 #[.int .i64 0, .int .i64 150, .int .i64 2, .int .i64 160] := Blk.new' _ _ _ (by simp)
  go_enter Try.func67, Try.ntmps67
  go_wp2_with fail
  generalize (w.alloc (.cells #[.slice none 0 0, .int .i64 0, .slice none 0 0] 34)).alloc (.cells #[.int .i64 0, .int .i64 150, .int .i64 2, .int .i64 160] 118) = V at *
  refine (dipped_law (some ⟨w.heap.size + 1, 0, none⟩) 2 2 V).mono ?_
  rintro e U ⟨rfl, hX⟩
  have hb3 := ex_trans hb2 hX
  have q3 := q2.below hX q2.lt
  have r3 := r2.below hX r2.lt
  clear hb1 q1 hb2 q2 r2 hX
  have hX := ex_alloc (Below.refl U.heap.size U) (.cells #[.int .i64 100, .int .i64 300, .slice (some ⟨w.heap.size + 1, 0, none⟩) 2 2] 116)
  have x4 : Blk (U.alloc (.cells #[.int .i64 100, .int .i64 300, .slice (some ⟨w.heap.size + 1, 0, none⟩) 2 2] 116)) U.heap.size 116 #[.int .i64 100, .int .i64 300, .slice (some ⟨w.heap.size + 1, 0, none⟩) 2 2] := Blk.new _ _ _
  have hb4 := ex_trans hb3 hX
  have q4 := q3.below hX q3.lt
  have r4 := r3.below hX r3.lt
  go_wp2_with fail
  generalize U.alloc (.cells #[.int .i64 100, .int .i64 300, .slice (some ⟨w.heap.size + 1, 0, none⟩) 2 2] 116) = U4 at *
  refine (three_law [(b3, some ⟨w.heap.size + 1, 0, none⟩, 2)] (some ⟨U.heap.size, 0, none⟩) 1 U4 (by simp) (fun _ => ⟨U.heap.size, 0, rfl, x4.lt, fun k j hk hj => ?_⟩) (fun x hx => ?_)).mono ?_
  · have hk : k < 1 := hk
    rw [x4.cell]
    match k, hk, j, hj with
    | 0, _, 0, _ => rfl
    | 0, _, 1, _ => rfl
    | 0, _, 2, _ => rfl
  · rw [List.mem_singleton.1 hx]
    exact .inr ⟨w.heap.size + 1, _, rfl, Nat.zero_le _, r4, fun k j hk hj => by
        match k, hk, j, hj with
        | 0, _, 0, _ => rfl
        | 0, _, 1, _ => rfl
        | 1, _, 0, _ => rfl
        | 1, _, 1, _ => rfl⟩
  rintro e Z ⟨⟨v, rfl, hv⟩, hX5⟩
  have hb5 := ex_trans hb4 hX5
  have q5 := q4.below hX5 q4.lt
  have hv' := hv
  obtain ⟨Ao, Ab, co, cb, rA, rc, rfl, _⟩ := hv'.se
  have a0 : Z.cell? ⟨w.heap.size, 0, none⟩ = some (.slice none 0 0) := q5.cell 0
  have a1 : Z.cell? ⟨w.heap.size, 1, none⟩ = some (.int .i64 0) := q5.cell 1
  have a2 : Z.cell? ⟨w.heap.size, 2, none⟩ = some (.slice none 0 0) := q5.cell 2
  have l5 := q5.lt
  have f5 := q5.frozen0
  obtain ⟨v0, hv0⟩ : ∃ v0, Value.slice Ao (thrS [b3]).offs.length co = v0 := ⟨_, rfl⟩
  obtain ⟨v1, hv1⟩ : ∃ v1, Value.int .i64 (thrS [b3]).err = v1 := ⟨_, rfl⟩
  obtain ⟨v2, hv2⟩ : ∃ v2, Value.slice Ab (thrS [b3]).baths.length cb = v2 := ⟨_, rfl⟩
  have q6 := ((q5.set_ 0 (.slice Ao (thrS [b3]).offs.length co)).set_ 1 (.int .i64 (thrS [b3]).err)).set_ 2 (.slice Ab (thrS [b3]).baths.length cb)
  have HV := ((hv.set q5 (by decide) (by decide) (by decide) 0 (.slice Ao (thrS [b3]).offs.length co)).set (q5.set_ 0 (.slice Ao (thrS [b3]).offs.length co)) (by decide) (by decide) (by decide) 1 (.int .i64 (thrS [b3]).err)).set ((q5.set_ 0 (.slice Ao (thrS [b3]).offs.length co)).set_ 1 (.int .i64 (thrS [b3]).err)) (by decide) (by decide) (by decide) 2 (.slice Ab (thrS [b3]).baths.length cb)
  simp only [List.setIfInBounds_toArray, List.set_cons_zero, List.set_cons_succ] at q6
  have hb6 := ex_set (p := ⟨w.heap.size, 2, none⟩) (ex_set (p := ⟨w.heap.size, 1, none⟩) (ex_set (p := ⟨w.heap.size, 0, none⟩) hb5 (Nat.le_refl _) (.slice Ao (thrS [b3]).offs.length co)) (Nat.le_refl _) (.int .i64 (thrS [b3]).err)) (Nat.le_refl _) (.slice Ab (thrS [b3]).baths.length cb)
  clear hv hv0 hv1 hv2 v0 v1 v2
  go_wp2_with fail
  refine bodyPost_ret (results_cell_row rfl _ _ w.heap.size 34 #[.slice Ao (thrS [b3]).offs.length co, .int .i64 (thrS [b3]).err, .slice Ab (thrS [b3]).baths.length cb] (0, 0) _ rfl q6 rfl rfl rfl) rfl ?_
  exact ⟨⟨_, rfl, HV⟩, hb6⟩

set_option maxRecDepth 100000 in
set_option maxHeartbeats 6400000 in
theorem yard_law (room : Int) (w : World) :
    Calls Try.prog 66 #[.int .i64 room] w fun e w' => (∃ v, e = .returned v ∧ WoV (yardW room) v w') ∧ Below w.heap.size w w' := by
  have hb1 := ex_alloc (Below.refl w.heap.size w) (.cells #[.slice none 0 0, .int .i64 0, .int .i64 0] 65)
  have q1 : Blk (w.alloc (.cells #[.slice none 0 0, .int .i64 0, .int .i64 0] 65)) w.heap.size 65 #[.slice none 0 0, .int .i64 0, .int .i64 0] := Blk.new _ _ _
  go_enter Try.func66, Try.ntmps66
  go_wp2_with fail
  generalize w.alloc (.cells #[.slice none 0 0, .int .i64 0, .int .i64 0] 65) = V at *
  refine (between_law 0 100 V).mono ?_
  rintro e V0 ⟨rfl, h0⟩
  replace hb1 := ex_trans hb1 h0
  replace q1 := q1.below h0 q1.lt
  clear h0
  go_wp2_with fail
  refine (between_law 50 200 V0).mono ?_
  rintro e V1 ⟨rfl, h1⟩
  replace hb1 := ex_trans hb1 h1
  replace q1 := q1.below h1 q1.lt
  clear h1
  go_wp2_with fail
  refine (between_law 150 300 V1).mono ?_
  rintro e V2 ⟨rfl, h2⟩
  replace hb1 := ex_trans hb1 h2
  replace q1 := q1.below h2 q1.lt
  clear h2
  go_wp2_with fail
  refine (between_law 90 160 V2).mono ?_
  rintro e V3 ⟨rfl, h3⟩
  replace hb1 := ex_trans hb1 h3
  replace q1 := q1.below h3 q1.lt
  clear h3
  have hne : V3.heap.size ≠ w.heap.size := by have := q1.lt; omega
  have a0 : V3.cell? ⟨w.heap.size, 0, none⟩ = some (.slice none 0 0) := q1.cell 0
  have a1 : V3.cell? ⟨w.heap.size, 1, none⟩ = some (.int .i64 0) := q1.cell 1
  have a2 : V3.cell? ⟨w.heap.size, 2, none⟩ = some (.int .i64 0) := q1.cell 2
  have l1 := q1.lt
  have f1 := q1.frozen0
  have q2 := ((q1.set_ 0 (.slice (some ⟨V3.heap.size, 0, none⟩) 4 4)).set_ 1 (.int .i64 room)).set_ 2 (.int .i64 2)
  simp only [List.setIfInBounds_toArray, List.set_cons_zero, List.set_cons_succ] at q2
  have hb2 := ex_set (p := ⟨w.heap.size, 2, none⟩) (ex_set (p := ⟨w.heap.size, 1, none⟩) (ex_set (p := ⟨w.heap.size, 0, none⟩) hb1 (Nat.le_refl _) (.slice (some ⟨V3.heap.size, 0, none⟩) 4 4)) (Nat.le_refl _) (.int .i64 room)) (Nat.le_refl _) (.int .i64 2)
  have q3 := q2.alloc (.cells #[.int .i64 0, .int .i64 100, .int .i64 50, .int .i64 200, .int .i64 150, .int .i64 300, .int .i64 90, .int .i64 160] 41)
  have hb3 := ex_alloc hb2 (.cells #[.int .i64 0, .int .i64 100, .int .i64 50, .int .i64 200, .int .i64 150, .int .i64 300, .int .i64 90, .int .i64 160] 41)
  have y3 : Blk ((((V3.setCell ⟨w.heap.size, 0, none⟩ (.slice (some ⟨V3.heap.size, 0, none⟩) 4 4)).setCell ⟨w.heap.size, 1, none⟩ (.int .i64 room)).setCell ⟨w.heap.size, 2, none⟩ (.int .i64 2)).alloc (.cells #[.int .i64 0, .int .i64 100, .int .i64 50, .int .i64 200, .int .i64 150, .int .i64 300, .int .i64 90, .int .i64 160] 41)) V3.heap.size 41 #[.int .i64 0, .int .i64 100, .int .i64 50, .int .i64 200, .int .i64 150, .int .i64 300, .int .i64 90, .int .i64 160] := Blk.new' _ _ _ (by simp)
  go_wp2_with fail
  refine bodyPost_ret (results_cell_row rfl _ _ w.heap.size 65 #[.slice (some ⟨V3.heap.size, 0, none⟩) 4 4, .int .i64 room, .int .i64 2] (0, 0) _ rfl q3 rfl rfl rfl) rfl ?_
  refine ⟨⟨_, rfl, some ⟨V3.heap.size, 0, none⟩, 4, rfl, .inr ⟨V3.heap.size, _, rfl, Nat.zero_le _, y3, fun k j hk hj => ?_⟩⟩, hb3⟩
  have hk : k < 4 := hk
  match k, hk, j, hj with
  | 0, _, 0, _ => rfl
  | 0, _, 1, _ => rfl
  | 1, _, 0, _ => rfl
  | 1, _, 1, _ => rfl
  | 2, _, 0, _ => rfl
  | 2, _, 1, _ => rfl
  | 3, _, 0, _ => rfl
  | 3, _, 1, _ => rfl
end Go.Proofs.Ytnplefhigbkbbaa
end

section
namespace Go.Proofs.Ytnplefhigbkbbaa
open Go.RowKit
attribute [local go_sem] Ex.cell? Ex.frozen?

set_option maxHeartbeats 800000 in
theorem ints_any (A B : Option Addr) (c d : Nat) (l m : List Int) (w : World) (hl : l.length ≤ 1000000) (hA : SlAt w w.heap.size 1 A l.length (fI l)) (hB : SlAt w w.heap.size 1 B m.length (fI m)) (hm : m.length ≤ 1000000) :
    Calls Try.prog 37 #[.slice A l.length c, .slice B m.length d] w fun e w' => e = .returned (.bool (intsB l m)) ∧ Below w.heap.size w w' := by
  by_cases hlm : l.length = m.length
  · have HLM := Lib.hid hlm
    have e1 : ((l.length : Int) != (m.length : Int)) = false := by simp [hlm]
    have e2 : (l.length != m.length) = false := by simp [hlm]
    have hlm1 : l.length ≤ m.length := by omega
    clear hlm
    go_enter Try.func37, Try.ntmps37
    go_wp2_with fail
    go_loopw [5] (fun i wr => ∃ k : Nat, k ≤ l.length ∧ i = .int .i64 k ∧ (∀ j, j < k → gI l j = gI m j) ∧ Below w.heap.size w wr)
      (fun i _ => l.length - (intOf i).toNat)
    case atStart => exact ⟨0, by omega, rfl, fun j hj => by omega, Below.refl _ _⟩
    case round =>
      obtain ⟨k, hk, rfl, hag, hbl⟩ := hrel
      have HAG := Lib.hid hag
      clear hag
      by_cases hlt : k < l.length
      · obtain ⟨b, off, rfl, hb, hc⟩ := IsInts.at_ (hA.below hbl) hlt
        obtain ⟨b2, off2, rfl, hb2, hc2⟩ := IsInts.at_ (hB.below hbl) (show k < m.length by omega)
        have hkm : k < m.length := by omega
        by_cases hx : gI l k = gI m k
        · have HX := Lib.hid hx
          have e3 : (gI l k != gI m k) = false := by simp [hx]
          clear hx
          go_wp2_with fail
          go_quiet (fail)
          go_wp2
          go_roundw
          case rel => exact ⟨k + 1, by omega, by go_num, fun j hj => by rcases Nat.lt_succ_iff_lt_or_eq.1 hj with h | h; exact HAG.out j h; rw [h]; exact HX.out, ex_drewN hbl _⟩
          case measure => simp [intOf]; omega
        · have HX := Lib.hid hx
          have e3 : (gI l k != gI m k) = true := by simp [hx]
          clear hx
          go_wp2_with fail
          go_quiet (fail)
          go_wp2
          go_ret
          exact ⟨by rw [intsB_at HX.out]; rfl, ex_drewN hbl _⟩
      · have HK : Hid (k = l.length) := Lib.hid (by omega)
        go_wp2
        go_ret
        exact ⟨by rw [intsB_all HLM.out (fun j hj => HAG.out j (by rw [HK.out]; exact hj))]; rfl, hbl⟩
  · have HLM := Lib.hid hlm
    have e1 : ((l.length : Int) != (m.length : Int)) = true := by rw [bne_iff_ne]; omega
    have e2 : (l.length != m.length) = true := by rw [bne_iff_ne]; omega
    clear hlm
    go_enter Try.func37, Try.ntmps37
    go_wp2
    go_ret
    exact ⟨by rw [intsB_len HLM.out]; rfl, Below.refl _ _⟩

def gPl (l : List (Nat × Nat)) (k : Nat) : Nat × Nat := l.getD k (0, 0)
def placesB (l m : List (Nat × Nat)) : Bool := decide (l = m)
theorem placesB_len {l m : List (Nat × Nat)} (h : l.length ≠ m.length) : placesB l m = false := decide_eq_false (fun e => h (by rw [e]))
theorem placesB_at {l m : List (Nat × Nat)} {k : Nat} (h : gPl l k ≠ gPl m k) : placesB l m = false := decide_eq_false (fun e => h (by rw [e]))
theorem placesB_all {l m : List (Nat × Nat)} (hl : l.length = m.length) (h : ∀ k, k < l.length → gPl l k = gPl m k) : placesB l m = true := by
  refine decide_eq_true (List.ext_getElem hl (fun i h1 h2 => ?_))
  have := h i h1
  simpa [gPl, h1, h2] using this
theorem IsPls.at_ {w : World} {B n : Nat} {A : Option Addr} {l : List (Nat × Nat)} (h : SlAt w B 2 A n (fPl l)) {k : Nat} (hk : k < n) :
    ∃ b off, A = some ⟨b, off, none⟩ ∧ b < B ∧ w.cell? ⟨b, off + k * 2, none⟩ = some (.int .i64 ((gPl l k).1 : Int)) ∧ w.cell? ⟨b, off + k * 2 + 1, none⟩ = some (.int .i64 ((gPl l k).2 : Int)) := by
  obtain ⟨b, off, e, hb, hc⟩ := h (by omega)
  exact ⟨b, off, e, hb, by have := hc k 0 hk (by omega); simpa [fPl, gPl] using this, by have := hc k 1 hk (by omega); simpa [fPl, gPl, Nat.add_assoc] using this⟩

set_option maxRecDepth 100000 in
set_option maxHeartbeats 3200000 in
theorem places_any (A B : Option Addr) (c d : Nat) (l m : List (Nat × Nat)) (w : World) (hl : l.length ≤ 1000000) (hA : SlAt w w.heap.size 2 A l.length (fPl l)) (hB : SlAt w w.heap.size 2 B m.length (fPl m)) (hm : m.length ≤ 1000000) :
    Calls Try.prog 35 #[.slice A l.length c, .slice B m.length d] w fun e w' => e = .returned (.bool (placesB l m)) ∧ Below w.heap.size w w' := by
  by_cases hlm : l.length = m.length
  · have HLM := Lib.hid hlm
    have e1 : ((l.length : Int) != (m.length : Int)) = false := by simp [hlm]
    have e2 : (l.length != m.length) = false := by simp [hlm]
    have hlm1 : l.length ≤ m.length := by omega
    clear hlm
    go_enter Try.func35, Try.ntmps35
    go_wp2_with fail
    go_loopw [5] (fun i wr => ∃ k : Nat, k ≤ l.length ∧ i = .int .i64 k ∧ (∀ j, j < k → gPl l j = gPl m j) ∧ Below w.heap.size w wr)
      (fun i _ => l.length - (intOf i).toNat)
    case atStart => exact ⟨0, by omega, rfl, fun j hj => by omega, Below.refl _ _⟩
    case round =>
      obtain ⟨k, hk, rfl, hag, hbl⟩ := hrel
      have HAG := Lib.hid hag
      clear hag
      by_cases hlt : k < l.length
      · obtain ⟨b, off, rfl, hb, hc, hc'⟩ := IsPls.at_ (hA.below hbl) hlt
        obtain ⟨b2, off2, rfl, hb2, hc2, hc2'⟩ := IsPls.at_ (hB.below hbl) (show k < m.length by omega)
        have hkm : k < m.length := by omega
        have HNE : Hid (gPl l k ≠ gPl m k → placesB l m = false) := Lib.hid placesB_at
        have HEQ : Hid (∀ p q, gPl l k = p → gPl m k = q → p = q → gPl l k = gPl m k) := Lib.hid (fun p q h1 h2 h3 => by rw [h1, h2, h3])
        obtain ⟨p, hp⟩ : ∃ p, gPl l k = p := ⟨_, rfl⟩
        obtain ⟨q, hq⟩ : ∃ q, gPl m k = q := ⟨_, rfl⟩
        have HP := Lib.hid hp
        have HQ := Lib.hid hq
        rw [hp] at hc hc'
        rw [hq] at hc2 hc2'
        clear hp hq
        obtain ⟨p1, p2⟩ := p
        obtain ⟨q1, q2⟩ := q
        simp only at hc hc' hc2 hc2'
        by_cases hx : p1 = q1
        · by_cases hy : p2 = q2
          · have HX : Hid (gPl l k = gPl m k) := Lib.hid (by rw [HP.out, HQ.out, hx, hy])
            have e3 : (p1 != q1) = false := by simp [hx]
            have e3' : ((p1 : Int) != (q1 : Int)) = false := by simp [hx]
            have e4 : (p2 != q2) = false := by simp [hy]
            have e4' : ((p2 : Int) != (q2 : Int)) = false := by simp [hy]
            clear hx hy
            go_wp2_with fail
            go_quiet (fail)
            go_wp2
            go_roundw
            case rel => exact ⟨k + 1, by omega, by go_num, fun j hj => by rcases Nat.lt_succ_iff_lt_or_eq.1 hj with h | h; exact HAG.out j h; rw [h]; exact HX.out, ex_drewN hbl _⟩
            case measure => simp [intOf]; omega
          · have HX : Hid (placesB l m = false) := Lib.hid (HNE.out (by rw [HP.out, HQ.out]; intro e; injection e with _ e; exact hy e))
            have e3 : (p1 != q1) = false := by simp [hx]
            have e3' : ((p1 : Int) != (q1 : Int)) = false := by simp [hx]
            have e4 : (p2 != q2) = true := by simp [hy]
            have e4' : ((p2 : Int) != (q2 : Int)) = true := by rw [bne_iff_ne]; omega
            clear hx hy
            go_wp2_with fail
            go_quiet (fail)
            go_wp2
            go_ret
            exact ⟨by rw [HX.out]; rfl, ex_drewN hbl _⟩
        · have HX : Hid (placesB l m = false) := Lib.hid (HNE.out (by rw [HP.out, HQ.out]; intro e; injection e with e _; exact hx e))
          have e3 : (p1 != q1) = true := by simp [hx]
          have e3' : ((p1 : Int) != (q1 : Int)) = true := by rw [bne_iff_ne]; omega
          clear hx
          go_wp2_with fail
          go_quiet (fail)
          go_wp2
          go_ret
          exact ⟨by rw [HX.out]; rfl, ex_drewN hbl _⟩
      · have HK : Hid (k = l.length) := Lib.hid (by omega)
        go_wp2
        go_ret
        exact ⟨by rw [placesB_all HLM.out (fun j hj => HAG.out j (by rw [HK.out]; exact hj))]; rfl, hbl⟩
  · have HLM := Lib.hid hlm
    have e1 : ((l.length : Int) != (m.length : Int)) = true := by rw [bne_iff_ne]; omega
    have e2 : (l.length != m.length) = true := by rw [bne_iff_ne]; omega
    clear hlm
    go_enter Try.func35, Try.ntmps35
    go_wp2
    go_ret
    exact ⟨by rw [placesB_len HLM.out]; rfl, Below.refl _ _⟩

set_option maxRecDepth 100000 in
theorem to_law (lo hi : Int) (w : World) :
    Calls Try.prog 29 #[.agg #[.int .i64 lo, .int .i64 hi]] w fun e w' => e = .returned (.agg #[.int .i64 lo, .int .i64 hi]) ∧ Below w.heap.size w w' := by
  go_enter Try.func29, Try.ntmps29
  go_wp2_with fail
  refine bodyPost_ret (results_cell_row rfl _ _ (w.heap.size + 1) 41 #[.int .i64 lo, .int .i64 hi] (0, 0) _ rfl (Blk.new' _ _ _ (by simp)) rfl rfl rfl) rfl ?_
  exact ⟨rfl, ex_alloc (ex_alloc (Below.refl _ _) _) _⟩
end Go.Proofs.Ytnplefhigbkbbaa
end

section
namespace Go.Proofs.Ytnplefhigbkbbaa

theorem thr_can {more : List Bt} (h : Can (thrS more)) : Can (thrS more) := h
section
variable {o h : Nat → Int}
/-- what a truth of the examples' series keeps to. -/
theorem thr_tru (ht : Tru (thrS []) (fun _ => false) o h) : o 0 = 0 ∧ (-9 ≤ o 1 ∧ o 1 ≤ 9) ∧ (-9 ≤ o 2 ∧ o 2 ≤ 9) ∧ (199 ≤ h 0 + o 0 ∧ h 0 + o 0 ≤ 201) ∧ (202 ≤ h 0 + o 1 ∧ h 0 + o 1 ≤ 204) ∧ (251 ≤ h 1 + o 1 ∧ h 1 + o 1 ≤ 253) ∧ (249 ≤ h 1 + o 2 ∧ h 1 + o 2 ≤ 251) := by
  have a0 : (0 : Int) ≤ o 0 ∧ o 0 ≤ 0 := ht.offs 0 (by decide)
  have a1 : (-9 : Int) ≤ o 1 ∧ o 1 ≤ 9 := ht.offs 1 (by decide)
  have a2 : (-9 : Int) ≤ o 2 ∧ o 2 ≤ 9 := ht.offs 2 (by decide)
  have r0 : (199 : Int) ≤ h 0 + o 0 ∧ h 0 + o 0 ≤ 201 := ht.reads 0 (by decide) rfl
  have r1 : (202 : Int) ≤ h 0 + o 1 ∧ h 0 + o 1 ≤ 204 := ht.reads 1 (by decide) rfl
  have r2 : (251 : Int) ≤ h 1 + o 1 ∧ h 1 + o 1 ≤ 253 := ht.reads 2 (by decide) rfl
  have r3 : (249 : Int) ≤ h 1 + o 2 ∧ h 1 + o 2 ≤ 251 := ht.reads 3 (by decide) rfl
  exact ⟨by omega, a1, a2, r0, r1, r2, r3⟩
/-- numbers by their places. -/
def fn (l : List Int) : Nat → Int := fun k => gI l k
theorem thr_mk {a b c d : Int} (h1 : -9 ≤ a ∧ a ≤ 9) (h2 : -9 ≤ b ∧ b ≤ 9) (h3 : 199 ≤ c ∧ c ≤ 201) (h4 : 202 ≤ c + a ∧ c + a ≤ 204) (h5 : 251 ≤ d + a ∧ d + a ≤ 253) (h6 : 249 ≤ d + b ∧ d + b ≤ 251) : Tru (thrS []) (fun _ => false) (fn [0, a, b]) (fn [c, d]) where
  offs := fun n hn => by
    have hn : n < 3 := hn
    match n, hn with
    | 0, _ => show (0 : Int) ≤ 0 ∧ (0 : Int) ≤ 0; omega
    | 1, _ => exact h1
    | 2, _ => exact h2
  heats := fun n hn => by
    have hn : n < 2 := hn
    match n, hn with
    | 0, _ => show (100 : Int) ≤ c ∧ c ≤ 300; omega
    | 1, _ => show (100 : Int) ≤ d ∧ d ≤ 300; omega
  reads := fun i hi _ => by
    have hi : i < 4 := hi
    match i, hi with
    | 0, _ => show (200 : Int) - 1 ≤ c + 0 ∧ c + 0 ≤ 200 + 1; omega
    | 1, _ => show (203 : Int) - 1 ≤ c + a ∧ c + a ≤ 203 + 1; omega
    | 2, _ => show (252 : Int) - 1 ≤ d + a ∧ d + a ≤ 252 + 1; omega
    | 3, _ => show (250 : Int) - 1 ≤ d + b ∧ d + b ≤ 250 + 1; omega
end
theorem thr_ok : ckSe (thrS []) = 0 := by decide
theorem thr_is : Can (thrS []) := ⟨_, _, thr_mk (a := 3) (b := 1) (c := 200) (d := 249) (by omega) (by omega) (by omega) (by omega) (by omega) (by omega)⟩
theorem thr_off1 : EndsOf (OffZ (thrS []) 1) 1 5 := by
  refine ⟨⟨_, _, thr_mk (a := 1) (b := -1) (c := 201) (d := 251) (by omega) (by omega) (by omega) (by omega) (by omega) (by omega), rfl⟩, ⟨_, _, thr_mk (a := 5) (b := 3) (c := 199) (d := 247) (by omega) (by omega) (by omega) (by omega) (by omega) (by omega), rfl⟩, ?_⟩
  rintro z ⟨o, h, ht, rfl⟩
  have := thr_tru ht
  omega
theorem thr_off2 : EndsOf (OffZ (thrS []) 2) (-3) 5 := by
  refine ⟨⟨_, _, thr_mk (a := 1) (b := -3) (c := 201) (d := 252) (by omega) (by omega) (by omega) (by omega) (by omega) (by omega), rfl⟩, ⟨_, _, thr_mk (a := 5) (b := 5) (c := 199) (d := 246) (by omega) (by omega) (by omega) (by omega) (by omega) (by omega), rfl⟩, ?_⟩
  rintro z ⟨o, h, ht, rfl⟩
  have := thr_tru ht
  omega
theorem thr_heat1 : EndsOf (HeatZ (thrS []) 1) 246 252 := by
  refine ⟨⟨_, _, thr_mk (a := 5) (b := 5) (c := 199) (d := 246) (by omega) (by omega) (by omega) (by omega) (by omega) (by omega), rfl⟩, ⟨_, _, thr_mk (a := 1) (b := -3) (c := 201) (d := 252) (by omega) (by omega) (by omega) (by omega) (by omega) (by omega), rfl⟩, ?_⟩
  rintro z ⟨o, h, ht, rfl⟩
  have := thr_tru ht
  omega
theorem thr_diff21 : EndsOf (DiffZ (thrS []) 2 1) (-4) 0 := by
  refine ⟨⟨_, _, thr_mk (a := 3) (b := -1) (c := 200) (d := 250) (by omega) (by omega) (by omega) (by omega) (by omega) (by omega), rfl⟩, ⟨_, _, thr_mk (a := 3) (b := 3) (c := 200) (d := 248) (by omega) (by omega) (by omega) (by omega) (by omega) (by omega), rfl⟩, ?_⟩
  rintro z ⟨o, h, ht, rfl⟩
  have := thr_tru ht
  omega
/-- what the calls tell of the examples' series. -/
theorem thr_offs {l : List Rg} {ev : Int} (h : RngV (thrS []) 3 (OffZ (thrS [])) l ev) : ev = 0 ∧ l.length = 3 ∧ gR l 1 = ⟨1, 5⟩ ∧ gR l 2 = ⟨-3, 5⟩ := by
  rcases h with ⟨h1, _⟩ | ⟨_, h1, _⟩ | ⟨_, _, h1, h2, h3⟩
  · exact absurd thr_ok h1
  · exact absurd thr_is h1
  · have e1 := (h3 1 (by omega)).uniq thr_off1
    have e2 := (h3 2 (by omega)).uniq thr_off2
    refine ⟨h1, h2, ?_, ?_⟩
    · rw [← e1.1, ← e1.2]
    · rw [← e2.1, ← e2.2]
theorem thr_heats {l : List Rg} {ev : Int} (h : RngV (thrS []) 2 (HeatZ (thrS [])) l ev) : ev = 0 ∧ l.length = 2 ∧ gR l 1 = ⟨246, 252⟩ := by
  rcases h with ⟨h1, _⟩ | ⟨_, h1, _⟩ | ⟨_, _, h1, h2, h3⟩
  · exact absurd thr_ok h1
  · exact absurd thr_is h1
  · have e1 := (h3 1 (by omega)).uniq thr_heat1
    refine ⟨h1, h2, ?_⟩
    rw [← e1.1, ← e1.2]
theorem thr_diff {lo hi ev : Int} (h : DiffV (thrS []) 2 1 lo hi ev) : ev = 0 ∧ lo = -4 ∧ hi = 0 := by
  rcases h with ⟨h1, _⟩ | ⟨_, h1, _⟩ | ⟨_, _, _, h1, _⟩ | ⟨_, _, _, _, h1, h2⟩
  · exact absurd thr_ok h1
  · have : (inB 2 0 (((thrS []).offs.length : Int) - 1) && inB 1 0 (((thrS []).offs.length : Int) - 1)) = true := by decide
    rw [this] at h1; cases h1
  · exact absurd thr_is h1
  · have e := EndsOf.uniq (Z := DiffZ (thrS []) 2 1) h2 thr_diff21
    exact ⟨h1, e.1, e.2⟩

/-- the series that contradicts itself. -/
theorem wrg_mk {out : Nat → Bool} {a b c d e : Int} (h1 : -9 ≤ a ∧ a ≤ 9) (h2 : -9 ≤ b ∧ b ≤ 9) (hc : 100 ≤ c ∧ c ≤ 300) (hd : 100 ≤ d ∧ d ≤ 300) (he : 100 ≤ e ∧ e ≤ 300) (r0 : out 0 = false → 199 ≤ c ∧ c ≤ 201) (r1 : out 1 = false → 202 ≤ c + a ∧ c + a ≤ 204) (r2 : out 2 = false → 251 ≤ d + a ∧ d + a ≤ 253) (r3 : out 3 = false → 249 ≤ d + b ∧ d + b ≤ 251)
    (r4 : out 4 = false → 149 ≤ e ∧ e ≤ 151) (r5 : out 5 = false → 159 ≤ e + b ∧ e + b ≤ 161) : Tru (thrS [b3]) out (fn [0, a, b]) (fn [c, d, e]) where
  offs := fun n hn => by
    have hn : n < 3 := hn
    match n, hn with
    | 0, _ => show (0 : Int) ≤ 0 ∧ (0 : Int) ≤ 0; omega
    | 1, _ => exact h1
    | 2, _ => exact h2
  heats := fun n hn => by
    have hn : n < 3 := hn
    match n, hn with
    | 0, _ => exact hc
    | 1, _ => exact hd
    | 2, _ => exact he
  reads := fun i hi ho => by
    have hi : i < 6 := hi
    match i, hi with
    | 0, _ => have := r0 ho; show (200 : Int) - 1 ≤ c + 0 ∧ c + 0 ≤ 200 + 1; omega
    | 1, _ => have := r1 ho; show (203 : Int) - 1 ≤ c + a ∧ c + a ≤ 203 + 1; omega
    | 2, _ => have := r2 ho; show (252 : Int) - 1 ≤ d + a ∧ d + a ≤ 252 + 1; omega
    | 3, _ => have := r3 ho; show (250 : Int) - 1 ≤ d + b ∧ d + b ≤ 250 + 1; omega
    | 4, _ => have := r4 ho; show (150 : Int) - 1 ≤ e + 0 ∧ e + 0 ≤ 150 + 1; omega
    | 5, _ => have := r5 ho; show (160 : Int) - 1 ≤ e + b ∧ e + b ≤ 160 + 1; omega
theorem wrg_ok : ckSe (thrS [b3]) = 0 := by decide
theorem wrg_not {out : Nat → Bool} (ho : ∀ i, i < 6 → out i = false) : ¬ ∃ o h, Tru (thrS [b3]) out o h := by
  rintro ⟨o, h, ht⟩
  have a0 : (0 : Int) ≤ o 0 ∧ o 0 ≤ 0 := ht.offs 0 (by decide)
  have r0 : (199 : Int) ≤ h 0 + o 0 ∧ h 0 + o 0 ≤ 201 := ht.reads 0 (by decide) (ho 0 (by omega))
  have r1 : (202 : Int) ≤ h 0 + o 1 ∧ h 0 + o 1 ≤ 204 := ht.reads 1 (by decide) (ho 1 (by omega))
  have r2 : (251 : Int) ≤ h 1 + o 1 ∧ h 1 + o 1 ≤ 253 := ht.reads 2 (by decide) (ho 2 (by omega))
  have r3 : (249 : Int) ≤ h 1 + o 2 ∧ h 1 + o 2 ≤ 251 := ht.reads 3 (by decide) (ho 3 (by omega))
  have r4 : (149 : Int) ≤ h 2 + o 0 ∧ h 2 + o 0 ≤ 151 := ht.reads 4 (by decide) (ho 4 (by omega))
  have r5 : (159 : Int) ≤ h 2 + o 2 ∧ h 2 + o 2 ≤ 161 := ht.reads 5 (by decide) (ho 5 (by omega))
  omega
theorem wrg_clash : ¬ Can (thrS [b3]) := wrg_not fun _ _ => rfl
theorem fits_mk {s : Se} {b : Nat} {o h : Nat → Int} (ht : Tru s (fun i => b.testBit i) o h) : Fits s b := fun hc => hc ⟨o, h, ht⟩
theorem wrg_f0 : Fits (thrS [b3]) 1 := fits_mk (wrg_mk (a := 9) (b := 9) (c := 194) (d := 242) (e := 151) (by omega) (by omega) (by omega) (by omega) (by omega) (fun h => by exact absurd h (by decide)) (fun _ => by omega) (fun _ => by omega) (fun _ => by omega) (fun _ => by omega) (fun _ => by omega))
theorem wrg_fewest : FewestIs (thrS [b3]) [(0, 0)] := by
  refine ⟨1, rfl, wrg_f0, fun S hS => ?_⟩
  have h1 : cardS (thrS [b3]) 1 = 1 := by decide
  rw [h1]
  have hpos : 1 ≤ cardS (thrS [b3]) S := by
    rcases Nat.eq_zero_or_pos (cardS (thrS [b3]) S) with h0 | h0
    · have hs : SubB 6 S 0 := SubB.back (n := 6) (b := 0) (c := S) sub_zero (by
        show cardB S 6 ≤ cardB 0 6
        have : cardB S 6 = 0 := h0
        omega)
      refine absurd hS (fun hf => hf (wrg_not fun i hi => ?_))
      cases hb : S.testBit i
      · rfl
      · have := hs i hi hb
        simp at this
    · exact h0
  refine ⟨hpos, fun he => ?_⟩
  have hl : (plOf (thrS [b3]) S).length = 1 := by
    unfold plOf
    rw [List.length_map, idxB_len]
    exact he
  match hp : plOf (thrS [b3]) S, hl with
  | [p], _ =>
    obtain ⟨p1, p2⟩ := p
    unfold leP
    rw [ltP]
    split
    · rfl
    · unfold pltB
      rw [decide_eq_false_iff_not]
      simp
theorem wrg_alone : IncL (fun n => Fits (thrS [b3]) (ofB (thrS [b3]) n (placeL (thrS [b3])).length)) 3 [0, 1, 2] := by
  refine .inl ⟨?_, [0, 1], rfl, .inl ⟨?_, [0], rfl, .inl ⟨?_, [], rfl, rfl⟩⟩⟩
  · have e : ofB (thrS [b3]) 2 (placeL (thrS [b3])).length = 40 := by decide
    show Fits _ (ofB (thrS [b3]) 2 (placeL (thrS [b3])).length)
    rw [e]
    exact fits_mk (wrg_mk (a := 3) (b := 0) (c := 200) (d := 249) (e := 150) (by omega) (by omega) (by omega) (by omega) (by omega) (fun _ => by omega) (fun _ => by omega) (fun _ => by omega) (fun h => absurd h (by decide)) (fun _ => by omega) (fun h => absurd h (by decide)))
  · have e : ofB (thrS [b3]) 1 (placeL (thrS [b3])).length = 6 := by decide
    show Fits _ (ofB (thrS [b3]) 1 (placeL (thrS [b3])).length)
    rw [e]
    exact fits_mk (wrg_mk (a := 3) (b := 9) (c := 200) (d := 241) (e := 151) (by omega) (by omega) (by omega) (by omega) (by omega) (fun _ => by omega) (fun h => absurd h (by decide)) (fun h => absurd h (by decide)) (fun _ => by omega) (fun _ => by omega) (fun _ => by omega))
  · have e : ofB (thrS [b3]) 0 (placeL (thrS [b3])).length = 17 := by decide
    show Fits _ (ofB (thrS [b3]) 0 (placeL (thrS [b3])).length)
    rw [e]
    exact fits_mk (wrg_mk (a := 5) (b := 3) (c := 198) (d := 247) (e := 157) (by omega) (by omega) (by omega) (by omega) (by omega) (fun h => absurd h (by decide)) (fun _ => by omega) (fun _ => by omega) (fun _ => by omega) (fun h => absurd h (by decide)) (fun _ => by omega))
theorem wrg_blame {r : List (Nat × Nat)} {al : List Nat} {ev : Int} (h : BlameV (thrS [b3]) r al ev) : ev = 0 ∧ r = [(0, 0)] ∧ al = [0, 1, 2] := by
  rcases h with ⟨h1, _⟩ | ⟨_, h1, _⟩ | ⟨_, _, h1, h2, h3⟩
  · exact absurd wrg_ok h1
  · exact absurd h1 wrg_clash
  · exact ⟨h1, h2.uniq wrg_fewest, h3.uniq wrg_alone⟩

theorem yard_ok {room : Int} (h : 2 ≤ room ∧ room ≤ 6) : ckWo (yardW room) = 0 := woOk_iff.2 ⟨by show 0 < 4 ∧ 4 ≤ 6; omega, fun k hk => by
    have hk : k < 4 := hk
    match k, hk with
    | 0, _ => show (0 : Int) ≤ 0 ∧ (0 : Int) ≤ 100 ∧ (100 : Int) ≤ 1000; omega
    | 1, _ => show (0 : Int) ≤ 50 ∧ (50 : Int) ≤ 200 ∧ (200 : Int) ≤ 1000; omega
    | 2, _ => show (0 : Int) ≤ 150 ∧ (150 : Int) ≤ 300 ∧ (300 : Int) ≤ 1000; omega
    | 3, _ => show (0 : Int) ≤ 90 ∧ (90 : Int) ≤ 160 ∧ (160 : Int) ≤ 1000; omega, h, by show (1 : Int) ≤ 2 ∧ (2 : Int) ≤ 4; omega⟩
theorem yard_path : Path [⟨50, [0, 1]⟩, ⟨150, [1, 2, 3]⟩] ([] ++ [⟨50, [0, 1]⟩] ++ [⟨150, [1, 2, 3]⟩]) (nearer (nearer begun6 [0, 1]) [1, 2, 3]) := .snoc (d := ⟨150, [1, 2, 3]⟩) (.snoc (d := ⟨50, [0, 1]⟩) .nil (by simp)) (by simp)
theorem yard3_right : RightP (yardW 3) [⟨50, [0, 1]⟩, ⟨150, [1, 2, 3]⟩] := yard_path.right (woOk_iff.1 (yard_ok (by omega))) (fun d hd => by
    simp only [List.mem_cons, List.not_mem_nil, or_false] at hd
    rcases hd with rfl | rfl <;> exact dipOk_iff.1 (by decide)) (fun i hi => by
    have hi : i < 4 := hi
    match i, hi with
    | 0, _ => decide
    | 1, _ => decide
    | 2, _ => decide
    | 3, _ => decide)
/-- one dip is not enough: it would hold instruments of which no heat is one of all. -/
theorem yard_two {room : Int} (h : 2 ≤ room ∧ room ≤ 6) {q : List Dp} (hq : RightP (yardW room) q) : 2 ≤ q.length := by
  have hw := woOk_iff.1 (yard_ok h)
  obtain ⟨m, s, h1, h2, h3⟩ := hq.rch hw fun d hd => dipsL_full hw hd
  match m, h2 with
  | 0, h2 =>
    rw [h2.zero_eq] at h3
    have := (h3 1 (show 1 < 4 by omega)).1
    exact absurd this (by decide)
  | 1, h2 =>
    obtain ⟨t, d, h4, hd, rfl⟩ := h2.succ_inv
    rw [h4.zero_eq] at h3
    have hdo := dipsL_ok d hd
    have hd6 := hdo.in6 hw
    have hspec := (nearer_spec Cnt.begun hd6).1
    have k2 := (h3 2 (show 2 < 4 by omega)).1
    rcases hspec 2 (by omega) with e | ⟨⟨j, i, hj, hi, e1, e2, _⟩, _⟩
    · rw [e] at k2
      exact absurd k2 (by decide)
    · have hb := begun_get (i := (gI d.ins i).toNat) (by have := hd6 i hi; omega)
      rw [hb] at e2
      have hz : (gI d.ins i).toNat = 0 := by
        by_cases h0 : (gI d.ins i).toNat = 0
        · exact h0
        · rw [if_neg h0] at e2; omega
      have t1 := hdo.heat i hi
      have t2 := hdo.heat j hj
      rw [hz] at t1
      rw [e1] at t2
      have t1 : (0 : Int) ≤ d.heat ∧ d.heat ≤ 100 := t1
      have t2 : (150 : Int) ≤ d.heat ∧ d.heat ≤ 300 := t2
      omega
  | m + 2, _ => omega
theorem yard3_plan {r : List Dp} {ev : Int} (h : PlanV (yardW 3) r ev) : ev = 0 ∧ r.length = 2 ∧ RightP (yardW 3) r := by
  rcases h with ⟨h1, _⟩ | ⟨_, h1, _⟩ | ⟨_, h1, h2⟩
  · exact absurd (yard_ok (by omega)) h1
  · exact absurd yard3_right (h1 _)
  · have a := h1.least _ yard3_right
    have b := yard_two (by omega) h1.right
    have a : r.length ≤ 2 := a
    exact ⟨h2, by omega, h1.right⟩
end Go.Proofs.Ytnplefhigbkbbaa
end
