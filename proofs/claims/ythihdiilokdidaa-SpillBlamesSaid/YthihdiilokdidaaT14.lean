/- Spill's reference: Stocks (walk): the ranges over all truths. · Spill's laws: Of (walk), what is kept of weighings (plain). · Spill's law SpillBlames (plain): the least list that need not be believed, and the lists of one. · Spill's reference: Less (walk). -/
import Derived.Test.YthihdiilokdidaaT13
import Derived.Test.YthihdiilokdidaaT12
set_option linter.unusedVariables false
set_option linter.unusedSimpArgs false
set_option linter.unusedSectionVars false
section
namespace Go.Proofs.Ythihdiilokdidaa
open Go.RowKit
attribute [local go_sem] Ex.cell? Ex.frozen?

theorem rangeR_info : (Try.prog.info? 52).map (fun i => (i.zero, i.size, i.bytes)) = some (some (.agg #[.int .i64 0, .int .i64 0]), 2, 16) := by kernel_rfl
theorem rowsR_info : (Try.prog.info? 53).map (fun i => (i.zero, i.size, i.bytes)) = some (some (.slice none 0 0), 1, 24) := by kernel_rfl
theorem run_make_rg (n : Nat) (hn : n ≤ 16) : ∃ oc : Array Value, (oc.size = n * 2 ∧ ∀ i, i < n * 2 → oc[i]? = some (.int .i64 0)) ∧ ∀ W : World, (Instr.makeSlice 53 (.int .i64 (n : Int)) (.int .i64 (n : Int))).run Try.prog W = .ok (.slice (some ⟨W.heap.size, 0, none⟩) n n) (W.alloc (.cells oc 52)) := by
  obtain ⟨i0, hi0, hz0, hz1, hz2⟩ := info_parts rangeR_info
  refine ⟨_, ⟨?_, ?_⟩, fun W => by
    have := run_makeSlice (P := Try.prog) (w := W) 53 52 i0 _ Try.underlying53 hi0 hz0 .i64 .i64 (n : Int) (n : Int) (by omega) (by omega) (by rw [hz1, Int.toNat_natCast]; omega) (by rw [hz2]; omega) (by omega)
    rw [Int.toNat_natCast, hz1] at this
    exact this⟩
  · exact size_madeCells _ _
  · intro i hi
    have h2 : i % 2 = 0 ∨ i % 2 = 1 := by omega
    rcases h2 with h2 | h2 <;> simp [madeCells, hi, h2, Value.cells]
theorem accR_none {p : Nat → Bool} {S : Nat → Int} : ∀ {n : Nat}, anyTo p n = false → accR p S n = ⟨0, 0⟩
  | 0, _ => rfl
  | n + 1, h => by
    rw [anyTo, Bool.or_eq_false_iff] at h
    unfold accR
    rw [if_neg (by rw [h.2]; decide), accR_none h.1]
/-- the ranges over the numbers below n. -/
noncomputable def accN (s : Ws) (o : List Int) (n : Nat) : Nat → Nat → Rg := fun i d => accR (gdB s o) (fun q => stkN s.wo q i d) n
/-- the first i rows, and d places of the next one, of one number more. -/
def mixF (f f' : Nat → Nat → Rg) (i d : Nat) : Nat → Nat → Rg := fun i' d' => if i' < i ∨ (i' = i ∧ d' < d) then f' i' d' else f i' d'
theorem mixF_row {f f' : Nat → Nat → Rg} {i D : Nat} (i' d' : Nat) (h : d' < D) : mixF f f' i D i' d' = mixF f f' (i + 1) 0 i' d' := by
  unfold mixF
  by_cases h1 : i' < i + 1
  · rw [if_pos (by omega), if_pos (by omega)]
  · rw [if_neg (by omega), if_neg (by omega)]
theorem mixF_put {f f' : Nat → Nat → Rg} {i d : Nat} {r : Rg} (h : r = f' i d) (i' d' : Nat) : updR (mixF f f' i d) i d r i' d' = mixF f f' i (d + 1) i' d' := by
  unfold updR mixF
  by_cases h1 : i' = i ∧ d' = d
  · obtain ⟨rfl, rfl⟩ := h1
    rw [if_pos ⟨rfl, rfl⟩, if_pos (by omega), h]
  · rw [if_neg h1]
    by_cases h2 : i' < i ∨ (i' = i ∧ d' < d)
    · rw [if_pos h2, if_pos (by omega)]
    · rw [if_neg h2, if_neg (by omega)]
theorem mixF_put2 {f f' : Nat → Nat → Rg} {i d : Nat} {r q : Rg} (h : r = f' i d) (i' d' : Nat) : updR (updR (mixF f f' i d) i d q) i d r i' d' = mixF f f' i (d + 1) i' d' := by
  rw [← mixF_put h i' d']
  unfold updR
  by_cases h1 : i' = i ∧ d' = d
  · rw [if_pos h1, if_pos h1]
  · rw [if_neg h1, if_neg h1, if_neg h1]
theorem mixF_at {f f' : Nat → Nat → Rg} {i d : Nat} : mixF f f' i d i d = f i d := by
  unfold mixF
  rw [if_neg (by omega)]
theorem updR_at {f : Nat → Nat → Rg} {i d : Nat} {r : Rg} : updR f i d r i d = r := by
  unfold updR
  rw [if_pos ⟨rfl, rfl⟩]
theorem NOwn.grow {α : Type} {T1 T2 T3 : TypeId} {s1 s2 s3 n3 base : Nat} {c : α → List Value} {A : α → Option Addr} {n : α → Nat} {f : α → Nat → Nat → Value} {W W' : World} {B : Nat} {v v3 : Value} {X : List α} {xs : List Value} (h : NOwn T1 s1 T2 s2 c A n f W B v X) (hg : W.grownBy W' v3.ownBlock) (ho : W.ownsRow base T3 s3 v3 n3 xs) (h1 : T1 ≠ T3) (h2 : T2 ≠ T3) : NOwn T1 s1 T2 s2 c A n f W' B v X :=
  ⟨own_grow h.own hg (fun b hb => own_ownne h.own ho h1 hb), fun x hx => (h.ins x hx).grown hg ho (fun e => h2 e.symm)⟩
/-- what Stocks has in memory. -/
structure StkA (s : Ws) (wc : Array Value) (w : World) (p0 B0 : Nat) (v : Value) (g : Nat → Nat) (m D : Nat) (f : Nat → Nat → Rg) (W : World) : Prop where
  bw : Below w.heap.size w W
  sz : B0 ≤ W.heap.size
  q0 : Blk W p0 26 wc
  rw : ROws W B0 v g m D f
theorem StkA.below {s : Ws} {wc : Array Value} {w : World} {p0 B0 : Nat} {v : Value} {g : Nat → Nat} {m D : Nat} {f : Nat → Nat → Rg} {W W' : World} (h : StkA s wc w p0 B0 v g m D f W) (hb : Below W.heap.size W W') : StkA s wc w p0 B0 v g m D f W' :=
  ⟨ex_trans h.bw hb, Nat.le_trans h.sz hb.size, h.q0.below hb h.q0.lt, h.rw.below hb⟩
theorem StkA.ext {s : Ws} {wc : Array Value} {w : World} {p0 B0 : Nat} {v : Value} {g : Nat → Nat} {m D : Nat} {f f' : Nat → Nat → Rg} {W : World} (h : StkA s wc w p0 B0 v g m D f W) (he : ∀ i d, i < m → d < D → f i d = f' i d) : StkA s wc w p0 B0 v g m D f' W := ⟨h.bw, h.sz, h.q0, h.rw.ext he⟩
theorem StkA.put {s : Ws} {wc : Array Value} {w : World} {p0 B0 : Nat} {v : Value} {g : Nat → Nat} {m D : Nat} {f : Nat → Nat → Rg} {W : World} (h : StkA s wc w p0 B0 v g m D f W) (hB : p0 < B0) (hw : w.heap.size ≤ B0) {i d : Nat} (hi : i < m) (hd : d < D) (a b : Int) : StkA s wc w p0 B0 v g m D (updR f i d ⟨a, b⟩) ((W.setCell ⟨g i, d * 2, none⟩ (.int .i64 a)).setCell ⟨g i, d * 2 + 1, none⟩ (.int .i64 b)) := by
  have hg := (h.rw.row i hi).1
  refine ⟨(h.bw.setCell (p := ⟨g i, d * 2, none⟩) (by show w.heap.size ≤ g i; omega) _).setCell (p := ⟨g i, d * 2 + 1, none⟩) (by show w.heap.size ≤ g i; omega) _, by have := h.sz; simpa using this, ?_, h.rw.put hi hd a b⟩
  exact h.q0.fr ((Fr.set (R := fun x => x = g i) W (g i) (d * 2) (.int .i64 a) rfl).andSet rfl) (by show ¬ p0 = g i; omega)
/-- what Stocks tells. -/
structure RsV (s : Ws) (o : List Int) (w' : World) (n : Nat) (A : Option Addr) (c : Nat) (rA : Nat → Option Addr) (rc : Nat → Nat) : Prop where
  yes : Good s.wo (outL o) → n = s.rooms.length ∧ RgsIn w' w'.heap.size A n s.wo.days (stkR s.wo (outL o)) rA rc
  no : ¬ Good s.wo (outL o) → n = 0
set_option maxRecDepth 100000 in
set_option maxHeartbeats 3200000 in
theorem Stocks_ref (s : Ws) (Ar Am Aw : Option Addr) (cr cm cw : Nat) (w : World) (hs : WsIn w w.heap.size s Ar Am Aw) (hw : WoOk s.wo) (hd : s.days = (s.wo.days : Int)) (o : List Int) (Ao : Option Addr) (co : Nat) (ho : SlAt w w.heap.size 1 Ao o.length (fI o)) (hlo : o.length ≤ 1000000) (hfew : wideTo (wdP s.wo) (placesP s.wo) ≤ 1500) :
    Calls Try.prog 21 #[.agg #[.slice Ar s.rooms.length cr, .int .i64 s.days, .slice Am s.moves.length cm, .slice Aw s.wgs.length cw], .slice Ao o.length co] w fun e w' => (∃ n A c rA rc, e = .returned (.tuple #[.slice A n c, .bool (truB (Good s.wo (outL o)))]) ∧ RsV s o w' n A c rA rc) ∧ Below w.heap.size w w' := by
  obtain ⟨i1, hi1, hy0, hy1, hy2⟩ := info_parts rowsR_info
  have HJ := Lib.hid hi1
  clear hi1
  obtain ⟨D, hD⟩ : ∃ D, s.wo.days = D := ⟨_, rfl⟩
  have hD6 : 1 ≤ D ∧ D ≤ 6 := by have := hw.days; omega
  have hr3 : 0 < s.rooms.length ∧ s.rooms.length ≤ 3 := ⟨hw.len.1, hw.len.2.1⟩
  have HD := Lib.hid hD
  have HSD : Hid (s.days = (D : Int)) := Lib.hid (by rw [hd, hD])
  have HDD := Lib.hid hd
  have hpr := wideTo_le (wd := wdP s.wo) (K := placesP s.wo) (fun k hk => wdP_pos hw hk) (by omega)
  obtain ⟨N, hN⟩ : ∃ N, wideTo (wdP s.wo) (placesP s.wo) = N := ⟨_, rfl⟩
  rw [hN] at hfew hpr
  have HN := Lib.hid hN
  have HPR := Lib.hid hpr
  clear hD hd hN hpr
  obtain ⟨oc0, ⟨hoc0, hoc1⟩, hmks⟩ := run_make_rg D (by omega)
  have HOC := Lib.hid (And.intro hoc0 hoc1)
  clear hoc0 hoc1
  have hb1 := ex_alloc (Below.refl w.heap.size w) (.cells #[.slice Ar s.rooms.length cr, .int .i64 s.days, .slice Am s.moves.length cm, .slice Aw s.wgs.length cw] 26)
  have q0 : Blk (w.alloc (.cells #[.slice Ar s.rooms.length cr, .int .i64 s.days, .slice Am s.moves.length cm, .slice Aw s.wgs.length cw] 26)) w.heap.size 26 #[.slice Ar s.rooms.length cr, .int .i64 s.days, .slice Am s.moves.length cm, .slice Aw s.wgs.length cw] := Blk.new _ _ _
  replace hs := hs.go hb1
  replace ho := (ho.below hb1).up hb1.size
  go_enter Try.func21, Try.ntmps21
  go_upto_region 1 with fail
  obtain ⟨p0, hp0⟩ : ∃ p, w.heap.size = p := ⟨_, rfl⟩
  rw [hp0] at q0 ⊢
  generalize w.alloc (.cells #[.slice Ar s.rooms.length cr, .int .i64 s.days, .slice Am s.moves.length cm, .slice Aw s.wgs.length cw] 26) = W1 at *
  have a0 : W1.cell? ⟨p0, 0, none⟩ = some (.slice Ar s.rooms.length cr) := q0.cell 0
  have a1 : W1.cell? ⟨p0, 1, none⟩ = some (.int .i64 s.days) := q0.cell 1
  have a2 : W1.cell? ⟨p0, 2, none⟩ = some (.slice Am s.moves.length cm) := q0.cell 2
  have a3 : W1.cell? ⟨p0, 3, none⟩ = some (.slice Aw s.wgs.length cw) := q0.cell 3
  have l0 := q0.lt
  go_wp2_with fail
  refine (Wide_ref s Ar Am Aw cr cm cw W1 hs hw HDD.out).mono ?_
  rintro e W2 ⟨rfl, hW2⟩
  rw [HN.out]
  replace hb1 := ex_trans hb1 hW2
  replace q0 := q0.below hW2 q0.lt
  replace hs := hs.go hW2
  replace ho := (ho.below hW2).up hW2.size
  clear a0 a1 a2 a3 l0 hW2 W1
  obtain ⟨B0, hB0⟩ : ∃ b, W2.heap.size = b := ⟨_, rfl⟩
  have hbs : p0 < B0 := by have := q0.lt; omega
  have hwB : w.heap.size ≤ B0 := by omega
  have HS := Lib.hid hs
  have HO := Lib.hid ho
  clear hs ho hp0
  have S0 : StkA s #[.slice Ar s.rooms.length cr, .int .i64 s.days, .slice Am s.moves.length cm, .slice Aw s.wgs.length cw] w p0 B0 (.slice none 0 0) (fun _ => 0) 0 D (accN s o 0) W2 := ⟨hb1, by omega, q0, ROws.nil⟩
  have HB0 := Lib.hid hB0
  clear hb1 q0 hB0
  go_wp2_with fail
  refine wp_loop (fun a W => Rel (fun a W => ∃ n : Nat, n ≤ N ∧ ∃ v g m, StkA s #[.slice Ar s.rooms.length cr, .int .i64 s.days, .slice Am s.moves.length cm, .slice Aw s.wgs.length cw] w p0 B0 v g m D (accN s o n) W ∧ Below W2.heap.size W2 W ∧ Hid (m = if anyTo (gdB s o) n = true then s.rooms.length else 0) ∧ ∃ u : Nat → Value, a = ⟨List.toArray (u 0 :: .slice Ao o.length co :: .pointer (some ⟨p0, 0, none⟩) :: u 3 :: u 4 :: u 5 :: v :: .int .i64 (N : Int) :: .int .i64 (n : Int) :: u 9 :: u 10 :: u 11 :: u 12 :: u 13 :: u 14 :: u 15 :: u 16 :: u 17 :: u 18 :: u 19 :: u 20 :: u 21 :: u 22 :: u 23 :: u 24 :: u 25 :: u 26 :: u 27 :: u 28 :: u 29 :: u 30 :: u 31 :: u 32 :: u 33 :: u 34 :: u 35 :: u 36 :: u 37 :: u 38 :: u 39 :: u 40 :: u 41 :: u 42 :: u 43 :: u 44 :: u 45 :: u 46 :: u 47 :: u 48 :: u 49 :: u 50 :: u 51 :: u 52 :: u 53 :: u 54 :: u 55 :: u 56 :: u 57 :: u 58 :: u 59 :: u 60 :: u 61 :: u 62 :: u 63 :: u 64 :: u 65 :: u 66 :: u 67 :: u 68 :: u 69 :: u 70 :: u 71 :: u 72 :: u 73 :: u 74 :: u 75 :: u 76 :: u 77 :: u 78 :: u 79 :: u 80 :: u 81 :: u 82 :: u 83 :: u 84 :: u 85 :: u 86 :: u 87 :: u 88 :: u 89 :: u 90 :: u 91 :: u 92 :: u 93 :: u 94 :: u 95 :: u 96 :: u 97 :: u 98 :: u 99 :: u 100 :: u 101 :: u 102 :: u 103 :: u 104 :: u 105 :: u 106 :: u 107 :: u 108 :: u 109 :: u 110 :: u 111 :: u 112 :: u 113 :: u 114 :: u 115 :: u 116 :: u 117 :: u 118 :: u 119 :: u 120 :: u 121 :: u 122 :: u 123 :: u 124 :: []), []⟩) a W) (fun a _ => N - (intOf (a.tmps.getD 8 undef)).toNat) ⟨⟨0, by omega, _, _, _, S0, Below.refl _ _, Lib.hid rfl, exFrame (by kernel_rfl)⟩⟩ ?_
  clear S0
  rintro a W ⟨⟨n, hn, v, g, m, S0, hb, HM, u, rfl⟩⟩
  by_cases hlt : n < N
  · have q0 := S0.q0
    have a0 : W.cell? ⟨p0, 0, none⟩ = some (.slice Ar s.rooms.length cr) := q0.cell 0
    have a1 : W.cell? ⟨p0, 1, none⟩ = some (.int .i64 s.days) := q0.cell 1
    have a2 : W.cell? ⟨p0, 2, none⟩ = some (.slice Am s.moves.length cm) := q0.cell 2
    have a3 : W.cell? ⟨p0, 3, none⟩ = some (.slice Aw s.wgs.length cw) := q0.cell 3
    have l0 := q0.lt
    have hnN : (n : Int) < (N : Int) := by omega
    have hm3 : m ≤ 3 := by have := HM.out; split at this <;> omega
    go_upto_region 6 with fail
    have X0 := (Below.refl W.heap.size W).drew
    refine wp_region_ext_mix 9 [(false, 0), (false, 1), (false, 2), (true, 3), (true, 4), (false, 5), (false, 6), (false, 7), (false, 8)] (by kernel_rfl) (by kernel_rfl) (by intro d _ _ _ _ h; cases d <;> exact h) ?_
    repeat (refine mix_quiet rfl ?_; go_big_quiet_step (fail); refine wpQuiet_nil ?_)
    obtain ⟨Y, hY⟩ : ∃ Y, W.drew = Y := ⟨_, rfl⟩
    rw [hY] at X0 ⊢
    clear hY
    have hs1 := HS.out.go (ex_trans hb X0)
    refine mix_loud rfl ?_
    go_wp2_with fail
    refine (Nth_ref s Ar Am Aw cr cm cw Y hs1 hw HDD.out n (by omega)).mono ?_
    rintro e W3 ⟨⟨t, A1, A2, A3, c1, c2, c3, rfl, hnt, htt⟩, h3⟩
    have X3 := ex_trans X0 h3
    have hs3 := hs1.go h3
    obtain ⟨rV, rcV, hti⟩ := htt.tt
    have HNT := Lib.hid hnt
    clear hs1 hnt htt
    go_wp2_with fail
    refine ⟨inEx X3, ?_⟩
    refine mix_loud rfl ?_
    go_wp2_with fail
    refine (Play_own s Ar Am Aw cr cm cw W3 hs3 hw HDD.out t A1 A2 A3 c1 c2 c3 rV rcV hti (HNT.out.tru hw HDD.out)).mono ?_
    rintro e W4 ⟨⟨AS, cS, X, rfl, hIO, hIX⟩, h4⟩
    have X4 := ex_trans X3 h4
    clear hti hs3
    go_wp2_with fail
    refine ⟨inEx X4, ?_⟩
    repeat (refine mix_quiet rfl ?_; go_big_quiet_step (fail); refine wpQuiet_nil ?_)
    refine mix_nil (r := [_]) rfl ?_
    have S4 := S0.below X4
    have HX := Lib.hid hIX
    have hIO := hIO.base (Nat.zero_le _)
    have HGD : Hid (gdB s o n = (canT s t && agrL s (stk s.wo t.F t.V t.G) o)) := Lib.hid (good_of_nth hw HNT.out)
    have hb4 := ex_trans hb X4
    have hsz4 := X4.size
    clear S0 hIX X0 h3 X3 h4 q0 a0 a1 a2 a3 l0
    have q0 := S4.q0
    have a0 : W4.cell? ⟨p0, 0, none⟩ = some (.slice Ar s.rooms.length cr) := q0.cell 0
    have a1 : W4.cell? ⟨p0, 1, none⟩ = some (.int .i64 s.days) := q0.cell 1
    have a2 : W4.cell? ⟨p0, 2, none⟩ = some (.slice Am s.moves.length cm) := q0.cell 2
    have a3 : W4.cell? ⟨p0, 3, none⟩ = some (.slice Aw s.wgs.length cw) := q0.cell 3
    have l0 := q0.lt
    cases hcn : canT s t
    · have HG0 : gdB s o n = false := by rw [HGD.out, hcn]; rfl
      clear hcn
      have HGN : Hid (gdB s o n = false) := Lib.hid HG0
      have SN := S4.ext (f' := accN s o (n + 1)) (fun i d _ _ => by unfold accN; rw [accR, if_neg (by rw [HGN.out]; decide)])
      have HM2 : Hid (m = if anyTo (gdB s o) (n + 1) = true then s.rooms.length else 0) := Lib.hid (by rw [HM.out, anyTo, HGN.out, Bool.or_false])
      clear HG0 HGD
      go_wp2_with fail
      refine ⟨⟨⟨n + 1, by omega, v, g, m, SN, hb4, HM2, exFrame (by kernel_rfl)⟩⟩, ?_⟩
      show N - (intOf (.int .i64 ((n : Int) + 1))).toNat < N - (intOf (.int .i64 (n : Int))).toNat
      simp [intOf]
      omega
    have HCN := Lib.hid hcn
    clear hcn
    obtain ⟨A', c', rA, rc, e9, hmt⟩ := IOwn.lays hIO HX.out
    injection e9 with e1 e0 e2
    subst e1 e2
    clear e0
    go_wp2_with fail
    refine (Agrees_ref s Ar Am Aw cr cm cw W4 (HS.out.go hb4) hw (stk s.wo t.F t.V t.G) AS cS rA rc hmt o Ao co ((HO.out.below hb4).up hb4.size) hlo).mono ?_
    rintro e W5 ⟨rfl, h5⟩
    have S5 := S4.below h5
    have hIO5 := NOwn.below hIO h5
    have hb5 := ex_trans hb4 h5
    have hsz5 := h5.size
    clear S4 hIO hb4 hmt h5 q0 a0 a1 a2 a3 l0
    have q0 := S5.q0
    have a0 : W5.cell? ⟨p0, 0, none⟩ = some (.slice Ar s.rooms.length cr) := q0.cell 0
    have a1 : W5.cell? ⟨p0, 1, none⟩ = some (.int .i64 s.days) := q0.cell 1
    have a2 : W5.cell? ⟨p0, 2, none⟩ = some (.slice Am s.moves.length cm) := q0.cell 2
    have a3 : W5.cell? ⟨p0, 3, none⟩ = some (.slice Aw s.wgs.length cw) := q0.cell 3
    have l0 := q0.lt
    cases hag : agrL s (stk s.wo t.F t.V t.G) o
    · have HG0 : gdB s o n = false := by rw [HGD.out, HCN.out, hag]; rfl
      clear hag
      have HGN : Hid (gdB s o n = false) := Lib.hid HG0
      have SN := S5.ext (f' := accN s o (n + 1)) (fun i d _ _ => by unfold accN; rw [accR, if_neg (by rw [HGN.out]; decide)])
      have HM2 : Hid (m = if anyTo (gdB s o) (n + 1) = true then s.rooms.length else 0) := Lib.hid (by rw [HM.out, anyTo, HGN.out, Bool.or_false])
      clear HG0 HGD
      go_wp2_with fail
      refine ⟨⟨⟨n + 1, by omega, v, g, m, SN, hb5, HM2, exFrame (by kernel_rfl)⟩⟩, ?_⟩
      show N - (intOf (.int .i64 ((n : Int) + 1))).toNat < N - (intOf (.int .i64 (n : Int))).toNat
      simp [intOf]
      omega
    have HG1 : Hid (gdB s o n = true) := Lib.hid (by rw [HGD.out, HCN.out, hag]; rfl)
    clear hag HGD HCN
    have HST : Hid (∀ i d, i < s.rooms.length → d < D → stk s.wo t.F t.V t.G i d = stkN s.wo n i d) := Lib.hid (fun i d hi hd => HNT.out.stk hi (by rw [HD.out]; exact hd))
    have HAN : Hid (anyTo (gdB s o) (n + 1) = true) := Lib.hid (by rw [anyTo, HG1.out, Bool.or_true])
    obtain ⟨S, hS⟩ : ∃ S, stk s.wo t.F t.V t.G = S := ⟨_, rfl⟩
    rw [hS] at HX HST
    rw [HD.out] at HX
    clear hS HNT
    by_cases hany : anyTo (gdB s o) n = true
    · have HAY := Lib.hid hany
      clear hany
      have HMV : Hid (m = s.rooms.length) := Lib.hid (by rw [HM.out, if_pos HAY.out])
      have hmv := HMV.out
      subst hmv
      clear HM HMV
      have SI := S5.ext (f' := (mixF (accN s o n) (accN s o (n + 1)) 0 0)) (fun i d _ _ => by unfold mixF; rw [if_neg (by omega)])
      clear S5 q0 a0 a1 a2 a3 l0
      obtain ⟨A0, c0, rfl, _⟩ := SI.rw.lays
      have e1 : ((s.rooms.length : Int) == 0) = false := by rw [beq_eq_false_iff_ne]; omega
      have e3 : (s.rooms.length == 0) = false := by rw [beq_eq_false_iff_ne]; omega
      go_wp2_with fail
      refine wp_loop (fun a W => Rel (fun a W => ∃ i : Nat, i ≤ s.rooms.length ∧ ∃ v g, StkA s #[.slice Ar s.rooms.length cr, .int .i64 s.days, .slice Am s.moves.length cm, .slice Aw s.wgs.length cw] w p0 B0 v g s.rooms.length D (mixF (accN s o n) (accN s o (n + 1)) i 0) W ∧ IOwn W 0 (.slice AS s.rooms.length cS) X ∧ Below W2.heap.size W2 W ∧ ∃ u : Nat → Value, a = ⟨List.toArray (u 0 :: .slice Ao o.length co :: .pointer (some ⟨p0, 0, none⟩) :: u 3 :: u 4 :: u 5 :: v :: .int .i64 (N : Int) :: .int .i64 (n : Int) :: .slice AS s.rooms.length cS :: u 10 :: .bool false :: .int .i64 (i : Int) :: u 13 :: u 14 :: u 15 :: u 16 :: u 17 :: u 18 :: u 19 :: u 20 :: u 21 :: u 22 :: u 23 :: u 24 :: u 25 :: u 26 :: u 27 :: u 28 :: u 29 :: u 30 :: u 31 :: u 32 :: u 33 :: u 34 :: u 35 :: u 36 :: u 37 :: u 38 :: u 39 :: u 40 :: u 41 :: u 42 :: u 43 :: u 44 :: u 45 :: u 46 :: u 47 :: u 48 :: u 49 :: u 50 :: u 51 :: u 52 :: u 53 :: u 54 :: u 55 :: u 56 :: u 57 :: u 58 :: u 59 :: u 60 :: u 61 :: u 62 :: u 63 :: u 64 :: u 65 :: u 66 :: u 67 :: u 68 :: u 69 :: u 70 :: u 71 :: u 72 :: u 73 :: u 74 :: u 75 :: u 76 :: u 77 :: u 78 :: u 79 :: u 80 :: u 81 :: u 82 :: u 83 :: u 84 :: u 85 :: u 86 :: u 87 :: u 88 :: u 89 :: u 90 :: u 91 :: u 92 :: u 93 :: u 94 :: u 95 :: u 96 :: u 97 :: u 98 :: u 99 :: u 100 :: u 101 :: u 102 :: u 103 :: u 104 :: u 105 :: u 106 :: u 107 :: u 108 :: u 109 :: u 110 :: u 111 :: u 112 :: u 113 :: u 114 :: u 115 :: u 116 :: u 117 :: u 118 :: u 119 :: u 120 :: u 121 :: u 122 :: u 123 :: u 124 :: []), []⟩) a W) (fun a _ => s.rooms.length - (intOf (a.tmps.getD 12 undef)).toNat) ⟨⟨0, by omega, _, _, SI, hIO5, hb5, exFrame (by kernel_rfl)⟩⟩ ?_
      clear SI hIO5 hb5
      rintro a Z ⟨⟨i, hi, v, g, SI, hIO, hb, u2, rfl⟩⟩
      by_cases hli : i < s.rooms.length
      · have hin : (i : Int) < (s.rooms.length : Int) := by omega
        have q0 := SI.q0
        have a0 : Z.cell? ⟨p0, 0, none⟩ = some (.slice Ar s.rooms.length cr) := q0.cell 0
        have a1 : Z.cell? ⟨p0, 1, none⟩ = some (.int .i64 s.days) := q0.cell 1
        have a2 : Z.cell? ⟨p0, 2, none⟩ = some (.slice Am s.moves.length cm) := q0.cell 2
        have a3 : Z.cell? ⟨p0, 3, none⟩ = some (.slice Aw s.wgs.length cw) := q0.cell 3
        have l0 := q0.lt
        rw [HSD.out] at a1
        go_wp2_with fail
        refine wp_loop (fun a W => Rel (fun a W => ∃ j : Nat, j ≤ D ∧ StkA s #[.slice Ar s.rooms.length cr, .int .i64 s.days, .slice Am s.moves.length cm, .slice Aw s.wgs.length cw] w p0 B0 v g s.rooms.length D (mixF (accN s o n) (accN s o (n + 1)) i j) W ∧ IOwn W 0 (.slice AS s.rooms.length cS) X ∧ Below W2.heap.size W2 W ∧ ∃ u : Nat → Value, a = ⟨List.toArray (u 0 :: .slice Ao o.length co :: .pointer (some ⟨p0, 0, none⟩) :: u 3 :: u 4 :: u 5 :: v :: .int .i64 (N : Int) :: .int .i64 (n : Int) :: .slice AS s.rooms.length cS :: u 10 :: .bool false :: .int .i64 (i : Int) :: .int .i64 (j : Int) :: u 14 :: u 15 :: u 16 :: u 17 :: u 18 :: u 19 :: u 20 :: u 21 :: u 22 :: u 23 :: u 24 :: u 25 :: u 26 :: u 27 :: u 28 :: u 29 :: u 30 :: u 31 :: u 32 :: u 33 :: u 34 :: u 35 :: u 36 :: u 37 :: u 38 :: u 39 :: u 40 :: u 41 :: u 42 :: u 43 :: u 44 :: u 45 :: u 46 :: u 47 :: u 48 :: u 49 :: u 50 :: u 51 :: u 52 :: u 53 :: u 54 :: u 55 :: u 56 :: u 57 :: u 58 :: u 59 :: u 60 :: u 61 :: u 62 :: u 63 :: u 64 :: u 65 :: u 66 :: u 67 :: u 68 :: u 69 :: u 70 :: u 71 :: u 72 :: u 73 :: u 74 :: u 75 :: u 76 :: u 77 :: u 78 :: u 79 :: u 80 :: u 81 :: u 82 :: u 83 :: u 84 :: u 85 :: u 86 :: u 87 :: u 88 :: u 89 :: u 90 :: u 91 :: u 92 :: u 93 :: u 94 :: u 95 :: u 96 :: u 97 :: u 98 :: u 99 :: u 100 :: u 101 :: u 102 :: u 103 :: u 104 :: u 105 :: u 106 :: u 107 :: u 108 :: u 109 :: u 110 :: u 111 :: u 112 :: u 113 :: u 114 :: u 115 :: u 116 :: u 117 :: u 118 :: u 119 :: u 120 :: u 121 :: u 122 :: u 123 :: u 124 :: []), []⟩) a W) (fun a _ => D - (intOf (a.tmps.getD 13 undef)).toNat) ⟨⟨0, by omega, SI, hIO, hb, exFrame (by kernel_rfl)⟩⟩ ?_
        clear SI hIO hb q0 a0 a1 a2 a3 l0
        rintro a V ⟨⟨j, hj, SC, hIO, hb, u3, rfl⟩⟩
        have q0 := SC.q0
        have a0 : V.cell? ⟨p0, 0, none⟩ = some (.slice Ar s.rooms.length cr) := q0.cell 0
        have a1 : V.cell? ⟨p0, 1, none⟩ = some (.int .i64 s.days) := q0.cell 1
        have a2 : V.cell? ⟨p0, 2, none⟩ = some (.slice Am s.moves.length cm) := q0.cell 2
        have a3 : V.cell? ⟨p0, 3, none⟩ = some (.slice Aw s.wgs.length cw) := q0.cell 3
        have l0 := q0.lt
        rw [HSD.out] at a1
        by_cases hlj : j < D
        · have hjn : (j : Int) < (D : Int) := by omega
          obtain ⟨sv, hsv⟩ : ∃ x, S i j = x := ⟨_, rfl⟩
          have HSV : Hid (sv = stkN s.wo n i j) := Lib.hid (by rw [← hsv]; exact HST.out i j hli hlj)
          have HSV0 := Lib.hid hsv
          obtain ⟨A', c', rA, rc, e9, hmt⟩ := IOwn.lays hIO HX.out
          injection e9 with e1 e0 e2
          subst e1 e2
          clear e0
          obtain ⟨bs, os, hAS, hbs1, x0⟩ := hmt.out (by omega)
          subst hAS
          have x1 : V.cell? ⟨bs, os + i, none⟩ = some (.slice (rA i) D (rc i)) := by have := x0 i 0 hli (by omega); rw [show os + (i * 1 + 0) = os + i by omega] at this; exact this
          obtain ⟨br, or, hrA, hbr, y0⟩ := hmt.row i hli (by omega)
          have y1 : V.cell? ⟨br, or + j, none⟩ = some (.int .i64 (S i j)) := by have := y0 j 0 hlj (by omega); rw [show or + (j * 1 + 0) = or + j by omega] at this; exact this
          rw [hrA] at x1
          clear x0 y0 hrA hmt
          obtain ⟨ri, hri⟩ : ∃ r, rc i = r := ⟨_, rfl⟩
          rw [hri] at x1
          clear hri
          rw [hsv] at y1
          obtain ⟨b, cp, ev, hB, hbl, z0⟩ := SC.rw.at_ (i := i) (by omega)
          obtain ⟨z1, z2⟩ := SC.rw.cell (i := i) (d := j) (by omega) hlj
          have fz1 := SC.rw.frz (i := i) (by omega) (j * 2)
          have fz2 := SC.rw.frz (i := i) (by omega) (j * 2 + 1)
          have lg := (SC.rw.row i (by omega)).2.lt
          obtain ⟨cs, hqb, _⟩ := (SC.rw.row i (by omega)).2
          rw [mixF_at] at z1 z2
          have hgi := (SC.rw.row i (by omega)).1
          obtain ⟨gi, hgi2⟩ : ∃ x, g i = x := ⟨_, rfl⟩
          have HGI := Lib.hid hgi2
          rw [hgi2] at z0 z1 z2 fz1 fz2 lg hgi hqb
          clear hgi2
          clear hsv
          obtain ⟨lo, hlo2⟩ : ∃ x, (accN s o n i j).lo = x := ⟨_, rfl⟩
          obtain ⟨hi2, hhi2⟩ : ∃ x, (accN s o n i j).hi = x := ⟨_, rfl⟩
          have HLO := Lib.hid (And.intro hlo2 hhi2)
          rw [hlo2] at z1
          rw [hhi2] at z2
          clear hlo2 hhi2
          subst ev
          have HNX : Hid ((⟨min lo sv, max hi2 sv⟩ : Rg) = accN s o (n + 1) i j) := Lib.hid (by rw [← HLO.out.1, ← HLO.out.2]; unfold accN; rw [accR, if_pos HG1.out, if_pos HAY.out, HSV.out])
          go_upto_region 19 with fail
          have X0 := (Below.refl V.heap.size V).drew
          refine wp_region_ext_tqF 39 (.quiet 0 (.quiet 1 (.quiet 2 (.quiet 3 (.quiet 4 (.quiet 5 (.quiet 6 (.quiet 7 (.quiet 8 (.quiet 9 (.quiet 10 (.quiet 11 (.quiet 12 (.quiet 13 (.quiet 14 (.quiet 15 (.quiet 16 (.quiet 17 (.quiet 18 (.quiet 19 (.quiet 21 (.quiet 22 (.quiet 23 (.quiet 24 (.quiet 25 (.quiet 26 (.quiet 27 (.quiet 28 (.quiet 29 (.quiet 30 (.quiet 31 (.quiet 32 (.quiet 33 (.quiet 34 (.quiet 35 (.fork 20 (.loud 36 (.quiet 37 (.quiet 38 .done))) 36 (.loud 20 (.quiet 37 (.quiet 38 .done))))))))))))))))))))))))))))))))))))))) (by kernel_rfl) (by kernel_rfl) (by intro d _ _ _ _ h; cases d <;> exact h) ?_
          repeat (refine tq_quiet rfl ?_; go_big_quiet_step (fail); refine wpQuiet_nil ?_)
          refine tq_fork rfl rfl ?_ ?_
          · go_wp2_with fail
            refine ⟨inEx X0, ?_⟩
            repeat (refine tq_quiet rfl ?_; go_big_quiet_step (fail); refine wpQuiet_nil ?_)
            refine tq_loud rfl ?_
            go_wp2_with fail
            refine ⟨inEx X0, ?_⟩
            repeat (refine tq_quiet rfl ?_; go_big_quiet_step (fail); refine wpQuiet_nil ?_)
            refine tq_done (r := [_]) rfl ?_
            go_wp2_with fail
            have hS9 := SC.put hbs hwB (i := i) (d := j) (by omega) hlj (min lo sv) (max hi2 sv)
            rw [HGI.out] at hS9
            replace hS9 := hS9.below (Below.refl _ _).drew
            have hI9 := NOwn.below (NOwn.set (NOwn.set hIO hqb (by decide) (by decide) (j * 2) (.int .i64 (min lo sv))) (hqb.set_ (j * 2) (.int .i64 (min lo sv))) (by decide) (by decide) (j * 2 + 1) (.int .i64 (max hi2 sv))) (Below.refl _ _).drew
            have hb9 := ((hb.setCell (p := ⟨gi, j * 2, none⟩) (by show W2.heap.size ≤ gi; have := HB0.out; omega) (.int .i64 (min lo sv))).setCell (p := ⟨gi, j * 2 + 1, none⟩) (by show W2.heap.size ≤ gi; have := HB0.out; omega) (.int .i64 (max hi2 sv))).drew
            refine ⟨⟨⟨j + 1, by omega, hS9.ext (fun i' d' _ _ => mixF_put HNX.out i' d'), hI9, hb9, exFrame (by kernel_rfl)⟩⟩, ?_⟩
            show D - (intOf (.int .i64 ((j : Int) + 1))).toNat < D - (intOf (.int .i64 (j : Int))).toNat
            simp [intOf]
            omega
          · go_wp2_with fail
            refine ⟨inEx X0, ?_⟩
            repeat (refine tq_quiet rfl ?_; go_big_quiet_step (fail); refine wpQuiet_nil ?_)
            refine tq_loud rfl ?_
            go_wp2_with fail
            refine ⟨inEx X0, ?_⟩
            repeat (refine tq_quiet rfl ?_; go_big_quiet_step (fail); refine wpQuiet_nil ?_)
            refine tq_done (r := [_]) rfl ?_
            go_wp2_with fail
            have hS9 := SC.put hbs hwB (i := i) (d := j) (by omega) hlj (min lo sv) (max hi2 sv)
            rw [HGI.out] at hS9
            replace hS9 := hS9.below (Below.refl _ _).drew
            have hI9 := NOwn.below (NOwn.set (NOwn.set hIO hqb (by decide) (by decide) (j * 2) (.int .i64 (min lo sv))) (hqb.set_ (j * 2) (.int .i64 (min lo sv))) (by decide) (by decide) (j * 2 + 1) (.int .i64 (max hi2 sv))) (Below.refl _ _).drew
            have hb9 := ((hb.setCell (p := ⟨gi, j * 2, none⟩) (by show W2.heap.size ≤ gi; have := HB0.out; omega) (.int .i64 (min lo sv))).setCell (p := ⟨gi, j * 2 + 1, none⟩) (by show W2.heap.size ≤ gi; have := HB0.out; omega) (.int .i64 (max hi2 sv))).drew
            refine ⟨⟨⟨j + 1, by omega, hS9.ext (fun i' d' _ _ => mixF_put HNX.out i' d'), hI9, hb9, exFrame (by kernel_rfl)⟩⟩, ?_⟩
            show D - (intOf (.int .i64 ((j : Int) + 1))).toNat < D - (intOf (.int .i64 (j : Int))).toNat
            simp [intOf]
            omega
        · obtain rfl : j = D := by omega
          have SE := SC.ext (f' := (mixF (accN s o n) (accN s o (n + 1)) (i + 1) 0)) (fun i' d' _ hd' => mixF_row i' d' hd')
          clear SC
          go_wp2_with fail
          refine ⟨⟨⟨i + 1, by omega, v, g, SE, hIO, hb, exFrame (by kernel_rfl)⟩⟩, ?_⟩
          show s.rooms.length - (intOf (.int .i64 ((i : Int) + 1))).toNat < s.rooms.length - (intOf (.int .i64 (i : Int))).toNat
          simp [intOf]
          omega
      · obtain rfl : i = s.rooms.length := by omega
        have q0 := SI.q0
        have a0 : Z.cell? ⟨p0, 0, none⟩ = some (.slice Ar s.rooms.length cr) := q0.cell 0
        have a1 : Z.cell? ⟨p0, 1, none⟩ = some (.int .i64 s.days) := q0.cell 1
        have a2 : Z.cell? ⟨p0, 2, none⟩ = some (.slice Am s.moves.length cm) := q0.cell 2
        have a3 : Z.cell? ⟨p0, 3, none⟩ = some (.slice Aw s.wgs.length cw) := q0.cell 3
        have l0 := q0.lt
        have SN := SI.ext (f' := accN s o (n + 1)) (fun i d hi _ => by unfold mixF; rw [if_pos (by omega)])
        have HM2 : Hid (s.rooms.length = if anyTo (gdB s o) (n + 1) = true then s.rooms.length else 0) := Lib.hid (by rw [if_pos HAN.out])
        clear SI
        go_wp2_with fail
        refine ⟨⟨⟨n + 1, by omega, v, g, s.rooms.length, SN, hb, HM2, exFrame (by kernel_rfl)⟩⟩, ?_⟩
        show N - (intOf (.int .i64 ((n : Int) + 1))).toNat < N - (intOf (.int .i64 (n : Int))).toNat
        simp [intOf]
        omega
    · have HAY := Lib.hid hany
      clear hany
      have HMV : Hid (m = 0) := Lib.hid (by rw [HM.out, if_neg HAY.out])
      have hmv := HMV.out
      subst hmv
      clear HM HMV
      have SI := S5.ext (f' := (mixF (accN s o n) (accN s o (n + 1)) 0 0)) (fun i d _ _ => by unfold mixF; rw [if_neg (by omega)])
      clear S5 q0 a0 a1 a2 a3 l0
      obtain ⟨A0, c0, rfl, _⟩ := SI.rw.lays
      go_wp2_with fail
      refine wp_loop (fun a W => Rel (fun a W => ∃ i : Nat, i ≤ s.rooms.length ∧ ∃ v g, StkA s #[.slice Ar s.rooms.length cr, .int .i64 s.days, .slice Am s.moves.length cm, .slice Aw s.wgs.length cw] w p0 B0 v g i D (mixF (accN s o n) (accN s o (n + 1)) i 0) W ∧ IOwn W 0 (.slice AS s.rooms.length cS) X ∧ Below W2.heap.size W2 W ∧ ∃ u : Nat → Value, a = ⟨List.toArray (u 0 :: .slice Ao o.length co :: .pointer (some ⟨p0, 0, none⟩) :: u 3 :: u 4 :: u 5 :: v :: .int .i64 (N : Int) :: .int .i64 (n : Int) :: .slice AS s.rooms.length cS :: u 10 :: .bool true :: .int .i64 (i : Int) :: u 13 :: u 14 :: u 15 :: u 16 :: u 17 :: u 18 :: u 19 :: u 20 :: u 21 :: u 22 :: u 23 :: u 24 :: u 25 :: u 26 :: u 27 :: u 28 :: u 29 :: u 30 :: u 31 :: u 32 :: u 33 :: u 34 :: u 35 :: u 36 :: u 37 :: u 38 :: u 39 :: u 40 :: u 41 :: u 42 :: u 43 :: u 44 :: u 45 :: u 46 :: u 47 :: u 48 :: u 49 :: u 50 :: u 51 :: u 52 :: u 53 :: u 54 :: u 55 :: u 56 :: u 57 :: u 58 :: u 59 :: u 60 :: u 61 :: u 62 :: u 63 :: u 64 :: u 65 :: u 66 :: u 67 :: u 68 :: u 69 :: u 70 :: u 71 :: u 72 :: u 73 :: u 74 :: u 75 :: u 76 :: u 77 :: u 78 :: u 79 :: u 80 :: u 81 :: u 82 :: u 83 :: u 84 :: u 85 :: u 86 :: u 87 :: u 88 :: u 89 :: u 90 :: u 91 :: u 92 :: u 93 :: u 94 :: u 95 :: u 96 :: u 97 :: u 98 :: u 99 :: u 100 :: u 101 :: u 102 :: u 103 :: u 104 :: u 105 :: u 106 :: u 107 :: u 108 :: u 109 :: u 110 :: u 111 :: u 112 :: u 113 :: u 114 :: u 115 :: u 116 :: u 117 :: u 118 :: u 119 :: u 120 :: u 121 :: u 122 :: u 123 :: u 124 :: []), []⟩) a W) (fun a _ => s.rooms.length - (intOf (a.tmps.getD 12 undef)).toNat) ⟨⟨0, by omega, _, _, SI, hIO5, hb5, exFrame (by kernel_rfl)⟩⟩ ?_
      clear SI hIO5 hb5
      rintro a Z ⟨⟨i, hi, v, g, SI, hIO, hb, u2, rfl⟩⟩
      by_cases hli : i < s.rooms.length
      · have hin : (i : Int) < (s.rooms.length : Int) := by omega
        have q0 := SI.q0
        have a0 : Z.cell? ⟨p0, 0, none⟩ = some (.slice Ar s.rooms.length cr) := q0.cell 0
        have a1 : Z.cell? ⟨p0, 1, none⟩ = some (.int .i64 s.days) := q0.cell 1
        have a2 : Z.cell? ⟨p0, 2, none⟩ = some (.slice Am s.moves.length cm) := q0.cell 2
        have a3 : Z.cell? ⟨p0, 3, none⟩ = some (.slice Aw s.wgs.length cw) := q0.cell 3
        have l0 := q0.lt
        rw [HSD.out] at a1
        have XA := ex_alloc (Below.refl Z.heap.size Z) (.cells oc0 52)
        have qn : Blk (Z.alloc (.cells oc0 52)) Z.heap.size 52 oc0 := Blk.new _ _ _
        have XB := ex_alloc XA (.cells #[.slice (some ⟨Z.heap.size, 0, none⟩) D D] 53)
        have qn2 : Blk ((Z.alloc (.cells oc0 52)).alloc (.cells #[.slice (some ⟨Z.heap.size, 0, none⟩) D D] 53)) Z.heap.size 52 oc0 := qn.alloc _
        have SB := SI.below XB
        have hIOB := NOwn.below hIO XB
        have hbB := ex_trans hb XB
        have y4 := SB.rw.own
        have c63 : i + 1 ≤ maxLen := by unfold maxLen; omega
        have cby : (i + 1) * 24 ≤ 140737488355328 := by omega
        have hbase : B0 ≤ ((Z.alloc (.cells oc0 52)).alloc (.cells #[.slice (some ⟨Z.heap.size, 0, none⟩) D D] 53)).heap.size := SB.sz
        go_upto_region 13 with fail
        go_wp2_with (refine pause_at 53 rfl ?_)
        refine Paused.mk ?_
        refine wpList_append_lies _ rfl _ _ _ rfl B0 53 i1 _ 1 24 Try.underlying45 HJ.out hy0 hy1 hy2 rfl (by omega) v _ _ rfl y4 ⟨Z.heap.size + 1, 0, none⟩ 1 1 [.slice (some ⟨Z.heap.size, 0, none⟩) D D] rfl rfl (World.news_of_block (heap_alloc_at (Z.alloc (.cells oc0 52)) _ (by simp))) (by simp [Value.oneCell']) (by omega) c63 cby hbase (Z.heap.size + 1 + 1) (by simp) ?_
        intro gg cap w1 hown' hgrow hat hlt'
        have qn3 : Blk w1 Z.heap.size 52 oc0 := qn2.grown hgrow (fun e => own_blkne y4 qn2 (by decide) e.symm)
        have hva : VArr ((Z.alloc (.cells oc0 52)).alloc (.cells #[.slice (some ⟨Z.heap.size, 0, none⟩) D D] 53)) Z.heap.size 52 (D * 2) (rgV D ((mixF (accN s o n) (accN s o (n + 1)) i 0) i)) := VArr.of qn2 HOC.out.1 (fun x hx => by
          rw [HOC.out.2 x hx]
          have e : (mixF (accN s o n) (accN s o (n + 1)) i 0) i (x / 2) = ⟨0, 0⟩ := by
            unfold mixF
            rw [if_neg (by omega)]
            unfold accN
            exact accR_none (by cases h : anyTo (gdB s o) n; rfl; exact absurd h HAY.out)
          unfold rgV
          rw [e]
          simp)
        have hro := SB.rw.push (gn := Z.heap.size) (f' := (mixF (accN s o n) (accN s o (n + 1)) i 0)) hgrow hown' hva (by have := SI.sz; omega) (fun j hj e => by have := (SI.rw.row j hj).2.lt; omega) (fun _ _ _ _ => rfl)
        have hgf := Fr.grown (R := fun b => B0 ≤ b) hgrow (fun b hb => .inl (own_ge y4 hb))
        have SC : StkA s #[.slice Ar s.rooms.length cr, .int .i64 s.days, .slice Am s.moves.length cm, .slice Aw s.wgs.length cw] w p0 B0 _ _ (i + 1) D (mixF (accN s o n) (accN s o (n + 1)) i 0) w1 := ⟨SB.bw.grown hgrow SB.bw.size (fun b hb => by have := own_ge y4 hb; omega), by have := hgrow.size; omega, SB.q0.fr hgf (by omega), hro⟩
        have hIOC := hIOB.grow hgrow y4 (by decide) (by decide)
        have hbC := hbB.grown hgrow hbB.size (fun b hb => by have := own_ge y4 hb; have := HB0.out; omega)
        obtain ⟨g2, hg2⟩ : ∃ g2, (fun k => if k = i then Z.heap.size else g k) = g2 := ⟨_, rfl⟩
        rw [hg2] at SC hro
        clear hg2 hown' hgrow hat hlt' hro hva qn3 qn2 qn XA XB SB SI hIO hIOB hb hbB y4 c63 cby hbase hgf q0 a0 a1 a2 a3 l0
        skip
        go_wp2_with fail
        refine wp_loop (fun a W => Rel (fun a W => ∃ j : Nat, j ≤ D ∧ StkA s #[.slice Ar s.rooms.length cr, .int .i64 s.days, .slice Am s.moves.length cm, .slice Aw s.wgs.length cw] w p0 B0 (.slice (some ⟨gg, 0, none⟩) (i + 1) cap) g2 (i + 1) D (mixF (accN s o n) (accN s o (n + 1)) i j) W ∧ IOwn W 0 (.slice AS s.rooms.length cS) X ∧ Below W2.heap.size W2 W ∧ ∃ u : Nat → Value, a = ⟨List.toArray (u 0 :: .slice Ao o.length co :: .pointer (some ⟨p0, 0, none⟩) :: u 3 :: u 4 :: u 5 :: .slice (some ⟨gg, 0, none⟩) (i + 1) cap :: .int .i64 (N : Int) :: .int .i64 (n : Int) :: .slice AS s.rooms.length cS :: u 10 :: .bool true :: .int .i64 (i : Int) :: .int .i64 (j : Int) :: u 14 :: u 15 :: u 16 :: u 17 :: u 18 :: u 19 :: u 20 :: u 21 :: u 22 :: u 23 :: u 24 :: u 25 :: u 26 :: u 27 :: u 28 :: u 29 :: u 30 :: u 31 :: u 32 :: u 33 :: u 34 :: u 35 :: u 36 :: u 37 :: u 38 :: u 39 :: u 40 :: u 41 :: u 42 :: u 43 :: u 44 :: u 45 :: u 46 :: u 47 :: u 48 :: u 49 :: u 50 :: u 51 :: u 52 :: u 53 :: u 54 :: u 55 :: u 56 :: u 57 :: u 58 :: u 59 :: u 60 :: u 61 :: u 62 :: u 63 :: u 64 :: u 65 :: u 66 :: u 67 :: u 68 :: u 69 :: u 70 :: u 71 :: u 72 :: u 73 :: u 74 :: u 75 :: u 76 :: u 77 :: u 78 :: u 79 :: u 80 :: u 81 :: u 82 :: u 83 :: u 84 :: u 85 :: u 86 :: u 87 :: u 88 :: u 89 :: u 90 :: u 91 :: u 92 :: u 93 :: u 94 :: u 95 :: u 96 :: u 97 :: u 98 :: u 99 :: u 100 :: u 101 :: u 102 :: u 103 :: u 104 :: u 105 :: u 106 :: u 107 :: u 108 :: u 109 :: u 110 :: u 111 :: u 112 :: u 113 :: u 114 :: u 115 :: u 116 :: u 117 :: u 118 :: u 119 :: u 120 :: u 121 :: u 122 :: u 123 :: u 124 :: []), []⟩) a W) (fun a _ => D - (intOf (a.tmps.getD 13 undef)).toNat) ⟨⟨0, by omega, SC, hIOC, hbC, exFrame (by kernel_rfl)⟩⟩ ?_
        clear SC hIOC hbC
        rintro a V ⟨⟨j, hj, SC, hIO, hb, u3, rfl⟩⟩
        have q0 := SC.q0
        have a0 : V.cell? ⟨p0, 0, none⟩ = some (.slice Ar s.rooms.length cr) := q0.cell 0
        have a1 : V.cell? ⟨p0, 1, none⟩ = some (.int .i64 s.days) := q0.cell 1
        have a2 : V.cell? ⟨p0, 2, none⟩ = some (.slice Am s.moves.length cm) := q0.cell 2
        have a3 : V.cell? ⟨p0, 3, none⟩ = some (.slice Aw s.wgs.length cw) := q0.cell 3
        have l0 := q0.lt
        rw [HSD.out] at a1
        by_cases hlj : j < D
        · have hjn : (j : Int) < (D : Int) := by omega
          obtain ⟨sv, hsv⟩ : ∃ x, S i j = x := ⟨_, rfl⟩
          have HSV : Hid (sv = stkN s.wo n i j) := Lib.hid (by rw [← hsv]; exact HST.out i j hli hlj)
          have HSV0 := Lib.hid hsv
          obtain ⟨A', c', rA, rc, e9, hmt⟩ := IOwn.lays hIO HX.out
          injection e9 with e1 e0 e2
          subst e1 e2
          clear e0
          obtain ⟨bs, os, hAS, hbs1, x0⟩ := hmt.out (by omega)
          subst hAS
          have x1 : V.cell? ⟨bs, os + i, none⟩ = some (.slice (rA i) D (rc i)) := by have := x0 i 0 hli (by omega); rw [show os + (i * 1 + 0) = os + i by omega] at this; exact this
          obtain ⟨br, or, hrA, hbr, y0⟩ := hmt.row i hli (by omega)
          have y1 : V.cell? ⟨br, or + j, none⟩ = some (.int .i64 (S i j)) := by have := y0 j 0 hlj (by omega); rw [show or + (j * 1 + 0) = or + j by omega] at this; exact this
          rw [hrA] at x1
          clear x0 y0 hrA hmt
          obtain ⟨ri, hri⟩ : ∃ r, rc i = r := ⟨_, rfl⟩
          rw [hri] at x1
          clear hri
          rw [hsv] at y1
          obtain ⟨b, cp, ev, hB, hbl, z0⟩ := SC.rw.at_ (i := i) (by omega)
          obtain ⟨z1, z2⟩ := SC.rw.cell (i := i) (d := j) (by omega) hlj
          have fz1 := SC.rw.frz (i := i) (by omega) (j * 2)
          have fz2 := SC.rw.frz (i := i) (by omega) (j * 2 + 1)
          have lg := (SC.rw.row i (by omega)).2.lt
          obtain ⟨cs, hqb, _⟩ := (SC.rw.row i (by omega)).2
          rw [mixF_at] at z1 z2
          have hgi := (SC.rw.row i (by omega)).1
          obtain ⟨gi, hgi2⟩ : ∃ x, g2 i = x := ⟨_, rfl⟩
          have HGI := Lib.hid hgi2
          rw [hgi2] at z0 z1 z2 fz1 fz2 lg hgi hqb
          clear hgi2
          clear hsv
          obtain ⟨lo, hlo2⟩ : ∃ x, (accN s o n i j).lo = x := ⟨_, rfl⟩
          obtain ⟨hi2, hhi2⟩ : ∃ x, (accN s o n i j).hi = x := ⟨_, rfl⟩
          have HLO := Lib.hid (And.intro hlo2 hhi2)
          rw [hlo2] at z1
          rw [hhi2] at z2
          clear hlo2 hhi2
          injection ev with ev1 _ ev3
          injection ev1 with ev1
          injection ev1 with ev1
          subst ev1 ev3
          have HNX : Hid ((⟨sv, sv⟩ : Rg) = accN s o (n + 1) i j) := Lib.hid (by unfold accN; rw [accR, if_pos HG1.out, if_neg HAY.out, ← HSV.out])
          go_upto_region 18 with fail
          refine wp_region_ext_mix 21 [(false, 0), (false, 1), (false, 2), (false, 3), (false, 4), (false, 5), (false, 6), (false, 7), (false, 8), (false, 9), (false, 10), (false, 11), (false, 12), (false, 13), (false, 14), (false, 15), (false, 16), (false, 17), (false, 18), (false, 19), (false, 20)] (by kernel_rfl) (by kernel_rfl) (by intro d _ _ _ _ h; cases d <;> exact h) ?_
          repeat (refine mix_quiet rfl ?_; go_big_quiet_step (fail); refine wpQuiet_nil ?_)
          refine mix_nil (r := [_]) rfl ?_
          go_upto_region 19 with fail
          have hS8 := SC.put hbs hwB (i := i) (d := j) (by omega) hlj (sv) (sv)
          rw [HGI.out] at hS8
          replace hS8 := hS8.below (Below.refl _ _).drew
          have hI8 := NOwn.below (NOwn.set (NOwn.set hIO hqb (by decide) (by decide) (j * 2) (.int .i64 (sv))) (hqb.set_ (j * 2) (.int .i64 (sv))) (by decide) (by decide) (j * 2 + 1) (.int .i64 (sv))) (Below.refl _ _).drew
          have hb8 := ((hb.setCell (p := ⟨gi, j * 2, none⟩) (by show W2.heap.size ≤ gi; have := HB0.out; omega) (.int .i64 (sv))).setCell (p := ⟨gi, j * 2 + 1, none⟩) (by show W2.heap.size ≤ gi; have := HB0.out; omega) (.int .i64 (sv))).drew
          clear x1 y1 z0 z1 z2 fz1 fz2 lg hqb hbr hbs1 hB hbl a0 a1 a2 a3 l0 q0 SC hIO hb
          generalize ((V.setCell ⟨gi, j * 2, none⟩ (.int .i64 sv)).setCell ⟨gi, j * 2 + 1, none⟩ (.int .i64 sv)).drew = U at *
          have q0 := hS8.q0
          have a0 : U.cell? ⟨p0, 0, none⟩ = some (.slice Ar s.rooms.length cr) := q0.cell 0
          have a1 : U.cell? ⟨p0, 1, none⟩ = some (.int .i64 s.days) := q0.cell 1
          have a2 : U.cell? ⟨p0, 2, none⟩ = some (.slice Am s.moves.length cm) := q0.cell 2
          have a3 : U.cell? ⟨p0, 3, none⟩ = some (.slice Aw s.wgs.length cw) := q0.cell 3
          have l0 := q0.lt
          rw [HSD.out] at a1
          obtain ⟨A', c', rA, rc, e9, hmt⟩ := IOwn.lays hI8 HX.out
          injection e9 with e1 e0 e2
          subst e1 e2
          clear e0
          obtain ⟨bs', os', hAS, hbs2, x0⟩ := hmt.out (by omega)
          injection hAS with hAS
          injection hAS with e1 e2
          subst e1 e2
          have x1 : U.cell? ⟨bs, os + i, none⟩ = some (.slice (rA i) D (rc i)) := by have := x0 i 0 hli (by omega); rw [show os + (i * 1 + 0) = os + i by omega] at this; exact this
          obtain ⟨br, or, hrA, hbr, y0⟩ := hmt.row i hli (by omega)
          have y1 : U.cell? ⟨br, or + j, none⟩ = some (.int .i64 (S i j)) := by have := y0 j 0 hlj (by omega); rw [show or + (j * 1 + 0) = or + j by omega] at this; exact this
          rw [hrA] at x1
          clear x0 y0 hrA hmt
          obtain ⟨ri, hri⟩ : ∃ r, rc i = r := ⟨_, rfl⟩
          rw [hri] at x1
          clear hri
          rw [HSV0.out] at y1
          obtain ⟨b, cp, ev, hB, hbl, z0⟩ := hS8.rw.at_ (i := i) (by omega)
          obtain ⟨z1, z2⟩ := hS8.rw.cell (i := i) (d := j) (by omega) hlj
          have fz1 := hS8.rw.frz (i := i) (by omega) (j * 2)
          have fz2 := hS8.rw.frz (i := i) (by omega) (j * 2 + 1)
          have lg := (hS8.rw.row i (by omega)).2.lt
          obtain ⟨cs, hqb, _⟩ := (hS8.rw.row i (by omega)).2
          rw [updR_at] at z1 z2
          rw [HGI.out] at z0 z1 z2 fz1 fz2 lg hqb
          injection ev with ev1 _ ev3
          injection ev1 with ev1
          injection ev1 with ev1
          subst ev1 ev3
          go_upto_region 19 with fail
          have X0 := (Below.refl U.heap.size U).drew
          refine wp_region_ext_tqF 39 (.quiet 0 (.quiet 1 (.quiet 2 (.quiet 3 (.quiet 4 (.quiet 5 (.quiet 6 (.quiet 7 (.quiet 8 (.quiet 9 (.quiet 10 (.quiet 11 (.quiet 12 (.quiet 13 (.quiet 14 (.quiet 15 (.quiet 16 (.quiet 17 (.quiet 18 (.quiet 19 (.quiet 21 (.quiet 22 (.quiet 23 (.quiet 24 (.quiet 25 (.quiet 26 (.quiet 27 (.quiet 28 (.quiet 29 (.quiet 30 (.quiet 31 (.quiet 32 (.quiet 33 (.quiet 34 (.quiet 35 (.fork 20 (.loud 36 (.quiet 37 (.quiet 38 .done))) 36 (.loud 20 (.quiet 37 (.quiet 38 .done))))))))))))))))))))))))))))))))))))))) (by kernel_rfl) (by kernel_rfl) (by intro d _ _ _ _ h; cases d <;> exact h) ?_
          repeat (refine tq_quiet rfl ?_; go_big_quiet_step (fail); refine wpQuiet_nil ?_)
          refine tq_fork rfl rfl ?_ ?_
          · go_wp2_with fail
            refine ⟨inEx X0, ?_⟩
            repeat (refine tq_quiet rfl ?_; go_big_quiet_step (fail); refine wpQuiet_nil ?_)
            refine tq_loud rfl ?_
            go_wp2_with fail
            refine ⟨inEx X0, ?_⟩
            repeat (refine tq_quiet rfl ?_; go_big_quiet_step (fail); refine wpQuiet_nil ?_)
            refine tq_done (r := [_]) rfl ?_
            go_wp2_with fail
            have hS9 := hS8.put hbs hwB (i := i) (d := j) (by omega) hlj (sv) (sv)
            rw [HGI.out] at hS9
            replace hS9 := hS9.below (Below.refl _ _).drew
            have hI9 := NOwn.below (NOwn.set (NOwn.set hI8 hqb (by decide) (by decide) (j * 2) (.int .i64 (sv))) (hqb.set_ (j * 2) (.int .i64 (sv))) (by decide) (by decide) (j * 2 + 1) (.int .i64 (sv))) (Below.refl _ _).drew
            have hb9 := ((hb8.setCell (p := ⟨gi, j * 2, none⟩) (by show W2.heap.size ≤ gi; have := HB0.out; omega) (.int .i64 (sv))).setCell (p := ⟨gi, j * 2 + 1, none⟩) (by show W2.heap.size ≤ gi; have := HB0.out; omega) (.int .i64 (sv))).drew
            refine ⟨⟨⟨j + 1, by omega, hS9.ext (fun i' d' _ _ => mixF_put2 HNX.out i' d'), hI9, hb9, exFrame (by kernel_rfl)⟩⟩, ?_⟩
            show D - (intOf (.int .i64 ((j : Int) + 1))).toNat < D - (intOf (.int .i64 (j : Int))).toNat
            simp [intOf]
            omega
          · go_wp2_with fail
            refine ⟨inEx X0, ?_⟩
            repeat (refine tq_quiet rfl ?_; go_big_quiet_step (fail); refine wpQuiet_nil ?_)
            refine tq_loud rfl ?_
            go_wp2_with fail
            refine ⟨inEx X0, ?_⟩
            repeat (refine tq_quiet rfl ?_; go_big_quiet_step (fail); refine wpQuiet_nil ?_)
            refine tq_done (r := [_]) rfl ?_
            go_wp2_with fail
            have hS9 := hS8.put hbs hwB (i := i) (d := j) (by omega) hlj (sv) (sv)
            rw [HGI.out] at hS9
            replace hS9 := hS9.below (Below.refl _ _).drew
            have hI9 := NOwn.below (NOwn.set (NOwn.set hI8 hqb (by decide) (by decide) (j * 2) (.int .i64 (sv))) (hqb.set_ (j * 2) (.int .i64 (sv))) (by decide) (by decide) (j * 2 + 1) (.int .i64 (sv))) (Below.refl _ _).drew
            have hb9 := ((hb8.setCell (p := ⟨gi, j * 2, none⟩) (by show W2.heap.size ≤ gi; have := HB0.out; omega) (.int .i64 (sv))).setCell (p := ⟨gi, j * 2 + 1, none⟩) (by show W2.heap.size ≤ gi; have := HB0.out; omega) (.int .i64 (sv))).drew
            refine ⟨⟨⟨j + 1, by omega, hS9.ext (fun i' d' _ _ => mixF_put2 HNX.out i' d'), hI9, hb9, exFrame (by kernel_rfl)⟩⟩, ?_⟩
            show D - (intOf (.int .i64 ((j : Int) + 1))).toNat < D - (intOf (.int .i64 (j : Int))).toNat
            simp [intOf]
            omega
        · obtain rfl : j = D := by omega
          have SE := SC.ext (f' := (mixF (accN s o n) (accN s o (n + 1)) (i + 1) 0)) (fun i' d' _ hd' => mixF_row i' d' hd')
          clear SC
          go_wp2_with fail
          refine ⟨⟨⟨i + 1, by omega, (.slice (some ⟨gg, 0, none⟩) (i + 1) cap), g2, SE, hIO, hb, exFrame (by kernel_rfl)⟩⟩, ?_⟩
          show s.rooms.length - (intOf (.int .i64 ((i : Int) + 1))).toNat < s.rooms.length - (intOf (.int .i64 (i : Int))).toNat
          simp [intOf]
          omega
      · obtain rfl : i = s.rooms.length := by omega
        have q0 := SI.q0
        have a0 : Z.cell? ⟨p0, 0, none⟩ = some (.slice Ar s.rooms.length cr) := q0.cell 0
        have a1 : Z.cell? ⟨p0, 1, none⟩ = some (.int .i64 s.days) := q0.cell 1
        have a2 : Z.cell? ⟨p0, 2, none⟩ = some (.slice Am s.moves.length cm) := q0.cell 2
        have a3 : Z.cell? ⟨p0, 3, none⟩ = some (.slice Aw s.wgs.length cw) := q0.cell 3
        have l0 := q0.lt
        have SN := SI.ext (f' := accN s o (n + 1)) (fun i d hi _ => by unfold mixF; rw [if_pos (by omega)])
        have HM2 : Hid (s.rooms.length = if anyTo (gdB s o) (n + 1) = true then s.rooms.length else 0) := Lib.hid (by rw [if_pos HAN.out])
        clear SI
        go_wp2_with fail
        refine ⟨⟨⟨n + 1, by omega, v, g, s.rooms.length, SN, hb, HM2, exFrame (by kernel_rfl)⟩⟩, ?_⟩
        show N - (intOf (.int .i64 ((n : Int) + 1))).toNat < N - (intOf (.int .i64 (n : Int))).toNat
        simp [intOf]
        omega
  · obtain rfl : n = N := by omega
    obtain ⟨A, cv, rfl, hR⟩ := S0.rw.lays
    have bw := S0.bw
    have hm3 : m ≤ 3 := by have := HM.out; split at this <;> omega
    have HTG : Hid (anyTo (gdB s o) n = truB (Good s.wo (outL o))) := Lib.hid (any_good hw HPR.out)
    have HV : Hid (RsV s o W m A cv (fun i => some ⟨g i, 0, none⟩) (fun _ => D)) := Lib.hid ⟨fun hg => by
        have hm : m = s.rooms.length := by rw [HM.out, if_pos (by rw [HTG.out]; exact truB_iff.2 hg)]
        refine ⟨hm, ?_⟩
        rw [HD.out]
        refine ⟨hR.out, fun k hk hD => ?_⟩
        obtain ⟨b, o', e, hb, hc⟩ := hR.row k hk hD
        refine ⟨b, o', e, hb, fun d j hd hj => ?_⟩
        have := hc d j hd hj
        have he : accN s o n k d = stkR s.wo (outL o) k d := acc_stk hw HPR.out hg (by omega) (by rw [HD.out]; exact hd)
        rw [this]
        match j, hj with
        | 0, _ => exact congrArg (fun r : Rg => some (Value.int .i64 r.lo)) he
        | 1, _ => exact congrArg (fun r : Rg => some (Value.int .i64 r.hi)) he, fun hg => by rw [HM.out, if_neg (by rw [HTG.out, truB_false hg]; decide)]⟩
    have HMT : Hid (m = 0 ↔ anyTo (gdB s o) n = false) := Lib.hid (by
      rw [HM.out]
      cases anyTo (gdB s o) n
      · exact ⟨fun _ => rfl, fun _ => rfl⟩
      · exact ⟨fun h => absurd h (by show ¬ (if true = true then s.rooms.length else 0) = 0; rw [if_pos rfl]; omega), fun h => by cases h⟩)
    cases ht : truB (Good s.wo (outL o))
    · have hm0 : m = 0 := HMT.out.2 (by rw [HTG.out, ht])
      have HTT := Lib.hid ht
      clear ht HMT HM
      have hmi : decide ((0 : Int) < (m : Int)) = false := decide_eq_false (by omega)
      have hmn : decide (0 < m) = false := decide_eq_false (by omega)
      subst hm0
      go_wp2
      go_ret2
      exact ⟨⟨0, A, cv, _, _, by rw [HTT.out]; rfl, HV.out⟩, bw⟩
    · have hm1 : 0 < m := Nat.pos_of_ne_zero (fun e => by have := HMT.out.1 e; rw [HTG.out, ht] at this; cases this)
      have HTT := Lib.hid ht
      clear ht HMT HM
      have hmi : decide ((0 : Int) < (m : Int)) = true := decide_eq_true (by omega)
      have hmn : decide (0 < m) = true := decide_eq_true (by omega)
      go_wp2
      go_ret2
      exact ⟨⟨m, A, cv, _, _, by rw [HTT.out]; rfl, HV.out⟩, bw⟩
end Go.Proofs.Ythihdiilokdidaa
end

section
namespace Go.Proofs.Ythihdiilokdidaa
open Go.RowKit
attribute [local go_sem] Ex.cell? Ex.frozen?
/-- the numbers below n whose bits are 1. -/
def ofL (b : Int) : Nat → List Int
  | 0 => []
  | k + 1 => if (b / 2 ^ k).tmod 2 = 1 then ofL b k ++ [(k : Int)] else ofL b k
theorem ofL_len {b : Int} : ∀ {n : Nat}, (ofL b n).length ≤ n
  | 0 => by simp [ofL]
  | n + 1 => by
    have := ofL_len (b := b) (n := n)
    rw [ofL]; split
    · simp; omega
    · omega

set_option maxRecDepth 100000 in
set_option maxHeartbeats 1600000 in
theorem Of_ref (n : Nat) (b : Int) (w : World) (hn : n ≤ 60) (hb : 0 ≤ b) (hb1 : b ≤ 1000000) :
    Calls Try.prog 39 #[.int .i64 (n : Int), .int .i64 b] w fun e w' => (∃ v, e = .returned v ∧ w'.ownsRow w.heap.size 3 1 v (ofL b n).length ((ofL b n).map (Value.int .i64))) ∧ Below w.heap.size w w' := by
  obtain ⟨i0, hi0, hz0, hz1, hz2⟩ := info_parts int_info
  have HI := Lib.hid hi0
  clear hi0
  go_enter Try.func39, Try.ntmps39
  go_wp2_with fail
  go_loopw [5, 6] (fun v i wr => ∃ k : Nat, k ≤ n ∧ i = .int .i64 k ∧ Below w.heap.size w wr ∧ wr.ownsRow w.heap.size 3 1 v (ofL b k).length ((ofL b k).map (Value.int .i64)))
    (fun _ i _ => n - (intOf i).toNat)
  case atStart => exact ⟨0, by omega, rfl, Below.refl _ _, ⟨rfl, .inl ⟨rfl, rfl⟩⟩⟩
  case round =>
    obtain ⟨k, hk, rfl, hbl, hown⟩ := hrel
    by_cases hlt : k < n
    · have hq : 0 ≤ b / 2 ^ k := Int.ediv_nonneg hb (Int.le_of_lt (Int.pow_pos (by omega)))
      have et : (b / 2 ^ k).tmod 2 = b / 2 ^ k % 2 := Int.tmod_eq_emod_of_nonneg hq
      by_cases hx : (b / 2 ^ k).tmod 2 = 1
      · have HX : Hid (ofL b (k + 1) = ofL b k ++ [(k : Int)]) := Lib.hid (by rw [ofL, if_pos hx])
        have e1 : ((b / 2 ^ k).tmod 2 == 1) = true := by simp [hx]
        have e2 : (b / 2 ^ k % 2 == 1) = true := by rw [← et]; simp [hx]
        clear hx et
        have y4 := hown.alloc (.cells #[.int .i64 (k : Int)] 3)
        have hlen := ofL_len (b := b) (n := k)
        have c63 : (ofL b k).length + 1 ≤ maxLen := by unfold maxLen; omega
        have cby : ((ofL b k).length + 1) * 8 ≤ 140737488355328 := by omega
        have hws := hbl.size
        have hbase : w.heap.size ≤ (wr.alloc (.cells #[.int .i64 (k : Int)] 3)).heap.size := by simp; omega
        go_wp2_with (at_builtin; refine wpList_append_lies _ rfl _ _ _ rfl w.heap.size 3 i0 _ 1 8 Try.underlying28 HI.out hz0 hz1 hz2 rfl (by omega) u5 _ _ rfl y4 ⟨wr.heap.size, 0, none⟩ 1 1 [.int .i64 (k : Int)] rfl rfl (World.news_of_block (heap_alloc_new wr _)) (by simp [Value.oneCell']) (by omega) c63 cby hbase (wr.heap.size + 1) (by simp) ?_; intro gg cap w1 hown' hgrow hat hlt')
        go_roundw
        case rel => exact ⟨k + 1, by omega, by go_num, (ex_alloc hbl _).grown hgrow hbase (fun j hj => own_ge hown hj), by rw [HX.out]; exact own_snoc rfl hown'⟩
        case measure => simp [intOf]; omega
      · have HX : Hid (ofL b (k + 1) = ofL b k) := Lib.hid (by rw [ofL, if_neg hx])
        have e1 : ((b / 2 ^ k).tmod 2 == 1) = false := by simp [hx]
        have e2 : (b / 2 ^ k % 2 == 1) = false := by rw [← et]; simp [hx]
        clear hx et
        go_wp2
        go_roundw
        case rel => exact ⟨k + 1, by omega, by go_num, hbl, by rw [HX.out]; exact hown⟩
        case measure => simp [intOf]; omega
    · have HK : Hid (k = n) := Lib.hid (by omega)
      go_wp2
      go_ret
      exact ⟨⟨_, rfl, by rw [← HK.out]; exact hown⟩, hbl⟩


/-- the weighings that are kept. -/
def keepW (l : List Int) (W : List Wg) : Nat → List Wg
  | 0 => []
  | k + 1 => if hasB l (k : Int) then keepW l W k else keepW l W k ++ [gWg W k]
/-- what the law asks of the weighings that are kept. -/
structure KeepIs (s : Ws) (L : List Wg) (l : List Int) : Prop where
  ck : ckWs (s.wg (keepW l L L.length)) = 0
  stE : stE (s.wg (keepW l L L.length)) = 0
  len : (keepW l L L.length).length + l.length = L.length
end Go.Proofs.Ythihdiilokdidaa
end

section
namespace Go.Proofs.Ythihdiilokdidaa
open Go.RowKit
attribute [local go_sem] Ex.cell? Ex.frozen?

def lexL : List Int → List Int → Bool
  | x :: a, y :: b => if x = y then lexL a b else decide (x < y)
  | _, _ => false
/-- is a list shorter than another one, or as long, and before it? -/
def lessL (a b : List Int) : Bool := if a.length = b.length then lexL a b else decide (a.length < b.length)
theorem lexL_irr : ∀ a : List Int, lexL a a = false
  | [] => rfl
  | x :: a => by rw [lexL, if_pos rfl]; exact lexL_irr a
theorem lexL_trans : ∀ {a b c : List Int}, lexL a b = true → lexL b c = true → lexL a c = true
  | [], _, _, h, _ => by simp [lexL] at h
  | _ :: _, [], _, h, _ => by simp [lexL] at h
  | _ :: _, _ :: _, [], _, h => by simp [lexL] at h
  | x :: a, y :: b, z :: c, h, k => by
    rw [lexL] at h k ⊢
    by_cases hxy : x = y
    · subst hxy
      by_cases hyz : x = z
      · subst hyz
        rw [if_pos rfl] at h k ⊢
        exact lexL_trans h k
      · rw [if_neg hyz] at k ⊢; exact k
    · rw [if_neg hxy] at h
      have h1 := of_decide_eq_true h
      by_cases hyz : y = z
      · subst hyz; rw [if_neg hxy]; exact h
      · rw [if_neg hyz] at k
        have h2 := of_decide_eq_true k
        rw [if_neg (by omega)]
        exact decide_eq_true (by omega)
theorem lexL_tri : ∀ {a b : List Int}, a.length = b.length → a ≠ b → lexL a b = true ∨ lexL b a = true
  | [], [], _, h => absurd rfl h
  | [], _ :: _, h, _ => by simp at h
  | _ :: _, [], h, _ => by simp at h
  | x :: a, y :: b, h, k => by
    rw [lexL, lexL]
    by_cases hxy : x = y
    · subst hxy
      rw [if_pos rfl, if_pos rfl]
      exact lexL_tri (by simpa using h) (fun e => k (by rw [e]))
    · rw [if_neg hxy, if_neg (fun e => hxy e.symm)]
      rcases Int.lt_or_gt_of_ne hxy with h1 | h1
      · exact .inl (decide_eq_true h1)
      · exact .inr (decide_eq_true h1)
theorem lexL_app : ∀ {v a b : List Int}, lexL (v ++ a) (v ++ b) = lexL a b
  | [], _, _ => rfl
  | x :: v, a, b => by
    rw [List.cons_append, List.cons_append, lexL, if_pos rfl]
    exact lexL_app
theorem lessL_irr (a : List Int) : lessL a a = false := by unfold lessL; rw [if_pos rfl]; exact lexL_irr a
theorem lessL_trans {a b c : List Int} (h : lessL a b = true) (k : lessL b c = true) : lessL a c = true := by
  unfold lessL at *
  split at h
  · rename_i e1
    split at k
    · rename_i e2
      rw [if_pos (e1.trans e2)]
      exact lexL_trans h k
    · rename_i e2
      have := of_decide_eq_true k
      rw [if_neg (by omega)]
      exact decide_eq_true (by omega)
  · have h1 := of_decide_eq_true h
    split at k
    · rename_i e2
      rw [if_neg (by omega)]
      exact decide_eq_true (by omega)
    · have h2 := of_decide_eq_true k
      rw [if_neg (by omega)]
      exact decide_eq_true (by omega)
theorem lessL_tri {a b : List Int} (h : a ≠ b) : lessL a b = true ∨ lessL b a = true := by
  unfold lessL
  by_cases e : a.length = b.length
  · rw [if_pos e, if_pos e.symm]; exact lexL_tri e h
  · rw [if_neg e, if_neg (fun k => e k.symm)]
    rcases Nat.lt_or_gt_of_ne e with h1 | h1
    · exact .inl (decide_eq_true h1)
    · exact .inr (decide_eq_true h1)

/-- the rising lists of f numbers from n on. -/
def subsF (n : Nat) : Nat → List (List Int)
  | 0 => [[]]
  | f + 1 => (subsF (n + 1) f).map (fun s => (n : Int) :: s) ++ subsF (n + 1) f
theorem nil_subsF : ∀ {f n : Nat}, [] ∈ subsF n f
  | 0, _ => by simp [subsF]
  | f + 1, n => by rw [subsF]; exact List.mem_append.2 (.inr nil_subsF)
theorem subsF_ge : ∀ {f n : Nat} {s : List Int}, s ∈ subsF n f → ∀ x ∈ s, (n : Int) ≤ x
  | 0, n, s, h, x, hx => by
    simp [subsF] at h
    subst h; cases hx
  | f + 1, n, s, h, x, hx => by
    rw [subsF, List.mem_append, List.mem_map] at h
    rcases h with ⟨t, h1, rfl⟩ | h
    · rcases List.mem_cons.1 hx with rfl | hx
      · exact Int.le_refl _
      · have := subsF_ge h1 x hx; omega
    · have := subsF_ge h x hx; omega

/-- do all weighings but those of a list agree? -/
def AgL (A : (Nat → Bool) → Bool) (L : List Int) : Prop := A (fun j => outL L j) = true
theorem setO_has {lv : List Int} {n : Nat} : setO (fun j : Nat => outL lv j) n = fun j : Nat => outL (lv ++ [(n : Int)]) j := by
  funext j
  rw [Bool.eq_iff_iff]
  unfold setO outL
  split
  · rename_i e; simp [e]
  · rename_i e
    rw [decide_eq_true_iff, decide_eq_true_iff, List.mem_append, List.mem_singleton]
    constructor
    · exact .inl
    · rintro (h | h)
      · exact h
      · omega
theorem pickL_none {A : (Nat → Bool) → Bool} {many f : Nat} {lv : List Int} {o : Nat → Bool} {n : Nat} (h : lv.length ≠ many) : loopL A many f lv o n = pickL A many f lv o n := by unfold pickL; rw [if_neg h]
theorem pick_best {A : (Nat → Bool) → Bool} {many : Nat} : ∀ (f n : Nat) (lv : List Int),
    (∀ r ls, pickL A many f lv (fun j => outL lv j) n = r :: ls → (∃ s, s ∈ subsF n f ∧ r = lv ++ s) ∧ AgL A r ∧ r.length = many ∧ ∀ s', s' ∈ subsF n f → (lv ++ s').length = many → AgL A (lv ++ s') → lexL (lv ++ s') r = false) ∧
    (pickL A many f lv (fun j => outL lv j) n = [] → ∀ s', s' ∈ subsF n f → (lv ++ s').length = many → ¬ AgL A (lv ++ s')) := by
  have base : ∀ (f n : Nat) (lv : List Int), lv.length = many →
      (∀ r ls, pickL A many f lv (fun j => outL lv j) n = r :: ls → (∃ s, s ∈ subsF n f ∧ r = lv ++ s) ∧ AgL A r ∧ r.length = many ∧ ∀ s', s' ∈ subsF n f → (lv ++ s').length = many → AgL A (lv ++ s') → lexL (lv ++ s') r = false) ∧
      (pickL A many f lv (fun j => outL lv j) n = [] → ∀ s', s' ∈ subsF n f → (lv ++ s').length = many → ¬ AgL A (lv ++ s')) := fun f n lv hm => by
    have hz : ∀ s' : List Int, (lv ++ s').length = many → s' = [] := fun s' h => by
      rw [List.length_append] at h
      exact List.eq_nil_of_length_eq_zero (by omega)
    unfold pickL
    rw [if_pos hm]
    constructor
    · intro r ls h
      split at h
      · rename_i ha
        injection h with h _
        subst h
        exact ⟨⟨[], nil_subsF, by simp⟩, ha, hm, fun s' _ h2 _ => by rw [hz s' h2, List.append_nil]; exact lexL_irr _⟩
      · cases h
    · intro h s' _ h2 h3
      rw [hz s' h2, List.append_nil] at h3
      unfold AgL at h3
      rw [if_pos h3] at h
      cases h
  intro f
  induction f with
  | zero =>
    intro n lv
    by_cases hm : lv.length = many
    · exact base 0 n lv hm
    · rw [← pickL_none hm]
      refine ⟨fun r ls h => by simp [loopL] at h, fun _ s' h1 h2 => ?_⟩
      simp [subsF] at h1
      subst h1
      rw [List.append_nil] at h2
      exact absurd h2 hm
  | succ f ih =>
    intro n lv
    by_cases hm : lv.length = many
    · exact base (f + 1) n lv hm
    · rw [← pickL_none hm, loopL_succ, setO_has, pickL_none hm]
      obtain ⟨i1, i2⟩ := ih (n + 1) (lv ++ [(n : Int)])
      obtain ⟨j1, j2⟩ := ih (n + 1) lv
      have hsplit : ∀ s', s' ∈ subsF n (f + 1) → (∃ t, t ∈ subsF (n + 1) f ∧ s' = (n : Int) :: t) ∨ s' ∈ subsF (n + 1) f := fun s' h => by
        rw [subsF, List.mem_append, List.mem_map] at h
        rcases h with ⟨t, h1, rfl⟩ | h
        · exact .inl ⟨t, h1, rfl⟩
        · exact .inr h
      have happ : ∀ t : List Int, lv ++ (n : Int) :: t = (lv ++ [(n : Int)]) ++ t := fun t => by simp
      cases hP : pickL A many f (lv ++ [(n : Int)]) (fun j => outL (lv ++ [(n : Int)]) j) (n + 1) with
      | nil =>
        rw [List.nil_append]
        constructor
        · intro r ls h
          obtain ⟨⟨s, k1, k2⟩, k3, k4, k5⟩ := j1 r ls h
          refine ⟨⟨s, by rw [subsF]; exact List.mem_append.2 (.inr k1), k2⟩, k3, k4, fun s' h1 h2 h3 => ?_⟩
          rcases hsplit s' h1 with ⟨t, h4, rfl⟩ | h4
          · rw [happ] at h2 h3
            exact absurd h3 (i2 hP t h4 h2)
          · exact k5 s' h4 h2 h3
        · intro h s' h1 h2 h3
          rcases hsplit s' h1 with ⟨t, h4, rfl⟩ | h4
          · rw [happ] at h2 h3
            exact i2 hP t h4 h2 h3
          · exact j2 h s' h4 h2 h3
      | cons r0 ls0 =>
        constructor
        · intro r ls h
          injection h with h _
          subst h
          obtain ⟨⟨s, k1, k2⟩, k3, k4, k5⟩ := i1 r0 ls0 hP
          refine ⟨⟨(n : Int) :: s, by rw [subsF]; exact List.mem_append.2 (.inl (List.mem_map.2 ⟨s, k1, rfl⟩)), by rw [k2]; exact (happ s).symm⟩, k3, k4, fun s' h1 h2 h3 => ?_⟩
          rcases hsplit s' h1 with ⟨t, h4, rfl⟩ | h4
          · rw [happ] at h2 h3 ⊢
            exact k5 t h4 h2 h3
          · rw [k2, ← happ, lexL_app]
            cases s' with
            | nil => rfl
            | cons x t =>
              have := subsF_ge h4 x (by simp)
              rw [lexL, if_neg (by omega)]
              exact decide_eq_false (by omega)
        · intro h; cases h

theorem subs_four : ∀ n : Fin 5, (∀ s, s ∈ subsF 0 n.val → ∃ b : Fin 16, b.val < 2 ^ n.val ∧ ofL ((b.val : Nat) : Int) n.val = s) ∧ (∀ b : Fin 16, b.val < 2 ^ n.val → ofL ((b.val : Nat) : Int) n.val ∈ subsF 0 n.val) ∧ ((List.range (2 ^ n.val)).map fun b : Nat => ofL (b : Int) n.val).filter (fun l => decide (l.length = 1)) = (List.range n.val).map (fun j : Nat => [(j : Int)]) := by decide +kernel
/-- how far the loop over the bits has come. -/
structure BTo (A : (Nat → Bool) → Bool) (n k : Nat) (fd : Bool) (r : List Int) : Prop where
  yes : fd = true → AgL A r ∧ r ∈ subsF 0 n ∧ ∀ b : Nat, b < k → AgL A (ofL (b : Int) n) → lessL (ofL (b : Int) n) r = false
  no : fd = false → r = [] ∧ ∀ b : Nat, b < k → ¬ AgL A (ofL (b : Int) n)
theorem BTo.zero {A : (Nat → Bool) → Bool} {n : Nat} : BTo A n 0 false [] := ⟨fun h => absurd h (by decide), fun _ => ⟨rfl, fun b hb => by omega⟩⟩
theorem BTo.off {A : (Nat → Bool) → Bool} {n k : Nat} {fd : Bool} {r : List Int} (h : BTo A n k fd r) (ha : ¬ AgL A (ofL (k : Int) n)) : BTo A n (k + 1) fd r :=
  ⟨fun hf => ⟨(h.yes hf).1, (h.yes hf).2.1, fun b hb hb2 => by
    rcases Nat.lt_succ_iff_lt_or_eq.1 hb with h1 | rfl
    · exact (h.yes hf).2.2 b h1 hb2
    · exact absurd hb2 ha⟩, fun hf => ⟨(h.no hf).1, fun b hb => by
    rcases Nat.lt_succ_iff_lt_or_eq.1 hb with h1 | rfl
    · exact (h.no hf).2 b h1
    · exact ha⟩⟩
theorem BTo.keep {A : (Nat → Bool) → Bool} {n k : Nat} {r : List Int} (h : BTo A n k true r) (hl : lessL (ofL (k : Int) n) r = false) : BTo A n (k + 1) true r :=
  ⟨fun hf => ⟨(h.yes hf).1, (h.yes hf).2.1, fun b hb hb2 => by
    rcases Nat.lt_succ_iff_lt_or_eq.1 hb with h1 | rfl
    · exact (h.yes hf).2.2 b h1 hb2
    · exact hl⟩, fun hf => absurd hf (by decide)⟩
theorem BTo.take {A : (Nat → Bool) → Bool} {n k : Nat} {fd : Bool} {r : List Int} (hn : n ≤ 4) (hk : k < 2 ^ n) (h : BTo A n k fd r) (ha : AgL A (ofL (k : Int) n)) (hl : fd = true → lessL (ofL (k : Int) n) r = true) : BTo A n (k + 1) true (ofL (k : Int) n) := by
  obtain ⟨_, hb, _⟩ := subs_four ⟨n, by omega⟩
  have h16 : 2 ^ n ≤ 16 := Nat.pow_le_pow_right (by omega : 2 > 0) hn
  refine ⟨fun _ => ⟨ha, hb ⟨k, by omega⟩ hk, fun b hb hb2 => ?_⟩, fun hf => absurd hf (by decide)⟩
  rcases Nat.lt_succ_iff_lt_or_eq.1 hb with h1 | rfl
  · cases fd
    · exact absurd hb2 ((h.no rfl).2 b h1)
    · cases hx : lessL (ofL (b : Int) n) (ofL (k : Int) n)
      · rfl
      · have := (h.yes rfl).2.2 b h1 hb2
        rw [lessL_trans hx (hl rfl)] at this
        cases this
  · exact lessL_irr _
/-- the lists of one that are good, by their bits. -/
def sgl (A : (Nat → Bool) → Bool) (n k : Nat) : List (List Int) := (((List.range k).map fun b : Nat => ofL (b : Int) n).filter fun l => decide (l.length = 1)).filter fun l => A (outL l)
def sgA (A : (Nat → Bool) → Bool) (n k : Nat) : Int := ((sgl A n k).getLastD [0]).headD 0
theorem sgl_len {A : (Nat → Bool) → Bool} {n k : Nat} : (sgl A n k).length ≤ k := by
  unfold sgl
  refine Nat.le_trans (List.length_filter_le _ _) (Nat.le_trans (List.length_filter_le _ _) ?_)
  simp
theorem sgl_succ {A : (Nat → Bool) → Bool} {n k : Nat} : sgl A n (k + 1) = sgl A n k ++ if (ofL (k : Int) n).length = 1 ∧ A (outL (ofL (k : Int) n)) = true then [ofL (k : Int) n] else [] := by
  unfold sgl
  rw [List.range_succ, List.map_append, List.filter_append, List.filter_append, List.map_singleton]
  congr 1
  by_cases h1 : (ofL (k : Int) n).length = 1
  · by_cases h2 : A (outL (ofL (k : Int) n)) = true
    · rw [if_pos ⟨h1, h2⟩]; simp [h1, h2]
    · rw [if_neg (fun e => h2 e.2)]; simp [h1, h2]
  · rw [if_neg (fun e => h1 e.1)]; simp [h1]
theorem sgl_no {A : (Nat → Bool) → Bool} {n k : Nat} (h : ¬ ((ofL (k : Int) n).length = 1 ∧ A (outL (ofL (k : Int) n)) = true)) : (sgl A n (k + 1)).length = (sgl A n k).length ∧ sgA A n (k + 1) = sgA A n k := by
  unfold sgA
  rw [sgl_succ, if_neg h, List.append_nil]
  exact ⟨rfl, rfl⟩
theorem sgl_yes {A : (Nat → Bool) → Bool} {n k : Nat} (h1 : (ofL (k : Int) n).length = 1) (h2 : A (outL (ofL (k : Int) n)) = true) : (sgl A n (k + 1)).length = (sgl A n k).length + 1 ∧ sgA A n (k + 1) = gI (ofL (k : Int) n) 0 := by
  unfold sgA
  rw [sgl_succ, if_pos ⟨h1, h2⟩]
  refine ⟨by simp, ?_⟩
  simp only [List.getLastD_concat]
  cases hL : ofL (k : Int) n with
  | nil => rw [hL] at h1; cases h1
  | cons x t => simp [gI]
theorem pick_one_sgl {A : (Nat → Bool) → Bool} : ∀ (f n : Nat), pickL A 1 f [] (outL []) n = ((List.range' n f).map fun j => [((j : Nat) : Int)]).filter fun l => A (outL l)
  | 0, n => by
    rw [← pickL_none (by simp), loopL]
    simp
  | f + 1, n => by
    have hs : setO (outL []) n = outL ([] ++ [(n : Int)]) := setO_has
    rw [← pickL_none (by simp), loopL_succ, hs, pickL_none (by simp), pick_one_sgl f (n + 1)]
    rw [List.range'_succ, List.map_cons, List.filter_cons]
    unfold pickL
    rw [if_pos (by simp)]
    by_cases ha : A (outL ([] ++ [(n : Int)])) = true
    · rw [if_pos ha, if_pos (by simpa using ha)]; rfl
    · rw [if_neg ha, if_neg (by simpa using ha)]; rfl
section
variable {s : Ws}
theorem off_nil : off0 = outL [] := by funext j; simp [off0, outL]
theorem listsL_out (s : Ws) (k : Nat) : listsL s k = pickL (agrO s) k s.wgs.length [] (outL []) 0 := by unfold listsL; rw [off_nil]
theorem sgl_all (hn : s.wgs.length ≤ 4) : sgl (agrO s) s.wgs.length (2 ^ s.wgs.length) = listsL s 1 := by
  obtain ⟨_, _, h⟩ := subs_four ⟨s.wgs.length, by omega⟩
  simp only at h
  rw [listsL_out, pick_one_sgl, sgl, h, List.range_eq_range']
theorem agL_iff {L : List Int} : AgL (agrO s) L ↔ Good s.wo (outL L) := truB_iff
/-- what Fewest and Blame tell, by the law's loop. -/
structure BlmIs (s : Ws) (fd : Bool) (r : List Int) (many : Nat) (alone : Int) : Prop where
  none : fd = false → fwE s = 9 ∧ fwL s = [] ∧ bmE s = 7 ∧ bmV s = 0
  some : fd = true → fwE s = 0 ∧ fwL s = r ∧ ((r.length = 0 ∨ many ≠ 1) → bmE s = 7 ∧ bmV s = 0) ∧ (r.length ≠ 0 → many = 1 → bmE s = 0 ∧ bmV s = alone)
theorem least_one (hc : ckWs s = 0) (hn : s.wgs.length ≤ 4) (hf : fwE s = 0) {r : List Int} (h1 : Good s.wo (outL r)) (h2 : r ∈ subsF 0 s.wgs.length) (h3 : ∀ q, q ∈ subsF 0 s.wgs.length → Good s.wo (outL q) → lessL q r = false) : fwL s = r := by
  have hk : 0 ≤ fewK s := by
    unfold fwE at hf
    rw [if_pos hc] at hf
    by_cases hk : 0 ≤ fewK s
    · exact hk
    · rw [if_neg hk] at hf; cases hf
  have hh := (firstOf_hit (f := fun k => decide (0 < (listsL s k).length)) (n := s.wgs.length + 1) hk).1
  have hh' : 0 < (listsL s (fewK s).toNat).length := of_decide_eq_true hh
  have hfl : fwL s = (listsL s (fewK s).toNat).headD [] := by unfold fwL; rw [if_pos hf]
  cases hL : listsL s (fewK s).toNat with
  | nil => rw [hL] at hh'; simp at hh'
  | cons f0 ls =>
    rw [hL] at hfl
    change fwL s = f0 at hfl
    have hL2 := hL
    rw [listsL_out] at hL2
    obtain ⟨⟨t, k1, k2⟩, k3, k4, k5⟩ := (pick_best s.wgs.length 0 []).1 f0 ls hL2
    rw [List.nil_append] at k2
    subst k2
    rw [hfl]
    by_cases e : f0 = r
    · exact e
    rcases lessL_tri e with hl | hl
    · rw [h3 f0 k1 (agL_iff.1 k3)] at hl; cases hl
    · exfalso
      unfold lessL at hl
      split at hl
      · rename_i el
        have := k5 r h2 (by rw [List.nil_append]; omega) (by rw [List.nil_append]; exact agL_iff.2 h1)
        rw [List.nil_append, hl] at this
        cases this
      · have hlt := of_decide_eq_true hl
        have hne : listsL s r.length ≠ [] := fun h0 => by
          rw [listsL_out] at h0
          exact (pick_best s.wgs.length 0 []).2 h0 r h2 rfl (agL_iff.2 h1)
        have hk2 : fewK s ≤ (r.length : Int) := by
          by_cases hw : r.length < s.wgs.length + 1
          · exact (firstOf_min (f := fun k => decide (0 < (listsL s k).length)) (k := r.length) hw (by rw [decide_eq_true_eq]; exact List.length_pos_iff.2 hne)).2
          · have := (firstOf_hit (f := fun k => decide (0 < (listsL s k).length)) (n := s.wgs.length + 1) hk).2
            have h9 : (fewK s).toNat < s.wgs.length + 1 := this
            omega
        omega
theorem blame_is (hc : ckWs s = 0) (hn : s.wgs.length ≤ 4) {fd : Bool} {r : List Int} (h : BTo (agrO s) s.wgs.length (2 ^ s.wgs.length) fd r) : BlmIs s fd r (sgl (agrO s) s.wgs.length (2 ^ s.wgs.length)).length (sgA (agrO s) s.wgs.length (2 ^ s.wgs.length)) := by
  obtain ⟨hs, _, _⟩ := subs_four ⟨s.wgs.length, by omega⟩
  simp only at hs
  have hall := sgl_all hn
  have hbm : bmE s = if (listsL s 1).length = 1 ∧ agrO s off0 = false then 0 else 7 := by unfold bmE; rw [if_pos hc]
  constructor
  · intro hfd
    obtain ⟨_, hno⟩ := h.no hfd
    have hng : ∀ q, q ∈ subsF 0 s.wgs.length → ¬ Good s.wo (outL q) := fun q hq hg => by
      obtain ⟨b, hb, rfl⟩ := hs q hq
      exact hno b.val hb (agL_iff.2 hg)
    have hf : ¬ fwE s = 0 := fun hf => by
      have ht := (fw_ok hc hf).told
      have hk : 0 ≤ fewK s := by
        unfold fwE at hf
        rw [if_pos hc] at hf
        by_cases hk : 0 ≤ fewK s
        · exact hk
        · rw [if_neg hk] at hf; cases hf
      have hh := (firstOf_hit (f := fun k => decide (0 < (listsL s k).length)) (n := s.wgs.length + 1) hk).1
      have hh' : 0 < (listsL s (fewK s).toNat).length := of_decide_eq_true hh
      cases hL : listsL s (fewK s).toNat with
      | nil => rw [hL] at hh'; simp at hh'
      | cons f0 ls =>
        rw [listsL_out] at hL
        obtain ⟨⟨t, k1, k2⟩, k3, _, _⟩ := (pick_best s.wgs.length 0 []).1 f0 ls hL
        rw [List.nil_append] at k2
        subst k2
        exact hng f0 k1 (agL_iff.1 k3)
    have hb7 : bmE s = 7 := by
      rcases bm_cases hc with hb | hb
      · exact absurd (bm_ok hc hb).1 hf
      · exact hb
    refine ⟨(fw_no hc hf).1, by unfold fwL; rw [if_neg hf], hb7, ?_⟩
    unfold bmV
    rw [if_neg (by rw [hb7]; decide)]
  · intro hfd
    obtain ⟨h1, h2, h3⟩ := h.yes hfd
    have hg := agL_iff.1 h1
    have hf := fw_yes hc hg
    have hr : fwL s = r := least_one hc hn hf hg h2 (fun q hq hgq => by
      obtain ⟨b, hb, rfl⟩ := hs q hq
      exact h3 b.val hb (agL_iff.2 hgq))
    have hnil : r.length = 0 ↔ Good s.wo off0 := by rw [← fw_nil hc, hr]; exact ⟨fun e => ⟨hf, e⟩, fun e => e.2⟩
    have hbv : bmE s = 7 → bmV s = 0 := fun e => by unfold bmV; rw [if_neg (by rw [e]; decide)]
    refine ⟨hf, hr, fun h4 => ?_, fun h4 h5 => ?_⟩
    · have h7 : bmE s = 7 := by
        rw [hbm, if_neg]
        rintro ⟨k1, k2⟩
        rcases h4 with h4 | h4
        · rw [show agrO s off0 = true from truB_iff.2 (hnil.1 h4)] at k2; cases k2
        · exact h4 (by rw [hall]; exact k1)
      exact ⟨h7, hbv h7⟩
    · have hg0 : agrO s off0 = false := truB_false (fun hg => h4 (hnil.2 hg))
      have h8 : bmE s = 0 := by rw [hbm, if_pos ⟨by rw [← hall]; exact h5, hg0⟩]
      refine ⟨h8, ?_⟩
      unfold bmV sgA
      rw [if_pos h8, hall]
      rw [hall] at h5
      cases hL : listsL s 1 with
      | nil => rw [hL] at h5; cases h5
      | cons x t =>
        rw [hL] at h5
        cases t with
        | nil => rfl
        | cons y t => simp at h5
end
end Go.Proofs.Ythihdiilokdidaa
end

section
namespace Go.Proofs.Ythihdiilokdidaa
open Go.RowKit
attribute [local go_sem] Ex.cell? Ex.frozen?

theorem lex_at : ∀ {k : Nat} {a b : List Int}, (∀ i, i < k → gI a i = gI b i) → k < a.length → k < b.length → gI a k ≠ gI b k → lexL a b = decide (gI a k < gI b k)
  | 0, x :: a, y :: b, _, _, _, h => by
    have h' : x ≠ y := h
    rw [lexL, if_neg h']
    rfl
  | k + 1, x :: a, y :: b, hp, h1, h2, h => by
    have h0 : x = y := hp 0 (by omega)
    rw [lexL, if_pos h0]
    exact lex_at (k := k) (a := a) (b := b) (fun i hi => hp (i + 1) (by omega)) (by simpa using h1) (by simpa using h2) h
  | _, [], _, _, h1, _, _ => by simp at h1
  | _, _ :: _, [], _, _, h2, _ => by simp at h2
theorem lex_same {a b : List Int} (hl : a.length = b.length) (h : ∀ i, i < a.length → gI a i = gI b i) : a = b := by
  refine List.ext_getElem hl (fun i h1 h2 => ?_)
  have := h i h1
  simpa [gI, h1, h2] using this

set_option maxRecDepth 100000 in
set_option maxHeartbeats 3200000 in
theorem Less_any (A B : Option Addr) (c d : Nat) (a b : List Int) (w : World) (hl : a.length ≤ 1000000) (hl2 : b.length ≤ 1000000) (hA : SlAt w w.heap.size 1 A a.length (fI a)) (hB : SlAt w w.heap.size 1 B b.length (fI b)) :
    Calls Try.prog 40 #[.slice A a.length c, .slice B b.length d] w fun e w' => e = .returned (.bool (lessL a b)) ∧ Below w.heap.size w w' := by
  by_cases heq : a.length = b.length
  rotate_left
  · have HR : Hid (lessL a b = decide (a.length < b.length)) := Lib.hid (by unfold lessL; rw [if_neg heq])
    have e1 : (a.length == b.length) = false := by simp [heq]
    have e2 : ((a.length : Int) == (b.length : Int)) = false := by rw [beq_eq_false_iff_ne]; omega
    have HD : Hid (decide ((a.length : Int) < (b.length : Int)) = decide (a.length < b.length)) := Lib.hid (by rw [decide_eq_decide]; omega)
    rw [HR.out]
    clear HR heq
    go_enter Try.func40, Try.ntmps40
    go_wp2_with fail
    refine wp_loop (fun a' W => Rel (fun a' W => W = w ∧ ∃ u : Nat → Value, a' = ⟨List.toArray (.slice A a.length c :: .slice B b.length d :: u 2 :: u 3 :: u 4 :: .int .i64 0 :: u 6 :: u 7 :: u 8 :: u 9 :: u 10 :: u 11 :: u 12 :: u 13 :: u 14 :: u 15 :: u 16 :: u 17 :: u 18 :: u 19 :: u 20 :: u 21 :: u 22 :: u 23 :: u 24 :: u 25 :: u 26 :: u 27 :: u 28 :: u 29 :: u 30 :: u 31 :: u 32 :: u 33 :: u 34 :: u 35 :: u 36 :: u 37 :: u 38 :: u 39 :: u 40 :: u 41 :: []), []⟩) a' W)
      (fun _ _ => 0) ⟨⟨rfl, exFrame (by kernel_rfl)⟩⟩ ?_
    rintro a' W ⟨⟨rfl, u, rfl⟩⟩
    go_wp2 <;> (go_ret; exact ⟨rfl, Below.refl _ _⟩)
  · have e1 : (a.length == b.length) = true := by simp [heq]
    have e2 : ((a.length : Int) == (b.length : Int)) = true := by rw [beq_iff_eq]; omega
    have HL := Lib.hid heq
    have HR : Hid (lessL a b = lexL a b) := Lib.hid (by unfold lessL; rw [if_pos heq])
    rw [HR.out]
    clear HR
    obtain ⟨n, hn⟩ : ∃ n, a.length = n := ⟨_, rfl⟩
    have hbn : b.length = n := by omega
    have HN := Lib.hid hn
    have HBN := Lib.hid hbn
    rw [hn] at hl hA e1 e2 ⊢
    rw [hbn] at hB e1 e2 ⊢
    clear hn hbn hl2 heq e1 e2
    go_enter Try.func40, Try.ntmps40
    go_wp2_with fail
    refine wp_loop (fun a' W => Rel (fun a' W => ∃ k : Nat, k ≤ n ∧ Below w.heap.size w W ∧ Hid (∀ i, i < k → gI a i = gI b i) ∧ ∃ u : Nat → Value, a' = ⟨List.toArray (.slice A n c :: .slice B n d :: u 2 :: u 3 :: u 4 :: .int .i64 (k : Int) :: u 6 :: u 7 :: u 8 :: u 9 :: u 10 :: u 11 :: u 12 :: u 13 :: u 14 :: u 15 :: u 16 :: u 17 :: u 18 :: u 19 :: u 20 :: u 21 :: u 22 :: u 23 :: u 24 :: u 25 :: u 26 :: u 27 :: u 28 :: u 29 :: u 30 :: u 31 :: u 32 :: u 33 :: u 34 :: u 35 :: u 36 :: u 37 :: u 38 :: u 39 :: u 40 :: u 41 :: []), []⟩) a' W)
      (fun a' _ => n - (intOf (a'.tmps.getD 5 undef)).toNat) ⟨⟨0, by omega, Below.refl _ _, Lib.hid (fun i hi => by omega), exFrame (by kernel_rfl)⟩⟩ ?_
    rintro a' W ⟨⟨k, hk, hbl, HP, u, rfl⟩⟩
    by_cases hlt : k < n
    · have ha := (hA.below hbl).up hbl.size
      have hb := (hB.below hbl).up hbl.size
      obtain ⟨bi, oi, rfl, hbi, g0⟩ := IsInts.at_ ha hlt
      obtain ⟨bj, oj, rfl, hbj, k0⟩ := IsInts.at_ hb hlt
      by_cases hx : gI a k = gI b k
      · have HP2 := Lib.hid (show ∀ i, i < k + 1 → gI a i = gI b i from fun i hi => by
          rcases Nat.lt_succ_iff_lt_or_eq.1 hi with h3 | h3
          · exact HP.out i h3
          · subst h3; exact hx)
        rw [hx] at g0
        generalize gI b k = xb at *
        clear hx
        go_wp2_with fail
        refine wp_region_ext_mix 8 [(false, 0), (false, 1), (false, 2), (false, 3), (false, 4), (false, 5), (false, 6), (false, 7)] (by kernel_rfl) (by kernel_rfl) (by intro d _ _ _ _ h; cases d <;> exact h) ?_
        have hX0 := (Below.refl W.heap.size W).drew
        repeat (refine mix_quiet rfl ?_; go_big_quiet_step (fail); refine wpQuiet_nil ?_)
        refine mix_nil rfl ?_
        have hbX := ex_trans hbl hX0
        go_wp2_with fail
        refine ⟨⟨⟨k + 1, by omega, hbX, HP2, exFrame (by kernel_rfl)⟩⟩, ?_⟩
        show n - (intOf (.int .i64 ((k : Int) + 1))).toNat < n - (intOf (.int .i64 (k : Int))).toNat
        simp [intOf]
        omega
      · have HV : Hid (lexL a b = decide (gI a k < gI b k)) := Lib.hid (lex_at HP.out (by rw [HN.out]; exact hlt) (by rw [HBN.out]; exact hlt) hx)
        have e3 : (gI a k != gI b k) = true := by simp [hx]
        have e4 : (gI a k == gI b k) = false := by simp [hx]
        generalize gI a k = xa at *
        generalize gI b k = xb at *
        clear hx
        go_wp2_with fail
        refine wp_region_ext_mix 8 [(false, 0), (false, 1), (false, 2), (false, 3), (false, 4), (false, 5), (false, 6), (false, 7)] (by kernel_rfl) (by kernel_rfl) (by intro d _ _ _ _ h; cases d <;> exact h) ?_
        have hX0 := (Below.refl W.heap.size W).drew
        repeat (refine mix_quiet rfl ?_; go_big_quiet_step (fail); refine wpQuiet_nil ?_)
        refine mix_nil rfl ?_
        have g0' : W.drew.cell? ⟨bi, oi + k, none⟩ = some (.int .i64 xa) := g0
        have k0' : W.drew.cell? ⟨bj, oj + k, none⟩ = some (.int .i64 xb) := k0
        have hbi' : bi < W.drew.heap.size := hbi
        have hbj' : bj < W.drew.heap.size := hbj
        have hbX := ex_trans hbl hX0
        clear ha hb
        generalize W.drew = V at *
        go_wp2_with fail
        refine wp_region_ext_mix 8 [(false, 0), (false, 1), (false, 2), (false, 3), (false, 4), (false, 5), (false, 6), (false, 7)] (by kernel_rfl) (by kernel_rfl) (by intro d _ _ _ _ h; cases d <;> exact h) ?_
        have hX1 := (Below.refl V.heap.size V).drew
        repeat (refine mix_quiet rfl ?_; go_big_quiet_step (fail); refine wpQuiet_nil ?_)
        refine mix_nil (r := [_, _]) rfl ?_
        go_wp2
        go_ret
        exact ⟨by rw [HV.out]; rfl, ex_trans hbX hX1⟩
    · have hkE : k = n := by omega
      subst hkE
      have HV : Hid (lexL a b = false) := Lib.hid (by rw [lex_same HL.out (fun i hi => HP.out i (by rw [HN.out] at hi; exact hi))]; exact lexL_irr _)
      go_wp2
      go_ret
      exact ⟨by rw [HV.out]; rfl, hbl⟩
end Go.Proofs.Ythihdiilokdidaa
end
