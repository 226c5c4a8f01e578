/- Spill's reference: Stocks (walk): the ranges over all truths. · Spill's reference: IsBook, Says (walks). · Spill's outright laws (plain): what Missing and Lost tell. -/
import Derived.Test.YthihdiilokdidaaS13
import Derived.Test.YthihdiilokdidaaS12
set_option linter.unusedVariables false
set_option linter.unusedSimpArgs false
set_option linter.unusedSectionVars false
section
namespace Go.Proofs.Ythihdiilokdidaa
open Go.RowKit
attribute [local go_sem] Ex.cell? Ex.frozen?

theorem rangeR_info : (Try.prog.info? 52).map (fun i => (i.zero, i.size, i.bytes)) = some (some (.agg #[.int .i64 0, .int .i64 0]), 2, 16) := by kernel_rfl
theorem rowsR_info : (Try.prog.info? 53).map (fun i => (i.zero, i.size, i.bytes)) = some (some (.slice none 0 0), 1, 24) := by kernel_rfl
theorem run_make_rg (n : Nat) (hn : n ≤ 16) : ∃ oc : Array Value, (oc.size = n * 2 ∧ ∀ i, i < n * 2 → oc[i]? = some (.int .i64 0)) ∧ ∀ W : World, (Instr.makeSlice 53 (.int .i64 (n : Int)) (.int .i64 (n : Int))).run Try.prog W = .ok (.slice (some ⟨W.heap.size, 0, none⟩) n n) (W.alloc (.cells oc 52)) := by
  obtain ⟨i0, hi0, hz0, hz1, hz2⟩ := info_parts rangeR_info
  refine ⟨_, ⟨?_, ?_⟩, fun W => by
    have := run_makeSlice (P := Try.prog) (w := W) 53 52 i0 _ Try.underlying53 hi0 hz0 .i64 .i64 (n : Int) (n : Int) (by omega) (by omega) (by rw [hz1, Int.toNat_natCast]; omega) (by rw [hz2]; omega) (by omega)
    rw [Int.toNat_natCast, hz1] at this
    exact this⟩
  · exact size_madeCells _ _
  · intro i hi
    have h2 : i % 2 = 0 ∨ i % 2 = 1 := by omega
    rcases h2 with h2 | h2 <;> simp [madeCells, hi, h2, Value.cells]
theorem accR_none {p : Nat → Bool} {S : Nat → Int} : ∀ {n : Nat}, anyTo p n = false → accR p S n = ⟨0, 0⟩
  | 0, _ => rfl
  | n + 1, h => by
    rw [anyTo, Bool.or_eq_false_iff] at h
    unfold accR
    rw [if_neg (by rw [h.2]; decide), accR_none h.1]
/-- the ranges over the numbers below n. -/
noncomputable def accN (s : Ws) (o : List Int) (n : Nat) : Nat → Nat → Rg := fun i d => accR (gdB s o) (fun q => stkN s.wo q i d) n
/-- the first i rows, and d places of the next one, of one number more. -/
def mixF (f f' : Nat → Nat → Rg) (i d : Nat) : Nat → Nat → Rg := fun i' d' => if i' < i ∨ (i' = i ∧ d' < d) then f' i' d' else f i' d'
theorem mixF_row {f f' : Nat → Nat → Rg} {i D : Nat} (i' d' : Nat) (h : d' < D) : mixF f f' i D i' d' = mixF f f' (i + 1) 0 i' d' := by
  unfold mixF
  by_cases h1 : i' < i + 1
  · rw [if_pos (by omega), if_pos (by omega)]
  · rw [if_neg (by omega), if_neg (by omega)]
theorem mixF_put {f f' : Nat → Nat → Rg} {i d : Nat} {r : Rg} (h : r = f' i d) (i' d' : Nat) : updR (mixF f f' i d) i d r i' d' = mixF f f' i (d + 1) i' d' := by
  unfold updR mixF
  by_cases h1 : i' = i ∧ d' = d
  · obtain ⟨rfl, rfl⟩ := h1
    rw [if_pos ⟨rfl, rfl⟩, if_pos (by omega), h]
  · rw [if_neg h1]
    by_cases h2 : i' < i ∨ (i' = i ∧ d' < d)
    · rw [if_pos h2, if_pos (by omega)]
    · rw [if_neg h2, if_neg (by omega)]
theorem mixF_put2 {f f' : Nat → Nat → Rg} {i d : Nat} {r q : Rg} (h : r = f' i d) (i' d' : Nat) : updR (updR (mixF f f' i d) i d q) i d r i' d' = mixF f f' i (d + 1) i' d' := by
  rw [← mixF_put h i' d']
  unfold updR
  by_cases h1 : i' = i ∧ d' = d
  · rw [if_pos h1, if_pos h1]
  · rw [if_neg h1, if_neg h1, if_neg h1]
theorem mixF_at {f f' : Nat → Nat → Rg} {i d : Nat} : mixF f f' i d i d = f i d := by
  unfold mixF
  rw [if_neg (by omega)]
theorem updR_at {f : Nat → Nat → Rg} {i d : Nat} {r : Rg} : updR f i d r i d = r := by
  unfold updR
  rw [if_pos ⟨rfl, rfl⟩]
theorem NOwn.grow {α : Type} {T1 T2 T3 : TypeId} {s1 s2 s3 n3 base : Nat} {c : α → List Value} {A : α → Option Addr} {n : α → Nat} {f : α → Nat → Nat → Value} {W W' : World} {B : Nat} {v v3 : Value} {X : List α} {xs : List Value} (h : NOwn T1 s1 T2 s2 c A n f W B v X) (hg : W.grownBy W' v3.ownBlock) (ho : W.ownsRow base T3 s3 v3 n3 xs) (h1 : T1 ≠ T3) (h2 : T2 ≠ T3) : NOwn T1 s1 T2 s2 c A n f W' B v X :=
  ⟨own_grow h.own hg (fun b hb => own_ownne h.own ho h1 hb), fun x hx => (h.ins x hx).grown hg ho (fun e => h2 e.symm)⟩
/-- what Stocks has in memory. -/
structure StkA (s : Ws) (wc : Array Value) (w : World) (p0 B0 : Nat) (v : Value) (g : Nat → Nat) (m D : Nat) (f : Nat → Nat → Rg) (W : World) : Prop where
  bw : Below w.heap.size w W
  sz : B0 ≤ W.heap.size
  q0 : Blk W p0 26 wc
  rw : ROws W B0 v g m D f
theorem StkA.below {s : Ws} {wc : Array Value} {w : World} {p0 B0 : Nat} {v : Value} {g : Nat → Nat} {m D : Nat} {f : Nat → Nat → Rg} {W W' : World} (h : StkA s wc w p0 B0 v g m D f W) (hb : Below W.heap.size W W') : StkA s wc w p0 B0 v g m D f W' :=
  ⟨ex_trans h.bw hb, Nat.le_trans h.sz hb.size, h.q0.below hb h.q0.lt, h.rw.below hb⟩
theorem StkA.ext {s : Ws} {wc : Array Value} {w : World} {p0 B0 : Nat} {v : Value} {g : Nat → Nat} {m D : Nat} {f f' : Nat → Nat → Rg} {W : World} (h : StkA s wc w p0 B0 v g m D f W) (he : ∀ i d, i < m → d < D → f i d = f' i d) : StkA s wc w p0 B0 v g m D f' W := ⟨h.bw, h.sz, h.q0, h.rw.ext he⟩
theorem StkA.put {s : Ws} {wc : Array Value} {w : World} {p0 B0 : Nat} {v : Value} {g : Nat → Nat} {m D : Nat} {f : Nat → Nat → Rg} {W : World} (h : StkA s wc w p0 B0 v g m D f W) (hB : p0 < B0) (hw : w.heap.size ≤ B0) {i d : Nat} (hi : i < m) (hd : d < D) (a b : Int) : StkA s wc w p0 B0 v g m D (updR f i d ⟨a, b⟩) ((W.setCell ⟨g i, d * 2, none⟩ (.int .i64 a)).setCell ⟨g i, d * 2 + 1, none⟩ (.int .i64 b)) := by
  have hg := (h.rw.row i hi).1
  refine ⟨(h.bw.setCell (p := ⟨g i, d * 2, none⟩) (by show w.heap.size ≤ g i; omega) _).setCell (p := ⟨g i, d * 2 + 1, none⟩) (by show w.heap.size ≤ g i; omega) _, by have := h.sz; simpa using this, ?_, h.rw.put hi hd a b⟩
  exact h.q0.fr ((Fr.set (R := fun x => x = g i) W (g i) (d * 2) (.int .i64 a) rfl).andSet rfl) (by show ¬ p0 = g i; omega)
/-- what Stocks tells. -/
structure RsV (s : Ws) (o : List Int) (w' : World) (n : Nat) (A : Option Addr) (c : Nat) (rA : Nat → Option Addr) (rc : Nat → Nat) : Prop where
  yes : Good s.wo (outL o) → n = s.rooms.length ∧ RgsIn w' w'.heap.size A n s.wo.days (stkR s.wo (outL o)) rA rc
  no : ¬ Good s.wo (outL o) → n = 0
set_option maxRecDepth 100000 in
set_option maxHeartbeats 3200000 in
theorem Stocks_ref (s : Ws) (Ar Am Aw : Option Addr) (cr cm cw : Nat) (w : World) (hs : WsIn w w.heap.size s Ar Am Aw) (hw : WoOk s.wo) (hd : s.days = (s.wo.days : Int)) (o : List Int) (Ao : Option Addr) (co : Nat) (ho : SlAt w w.heap.size 1 Ao o.length (fI o)) (hlo : o.length ≤ 1000000) (hfew : wideTo (wdP s.wo) (placesP s.wo) ≤ 1500) :
    Calls Try.prog 21 #[.agg #[.slice Ar s.rooms.length cr, .int .i64 s.days, .slice Am s.moves.length cm, .slice Aw s.wgs.length cw], .slice Ao o.length co] w fun e w' => (∃ n A c rA rc, e = .returned (.tuple #[.slice A n c, .bool (truB (Good s.wo (outL o)))]) ∧ RsV s o w' n A c rA rc) ∧ Below w.heap.size w w' := by
  obtain ⟨i1, hi1, hy0, hy1, hy2⟩ := info_parts rowsR_info
  have HJ := Lib.hid hi1
  clear hi1
  obtain ⟨D, hD⟩ : ∃ D, s.wo.days = D := ⟨_, rfl⟩
  have hD6 : 1 ≤ D ∧ D ≤ 6 := by have := hw.days; omega
  have hr3 : 0 < s.rooms.length ∧ s.rooms.length ≤ 3 := ⟨hw.len.1, hw.len.2.1⟩
  have HD := Lib.hid hD
  have HSD : Hid (s.days = (D : Int)) := Lib.hid (by rw [hd, hD])
  have HDD := Lib.hid hd
  have hpr := wideTo_le (wd := wdP s.wo) (K := placesP s.wo) (fun k hk => wdP_pos hw hk) (by omega)
  obtain ⟨N, hN⟩ : ∃ N, wideTo (wdP s.wo) (placesP s.wo) = N := ⟨_, rfl⟩
  rw [hN] at hfew hpr
  have HN := Lib.hid hN
  have HPR := Lib.hid hpr
  clear hD hd hN hpr
  obtain ⟨oc0, ⟨hoc0, hoc1⟩, hmks⟩ := run_make_rg D (by omega)
  have HOC := Lib.hid (And.intro hoc0 hoc1)
  clear hoc0 hoc1
  have hb1 := ex_alloc (Below.refl w.heap.size w) (.cells #[.slice Ar s.rooms.length cr, .int .i64 s.days, .slice Am s.moves.length cm, .slice Aw s.wgs.length cw] 26)
  have q0 : Blk (w.alloc (.cells #[.slice Ar s.rooms.length cr, .int .i64 s.days, .slice Am s.moves.length cm, .slice Aw s.wgs.length cw] 26)) w.heap.size 26 #[.slice Ar s.rooms.length cr, .int .i64 s.days, .slice Am s.moves.length cm, .slice Aw s.wgs.length cw] := Blk.new _ _ _
  replace hs := hs.go hb1
  replace ho := (ho.below hb1).up hb1.size
  go_enter Try.func21, Try.ntmps21
  go_upto_region 1 with fail
  obtain ⟨p0, hp0⟩ : ∃ p, w.heap.size = p := ⟨_, rfl⟩
  rw [hp0] at q0 ⊢
  generalize w.alloc (.cells #[.slice Ar s.rooms.length cr, .int .i64 s.days, .slice Am s.moves.length cm, .slice Aw s.wgs.length cw] 26) = W1 at *
  have a0 : W1.cell? ⟨p0, 0, none⟩ = some (.slice Ar s.rooms.length cr) := q0.cell 0
  have a1 : W1.cell? ⟨p0, 1, none⟩ = some (.int .i64 s.days) := q0.cell 1
  have a2 : W1.cell? ⟨p0, 2, none⟩ = some (.slice Am s.moves.length cm) := q0.cell 2
  have a3 : W1.cell? ⟨p0, 3, none⟩ = some (.slice Aw s.wgs.length cw) := q0.cell 3
  have l0 := q0.lt
  go_wp2_with fail
  refine (Wide_ref s Ar Am Aw cr cm cw W1 hs hw HDD.out).mono ?_
  rintro e W2 ⟨rfl, hW2⟩
  rw [HN.out]
  replace hb1 := ex_trans hb1 hW2
  replace q0 := q0.below hW2 q0.lt
  replace hs := hs.go hW2
  replace ho := (ho.below hW2).up hW2.size
  clear a0 a1 a2 a3 l0 hW2 W1
  obtain ⟨B0, hB0⟩ : ∃ b, W2.heap.size = b := ⟨_, rfl⟩
  have hbs : p0 < B0 := by have := q0.lt; omega
  have hwB : w.heap.size ≤ B0 := by omega
  have HS := Lib.hid hs
  have HO := Lib.hid ho
  clear hs ho hp0
  have S0 : StkA s #[.slice Ar s.rooms.length cr, .int .i64 s.days, .slice Am s.moves.length cm, .slice Aw s.wgs.length cw] w p0 B0 (.slice none 0 0) (fun _ => 0) 0 D (accN s o 0) W2 := ⟨hb1, by omega, q0, ROws.nil⟩
  have HB0 := Lib.hid hB0
  clear hb1 q0 hB0
  go_wp2_with fail
  refine wp_loop (fun a W => Rel (fun a W => ∃ n : Nat, n ≤ N ∧ ∃ v g m, StkA s #[.slice Ar s.rooms.length cr, .int .i64 s.days, .slice Am s.moves.length cm, .slice Aw s.wgs.length cw] w p0 B0 v g m D (accN s o n) W ∧ Below W2.heap.size W2 W ∧ Hid (m = if anyTo (gdB s o) n = true then s.rooms.length else 0) ∧ ∃ u : Nat → Value, a = ⟨List.toArray (u 0 :: .slice Ao o.length co :: .pointer (some ⟨p0, 0, none⟩) :: u 3 :: u 4 :: u 5 :: v :: .int .i64 (N : Int) :: .int .i64 (n : Int) :: u 9 :: u 10 :: u 11 :: u 12 :: u 13 :: u 14 :: u 15 :: u 16 :: u 17 :: u 18 :: u 19 :: u 20 :: u 21 :: u 22 :: u 23 :: u 24 :: u 25 :: u 26 :: u 27 :: u 28 :: u 29 :: u 30 :: u 31 :: u 32 :: u 33 :: u 34 :: u 35 :: u 36 :: u 37 :: u 38 :: u 39 :: u 40 :: u 41 :: u 42 :: u 43 :: u 44 :: u 45 :: u 46 :: u 47 :: u 48 :: u 49 :: u 50 :: u 51 :: u 52 :: u 53 :: u 54 :: u 55 :: u 56 :: u 57 :: u 58 :: u 59 :: u 60 :: u 61 :: u 62 :: u 63 :: u 64 :: u 65 :: u 66 :: u 67 :: u 68 :: u 69 :: u 70 :: u 71 :: u 72 :: u 73 :: u 74 :: u 75 :: u 76 :: u 77 :: u 78 :: u 79 :: u 80 :: u 81 :: u 82 :: u 83 :: u 84 :: u 85 :: u 86 :: u 87 :: u 88 :: u 89 :: u 90 :: u 91 :: u 92 :: u 93 :: u 94 :: u 95 :: u 96 :: u 97 :: u 98 :: u 99 :: u 100 :: u 101 :: u 102 :: u 103 :: u 104 :: u 105 :: u 106 :: u 107 :: u 108 :: u 109 :: u 110 :: u 111 :: u 112 :: u 113 :: u 114 :: u 115 :: u 116 :: u 117 :: u 118 :: u 119 :: u 120 :: u 121 :: u 122 :: u 123 :: u 124 :: []), []⟩) a W) (fun a _ => N - (intOf (a.tmps.getD 8 undef)).toNat) ⟨⟨0, by omega, _, _, _, S0, Below.refl _ _, Lib.hid rfl, exFrame (by kernel_rfl)⟩⟩ ?_
  clear S0
  rintro a W ⟨⟨n, hn, v, g, m, S0, hb, HM, u, rfl⟩⟩
  by_cases hlt : n < N
  · have q0 := S0.q0
    have a0 : W.cell? ⟨p0, 0, none⟩ = some (.slice Ar s.rooms.length cr) := q0.cell 0
    have a1 : W.cell? ⟨p0, 1, none⟩ = some (.int .i64 s.days) := q0.cell 1
    have a2 : W.cell? ⟨p0, 2, none⟩ = some (.slice Am s.moves.length cm) := q0.cell 2
    have a3 : W.cell? ⟨p0, 3, none⟩ = some (.slice Aw s.wgs.length cw) := q0.cell 3
    have l0 := q0.lt
    have hnN : (n : Int) < (N : Int) := by omega
    have hm3 : m ≤ 3 := by have := HM.out; split at this <;> omega
    go_upto_region 6 with fail
    have X0 := (Below.refl W.heap.size W).drew
    refine wp_region_ext_mix 9 [(false, 0), (false, 1), (false, 2), (true, 3), (true, 4), (false, 5), (false, 6), (false, 7), (false, 8)] (by kernel_rfl) (by kernel_rfl) (by intro d _ _ _ _ h; cases d <;> exact h) ?_
    repeat (refine mix_quiet rfl ?_; go_big_quiet_step (fail); refine wpQuiet_nil ?_)
    obtain ⟨Y, hY⟩ : ∃ Y, W.drew = Y := ⟨_, rfl⟩
    rw [hY] at X0 ⊢
    clear hY
    have hs1 := HS.out.go (ex_trans hb X0)
    refine mix_loud rfl ?_
    go_wp2_with fail
    refine (Nth_ref s Ar Am Aw cr cm cw Y hs1 hw HDD.out n (by omega)).mono ?_
    rintro e W3 ⟨⟨t, A1, A2, A3, c1, c2, c3, rfl, hnt, htt⟩, h3⟩
    have X3 := ex_trans X0 h3
    have hs3 := hs1.go h3
    obtain ⟨rV, rcV, hti⟩ := htt.tt
    have HNT := Lib.hid hnt
    clear hs1 hnt htt
    go_wp2_with fail
    refine ⟨inEx X3, ?_⟩
    refine mix_loud rfl ?_
    go_wp2_with fail
    refine (Play_own s Ar Am Aw cr cm cw W3 hs3 hw HDD.out t A1 A2 A3 c1 c2 c3 rV rcV hti (HNT.out.tru hw HDD.out)).mono ?_
    rintro e W4 ⟨⟨AS, cS, X, rfl, hIO, hIX⟩, h4⟩
    have X4 := ex_trans X3 h4
    clear hti hs3
    go_wp2_with fail
    refine ⟨inEx X4, ?_⟩
    repeat (refine mix_quiet rfl ?_; go_big_quiet_step (fail); refine wpQuiet_nil ?_)
    refine mix_nil (r := [_]) rfl ?_
    have S4 := S0.below X4
    have HX := Lib.hid hIX
    have hIO := hIO.base (Nat.zero_le _)
    have HGD : Hid (gdB s o n = (canT s t && agrL s (stk s.wo t.F t.V t.G) o)) := Lib.hid (good_of_nth hw HNT.out)
    have hb4 := ex_trans hb X4
    have hsz4 := X4.size
    clear S0 hIX X0 h3 X3 h4 q0 a0 a1 a2 a3 l0
    have q0 := S4.q0
    have a0 : W4.cell? ⟨p0, 0, none⟩ = some (.slice Ar s.rooms.length cr) := q0.cell 0
    have a1 : W4.cell? ⟨p0, 1, none⟩ = some (.int .i64 s.days) := q0.cell 1
    have a2 : W4.cell? ⟨p0, 2, none⟩ = some (.slice Am s.moves.length cm) := q0.cell 2
    have a3 : W4.cell? ⟨p0, 3, none⟩ = some (.slice Aw s.wgs.length cw) := q0.cell 3
    have l0 := q0.lt
    cases hcn : canT s t
    · have HG0 : gdB s o n = false := by rw [HGD.out, hcn]; rfl
      clear hcn
      have HGN : Hid (gdB s o n = false) := Lib.hid HG0
      have SN := S4.ext (f' := accN s o (n + 1)) (fun i d _ _ => by unfold accN; rw [accR, if_neg (by rw [HGN.out]; decide)])
      have HM2 : Hid (m = if anyTo (gdB s o) (n + 1) = true then s.rooms.length else 0) := Lib.hid (by rw [HM.out, anyTo, HGN.out, Bool.or_false])
      clear HG0 HGD
      go_wp2_with fail
      refine ⟨⟨⟨n + 1, by omega, v, g, m, SN, hb4, HM2, exFrame (by kernel_rfl)⟩⟩, ?_⟩
      show N - (intOf (.int .i64 ((n : Int) + 1))).toNat < N - (intOf (.int .i64 (n : Int))).toNat
      simp [intOf]
      omega
    have HCN := Lib.hid hcn
    clear hcn
    obtain ⟨A', c', rA, rc, e9, hmt⟩ := IOwn.lays hIO HX.out
    injection e9 with e1 e0 e2
    subst e1 e2
    clear e0
    go_wp2_with fail
    refine (Agrees_ref s Ar Am Aw cr cm cw W4 (HS.out.go hb4) hw (stk s.wo t.F t.V t.G) AS cS rA rc hmt o Ao co ((HO.out.below hb4).up hb4.size) hlo).mono ?_
    rintro e W5 ⟨rfl, h5⟩
    have S5 := S4.below h5
    have hIO5 := NOwn.below hIO h5
    have hb5 := ex_trans hb4 h5
    have hsz5 := h5.size
    clear S4 hIO hb4 hmt h5 q0 a0 a1 a2 a3 l0
    have q0 := S5.q0
    have a0 : W5.cell? ⟨p0, 0, none⟩ = some (.slice Ar s.rooms.length cr) := q0.cell 0
    have a1 : W5.cell? ⟨p0, 1, none⟩ = some (.int .i64 s.days) := q0.cell 1
    have a2 : W5.cell? ⟨p0, 2, none⟩ = some (.slice Am s.moves.length cm) := q0.cell 2
    have a3 : W5.cell? ⟨p0, 3, none⟩ = some (.slice Aw s.wgs.length cw) := q0.cell 3
    have l0 := q0.lt
    cases hag : agrL s (stk s.wo t.F t.V t.G) o
    · have HG0 : gdB s o n = false := by rw [HGD.out, HCN.out, hag]; rfl
      clear hag
      have HGN : Hid (gdB s o n = false) := Lib.hid HG0
      have SN := S5.ext (f' := accN s o (n + 1)) (fun i d _ _ => by unfold accN; rw [accR, if_neg (by rw [HGN.out]; decide)])
      have HM2 : Hid (m = if anyTo (gdB s o) (n + 1) = true then s.rooms.length else 0) := Lib.hid (by rw [HM.out, anyTo, HGN.out, Bool.or_false])
      clear HG0 HGD
      go_wp2_with fail
      refine ⟨⟨⟨n + 1, by omega, v, g, m, SN, hb5, HM2, exFrame (by kernel_rfl)⟩⟩, ?_⟩
      show N - (intOf (.int .i64 ((n : Int) + 1))).toNat < N - (intOf (.int .i64 (n : Int))).toNat
      simp [intOf]
      omega
    have HG1 : Hid (gdB s o n = true) := Lib.hid (by rw [HGD.out, HCN.out, hag]; rfl)
    clear hag HGD HCN
    have HST : Hid (∀ i d, i < s.rooms.length → d < D → stk s.wo t.F t.V t.G i d = stkN s.wo n i d) := Lib.hid (fun i d hi hd => HNT.out.stk hi (by rw [HD.out]; exact hd))
    have HAN : Hid (anyTo (gdB s o) (n + 1) = true) := Lib.hid (by rw [anyTo, HG1.out, Bool.or_true])
    obtain ⟨S, hS⟩ : ∃ S, stk s.wo t.F t.V t.G = S := ⟨_, rfl⟩
    rw [hS] at HX HST
    rw [HD.out] at HX
    clear hS HNT
    by_cases hany : anyTo (gdB s o) n = true
    · have HAY := Lib.hid hany
      clear hany
      have HMV : Hid (m = s.rooms.length) := Lib.hid (by rw [HM.out, if_pos HAY.out])
      have hmv := HMV.out
      subst hmv
      clear HM HMV
      have SI := S5.ext (f' := (mixF (accN s o n) (accN s o (n + 1)) 0 0)) (fun i d _ _ => by unfold mixF; rw [if_neg (by omega)])
      clear S5 q0 a0 a1 a2 a3 l0
      obtain ⟨A0, c0, rfl, _⟩ := SI.rw.lays
      have e1 : ((s.rooms.length : Int) == 0) = false := by rw [beq_eq_false_iff_ne]; omega
      have e3 : (s.rooms.length == 0) = false := by rw [beq_eq_false_iff_ne]; omega
      go_wp2_with fail
      refine wp_loop (fun a W => Rel (fun a W => ∃ i : Nat, i ≤ s.rooms.length ∧ ∃ v g, StkA s #[.slice Ar s.rooms.length cr, .int .i64 s.days, .slice Am s.moves.length cm, .slice Aw s.wgs.length cw] w p0 B0 v g s.rooms.length D (mixF (accN s o n) (accN s o (n + 1)) i 0) W ∧ IOwn W 0 (.slice AS s.rooms.length cS) X ∧ Below W2.heap.size W2 W ∧ ∃ u : Nat → Value, a = ⟨List.toArray (u 0 :: .slice Ao o.length co :: .pointer (some ⟨p0, 0, none⟩) :: u 3 :: u 4 :: u 5 :: v :: .int .i64 (N : Int) :: .int .i64 (n : Int) :: .slice AS s.rooms.length cS :: u 10 :: .bool false :: .int .i64 (i : Int) :: u 13 :: u 14 :: u 15 :: u 16 :: u 17 :: u 18 :: u 19 :: u 20 :: u 21 :: u 22 :: u 23 :: u 24 :: u 25 :: u 26 :: u 27 :: u 28 :: u 29 :: u 30 :: u 31 :: u 32 :: u 33 :: u 34 :: u 35 :: u 36 :: u 37 :: u 38 :: u 39 :: u 40 :: u 41 :: u 42 :: u 43 :: u 44 :: u 45 :: u 46 :: u 47 :: u 48 :: u 49 :: u 50 :: u 51 :: u 52 :: u 53 :: u 54 :: u 55 :: u 56 :: u 57 :: u 58 :: u 59 :: u 60 :: u 61 :: u 62 :: u 63 :: u 64 :: u 65 :: u 66 :: u 67 :: u 68 :: u 69 :: u 70 :: u 71 :: u 72 :: u 73 :: u 74 :: u 75 :: u 76 :: u 77 :: u 78 :: u 79 :: u 80 :: u 81 :: u 82 :: u 83 :: u 84 :: u 85 :: u 86 :: u 87 :: u 88 :: u 89 :: u 90 :: u 91 :: u 92 :: u 93 :: u 94 :: u 95 :: u 96 :: u 97 :: u 98 :: u 99 :: u 100 :: u 101 :: u 102 :: u 103 :: u 104 :: u 105 :: u 106 :: u 107 :: u 108 :: u 109 :: u 110 :: u 111 :: u 112 :: u 113 :: u 114 :: u 115 :: u 116 :: u 117 :: u 118 :: u 119 :: u 120 :: u 121 :: u 122 :: u 123 :: u 124 :: []), []⟩) a W) (fun a _ => s.rooms.length - (intOf (a.tmps.getD 12 undef)).toNat) ⟨⟨0, by omega, _, _, SI, hIO5, hb5, exFrame (by kernel_rfl)⟩⟩ ?_
      clear SI hIO5 hb5
      rintro a Z ⟨⟨i, hi, v, g, SI, hIO, hb, u2, rfl⟩⟩
      by_cases hli : i < s.rooms.length
      · have hin : (i : Int) < (s.rooms.length : Int) := by omega
        have q0 := SI.q0
        have a0 : Z.cell? ⟨p0, 0, none⟩ = some (.slice Ar s.rooms.length cr) := q0.cell 0
        have a1 : Z.cell? ⟨p0, 1, none⟩ = some (.int .i64 s.days) := q0.cell 1
        have a2 : Z.cell? ⟨p0, 2, none⟩ = some (.slice Am s.moves.length cm) := q0.cell 2
        have a3 : Z.cell? ⟨p0, 3, none⟩ = some (.slice Aw s.wgs.length cw) := q0.cell 3
        have l0 := q0.lt
        rw [HSD.out] at a1
        go_wp2_with fail
        refine wp_loop (fun a W => Rel (fun a W => ∃ j : Nat, j ≤ D ∧ StkA s #[.slice Ar s.rooms.length cr, .int .i64 s.days, .slice Am s.moves.length cm, .slice Aw s.wgs.length cw] w p0 B0 v g s.rooms.length D (mixF (accN s o n) (accN s o (n + 1)) i j) W ∧ IOwn W 0 (.slice AS s.rooms.length cS) X ∧ Below W2.heap.size W2 W ∧ ∃ u : Nat → Value, a = ⟨List.toArray (u 0 :: .slice Ao o.length co :: .pointer (some ⟨p0, 0, none⟩) :: u 3 :: u 4 :: u 5 :: v :: .int .i64 (N : Int) :: .int .i64 (n : Int) :: .slice AS s.rooms.length cS :: u 10 :: .bool false :: .int .i64 (i : Int) :: .int .i64 (j : Int) :: u 14 :: u 15 :: u 16 :: u 17 :: u 18 :: u 19 :: u 20 :: u 21 :: u 22 :: u 23 :: u 24 :: u 25 :: u 26 :: u 27 :: u 28 :: u 29 :: u 30 :: u 31 :: u 32 :: u 33 :: u 34 :: u 35 :: u 36 :: u 37 :: u 38 :: u 39 :: u 40 :: u 41 :: u 42 :: u 43 :: u 44 :: u 45 :: u 46 :: u 47 :: u 48 :: u 49 :: u 50 :: u 51 :: u 52 :: u 53 :: u 54 :: u 55 :: u 56 :: u 57 :: u 58 :: u 59 :: u 60 :: u 61 :: u 62 :: u 63 :: u 64 :: u 65 :: u 66 :: u 67 :: u 68 :: u 69 :: u 70 :: u 71 :: u 72 :: u 73 :: u 74 :: u 75 :: u 76 :: u 77 :: u 78 :: u 79 :: u 80 :: u 81 :: u 82 :: u 83 :: u 84 :: u 85 :: u 86 :: u 87 :: u 88 :: u 89 :: u 90 :: u 91 :: u 92 :: u 93 :: u 94 :: u 95 :: u 96 :: u 97 :: u 98 :: u 99 :: u 100 :: u 101 :: u 102 :: u 103 :: u 104 :: u 105 :: u 106 :: u 107 :: u 108 :: u 109 :: u 110 :: u 111 :: u 112 :: u 113 :: u 114 :: u 115 :: u 116 :: u 117 :: u 118 :: u 119 :: u 120 :: u 121 :: u 122 :: u 123 :: u 124 :: []), []⟩) a W) (fun a _ => D - (intOf (a.tmps.getD 13 undef)).toNat) ⟨⟨0, by omega, SI, hIO, hb, exFrame (by kernel_rfl)⟩⟩ ?_
        clear SI hIO hb q0 a0 a1 a2 a3 l0
        rintro a V ⟨⟨j, hj, SC, hIO, hb, u3, rfl⟩⟩
        have q0 := SC.q0
        have a0 : V.cell? ⟨p0, 0, none⟩ = some (.slice Ar s.rooms.length cr) := q0.cell 0
        have a1 : V.cell? ⟨p0, 1, none⟩ = some (.int .i64 s.days) := q0.cell 1
        have a2 : V.cell? ⟨p0, 2, none⟩ = some (.slice Am s.moves.length cm) := q0.cell 2
        have a3 : V.cell? ⟨p0, 3, none⟩ = some (.slice Aw s.wgs.length cw) := q0.cell 3
        have l0 := q0.lt
        rw [HSD.out] at a1
        by_cases hlj : j < D
        · have hjn : (j : Int) < (D : Int) := by omega
          obtain ⟨sv, hsv⟩ : ∃ x, S i j = x := ⟨_, rfl⟩
          have HSV : Hid (sv = stkN s.wo n i j) := Lib.hid (by rw [← hsv]; exact HST.out i j hli hlj)
          have HSV0 := Lib.hid hsv
          obtain ⟨A', c', rA, rc, e9, hmt⟩ := IOwn.lays hIO HX.out
          injection e9 with e1 e0 e2
          subst e1 e2
          clear e0
          obtain ⟨bs, os, hAS, hbs1, x0⟩ := hmt.out (by omega)
          subst hAS
          have x1 : V.cell? ⟨bs, os + i, none⟩ = some (.slice (rA i) D (rc i)) := by have := x0 i 0 hli (by omega); rw [show os + (i * 1 + 0) = os + i by omega] at this; exact this
          obtain ⟨br, or, hrA, hbr, y0⟩ := hmt.row i hli (by omega)
          have y1 : V.cell? ⟨br, or + j, none⟩ = some (.int .i64 (S i j)) := by have := y0 j 0 hlj (by omega); rw [show or + (j * 1 + 0) = or + j by omega] at this; exact this
          rw [hrA] at x1
          clear x0 y0 hrA hmt
          obtain ⟨ri, hri⟩ : ∃ r, rc i = r := ⟨_, rfl⟩
          rw [hri] at x1
          clear hri
          rw [hsv] at y1
          obtain ⟨b, cp, ev, hB, hbl, z0⟩ := SC.rw.at_ (i := i) (by omega)
          obtain ⟨z1, z2⟩ := SC.rw.cell (i := i) (d := j) (by omega) hlj
          have fz1 := SC.rw.frz (i := i) (by omega) (j * 2)
          have fz2 := SC.rw.frz (i := i) (by omega) (j * 2 + 1)
          have lg := (SC.rw.row i (by omega)).2.lt
          obtain ⟨cs, hqb, _⟩ := (SC.rw.row i (by omega)).2
          rw [mixF_at] at z1 z2
          have hgi := (SC.rw.row i (by omega)).1
          obtain ⟨gi, hgi2⟩ : ∃ x, g i = x := ⟨_, rfl⟩
          have HGI := Lib.hid hgi2
          rw [hgi2] at z0 z1 z2 fz1 fz2 lg hgi hqb
          clear hgi2
          clear hsv
          obtain ⟨lo, hlo2⟩ : ∃ x, (accN s o n i j).lo = x := ⟨_, rfl⟩
          obtain ⟨hi2, hhi2⟩ : ∃ x, (accN s o n i j).hi = x := ⟨_, rfl⟩
          have HLO := Lib.hid (And.intro hlo2 hhi2)
          rw [hlo2] at z1
          rw [hhi2] at z2
          clear hlo2 hhi2
          subst ev
          have HNX : Hid ((⟨min lo sv, max hi2 sv⟩ : Rg) = accN s o (n + 1) i j) := Lib.hid (by rw [← HLO.out.1, ← HLO.out.2]; unfold accN; rw [accR, if_pos HG1.out, if_pos HAY.out, HSV.out])
          go_upto_region 19 with fail
          have X0 := (Below.refl V.heap.size V).drew
          refine wp_region_ext_tqF 39 (.quiet 0 (.quiet 1 (.quiet 2 (.quiet 3 (.quiet 4 (.quiet 5 (.quiet 6 (.quiet 7 (.quiet 8 (.quiet 9 (.quiet 10 (.quiet 11 (.quiet 12 (.quiet 13 (.quiet 14 (.quiet 15 (.quiet 16 (.quiet 17 (.quiet 18 (.quiet 19 (.quiet 21 (.quiet 22 (.quiet 23 (.quiet 24 (.quiet 25 (.quiet 26 (.quiet 27 (.quiet 28 (.quiet 29 (.quiet 30 (.quiet 31 (.quiet 32 (.quiet 33 (.quiet 34 (.quiet 35 (.fork 20 (.loud 36 (.quiet 37 (.quiet 38 .done))) 36 (.loud 20 (.quiet 37 (.quiet 38 .done))))))))))))))))))))))))))))))))))))))) (by kernel_rfl) (by kernel_rfl) (by intro d _ _ _ _ h; cases d <;> exact h) ?_
          repeat (refine tq_quiet rfl ?_; go_big_quiet_step (fail); refine wpQuiet_nil ?_)
          refine tq_fork rfl rfl ?_ ?_
          · go_wp2_with fail
            refine ⟨inEx X0, ?_⟩
            repeat (refine tq_quiet rfl ?_; go_big_quiet_step (fail); refine wpQuiet_nil ?_)
            refine tq_loud rfl ?_
            go_wp2_with fail
            refine ⟨inEx X0, ?_⟩
            repeat (refine tq_quiet rfl ?_; go_big_quiet_step (fail); refine wpQuiet_nil ?_)
            refine tq_done (r := [_]) rfl ?_
            go_wp2_with fail
            have hS9 := SC.put hbs hwB (i := i) (d := j) (by omega) hlj (min lo sv) (max hi2 sv)
            rw [HGI.out] at hS9
            replace hS9 := hS9.below (Below.refl _ _).drew
            have hI9 := NOwn.below (NOwn.set (NOwn.set hIO hqb (by decide) (by decide) (j * 2) (.int .i64 (min lo sv))) (hqb.set_ (j * 2) (.int .i64 (min lo sv))) (by decide) (by decide) (j * 2 + 1) (.int .i64 (max hi2 sv))) (Below.refl _ _).drew
            have hb9 := ((hb.setCell (p := ⟨gi, j * 2, none⟩) (by show W2.heap.size ≤ gi; have := HB0.out; omega) (.int .i64 (min lo sv))).setCell (p := ⟨gi, j * 2 + 1, none⟩) (by show W2.heap.size ≤ gi; have := HB0.out; omega) (.int .i64 (max hi2 sv))).drew
            refine ⟨⟨⟨j + 1, by omega, hS9.ext (fun i' d' _ _ => mixF_put HNX.out i' d'), hI9, hb9, exFrame (by kernel_rfl)⟩⟩, ?_⟩
            show D - (intOf (.int .i64 ((j : Int) + 1))).toNat < D - (intOf (.int .i64 (j : Int))).toNat
            simp [intOf]
            omega
          · go_wp2_with fail
            refine ⟨inEx X0, ?_⟩
            repeat (refine tq_quiet rfl ?_; go_big_quiet_step (fail); refine wpQuiet_nil ?_)
            refine tq_loud rfl ?_
            go_wp2_with fail
            refine ⟨inEx X0, ?_⟩
            repeat (refine tq_quiet rfl ?_; go_big_quiet_step (fail); refine wpQuiet_nil ?_)
            refine tq_done (r := [_]) rfl ?_
            go_wp2_with fail
            have hS9 := SC.put hbs hwB (i := i) (d := j) (by omega) hlj (min lo sv) (max hi2 sv)
            rw [HGI.out] at hS9
            replace hS9 := hS9.below (Below.refl _ _).drew
            have hI9 := NOwn.below (NOwn.set (NOwn.set hIO hqb (by decide) (by decide) (j * 2) (.int .i64 (min lo sv))) (hqb.set_ (j * 2) (.int .i64 (min lo sv))) (by decide) (by decide) (j * 2 + 1) (.int .i64 (max hi2 sv))) (Below.refl _ _).drew
            have hb9 := ((hb.setCell (p := ⟨gi, j * 2, none⟩) (by show W2.heap.size ≤ gi; have := HB0.out; omega) (.int .i64 (min lo sv))).setCell (p := ⟨gi, j * 2 + 1, none⟩) (by show W2.heap.size ≤ gi; have := HB0.out; omega) (.int .i64 (max hi2 sv))).drew
            refine ⟨⟨⟨j + 1, by omega, hS9.ext (fun i' d' _ _ => mixF_put HNX.out i' d'), hI9, hb9, exFrame (by kernel_rfl)⟩⟩, ?_⟩
            show D - (intOf (.int .i64 ((j : Int) + 1))).toNat < D - (intOf (.int .i64 (j : Int))).toNat
            simp [intOf]
            omega
        · obtain rfl : j = D := by omega
          have SE := SC.ext (f' := (mixF (accN s o n) (accN s o (n + 1)) (i + 1) 0)) (fun i' d' _ hd' => mixF_row i' d' hd')
          clear SC
          go_wp2_with fail
          refine ⟨⟨⟨i + 1, by omega, v, g, SE, hIO, hb, exFrame (by kernel_rfl)⟩⟩, ?_⟩
          show s.rooms.length - (intOf (.int .i64 ((i : Int) + 1))).toNat < s.rooms.length - (intOf (.int .i64 (i : Int))).toNat
          simp [intOf]
          omega
      · obtain rfl : i = s.rooms.length := by omega
        have q0 := SI.q0
        have a0 : Z.cell? ⟨p0, 0, none⟩ = some (.slice Ar s.rooms.length cr) := q0.cell 0
        have a1 : Z.cell? ⟨p0, 1, none⟩ = some (.int .i64 s.days) := q0.cell 1
        have a2 : Z.cell? ⟨p0, 2, none⟩ = some (.slice Am s.moves.length cm) := q0.cell 2
        have a3 : Z.cell? ⟨p0, 3, none⟩ = some (.slice Aw s.wgs.length cw) := q0.cell 3
        have l0 := q0.lt
        have SN := SI.ext (f' := accN s o (n + 1)) (fun i d hi _ => by unfold mixF; rw [if_pos (by omega)])
        have HM2 : Hid (s.rooms.length = if anyTo (gdB s o) (n + 1) = true then s.rooms.length else 0) := Lib.hid (by rw [if_pos HAN.out])
        clear SI
        go_wp2_with fail
        refine ⟨⟨⟨n + 1, by omega, v, g, s.rooms.length, SN, hb, HM2, exFrame (by kernel_rfl)⟩⟩, ?_⟩
        show N - (intOf (.int .i64 ((n : Int) + 1))).toNat < N - (intOf (.int .i64 (n : Int))).toNat
        simp [intOf]
        omega
    · have HAY := Lib.hid hany
      clear hany
      have HMV : Hid (m = 0) := Lib.hid (by rw [HM.out, if_neg HAY.out])
      have hmv := HMV.out
      subst hmv
      clear HM HMV
      have SI := S5.ext (f' := (mixF (accN s o n) (accN s o (n + 1)) 0 0)) (fun i d _ _ => by unfold mixF; rw [if_neg (by omega)])
      clear S5 q0 a0 a1 a2 a3 l0
      obtain ⟨A0, c0, rfl, _⟩ := SI.rw.lays
      go_wp2_with fail
      refine wp_loop (fun a W => Rel (fun a W => ∃ i : Nat, i ≤ s.rooms.length ∧ ∃ v g, StkA s #[.slice Ar s.rooms.length cr, .int .i64 s.days, .slice Am s.moves.length cm, .slice Aw s.wgs.length cw] w p0 B0 v g i D (mixF (accN s o n) (accN s o (n + 1)) i 0) W ∧ IOwn W 0 (.slice AS s.rooms.length cS) X ∧ Below W2.heap.size W2 W ∧ ∃ u : Nat → Value, a = ⟨List.toArray (u 0 :: .slice Ao o.length co :: .pointer (some ⟨p0, 0, none⟩) :: u 3 :: u 4 :: u 5 :: v :: .int .i64 (N : Int) :: .int .i64 (n : Int) :: .slice AS s.rooms.length cS :: u 10 :: .bool true :: .int .i64 (i : Int) :: u 13 :: u 14 :: u 15 :: u 16 :: u 17 :: u 18 :: u 19 :: u 20 :: u 21 :: u 22 :: u 23 :: u 24 :: u 25 :: u 26 :: u 27 :: u 28 :: u 29 :: u 30 :: u 31 :: u 32 :: u 33 :: u 34 :: u 35 :: u 36 :: u 37 :: u 38 :: u 39 :: u 40 :: u 41 :: u 42 :: u 43 :: u 44 :: u 45 :: u 46 :: u 47 :: u 48 :: u 49 :: u 50 :: u 51 :: u 52 :: u 53 :: u 54 :: u 55 :: u 56 :: u 57 :: u 58 :: u 59 :: u 60 :: u 61 :: u 62 :: u 63 :: u 64 :: u 65 :: u 66 :: u 67 :: u 68 :: u 69 :: u 70 :: u 71 :: u 72 :: u 73 :: u 74 :: u 75 :: u 76 :: u 77 :: u 78 :: u 79 :: u 80 :: u 81 :: u 82 :: u 83 :: u 84 :: u 85 :: u 86 :: u 87 :: u 88 :: u 89 :: u 90 :: u 91 :: u 92 :: u 93 :: u 94 :: u 95 :: u 96 :: u 97 :: u 98 :: u 99 :: u 100 :: u 101 :: u 102 :: u 103 :: u 104 :: u 105 :: u 106 :: u 107 :: u 108 :: u 109 :: u 110 :: u 111 :: u 112 :: u 113 :: u 114 :: u 115 :: u 116 :: u 117 :: u 118 :: u 119 :: u 120 :: u 121 :: u 122 :: u 123 :: u 124 :: []), []⟩) a W) (fun a _ => s.rooms.length - (intOf (a.tmps.getD 12 undef)).toNat) ⟨⟨0, by omega, _, _, SI, hIO5, hb5, exFrame (by kernel_rfl)⟩⟩ ?_
      clear SI hIO5 hb5
      rintro a Z ⟨⟨i, hi, v, g, SI, hIO, hb, u2, rfl⟩⟩
      by_cases hli : i < s.rooms.length
      · have hin : (i : Int) < (s.rooms.length : Int) := by omega
        have q0 := SI.q0
        have a0 : Z.cell? ⟨p0, 0, none⟩ = some (.slice Ar s.rooms.length cr) := q0.cell 0
        have a1 : Z.cell? ⟨p0, 1, none⟩ = some (.int .i64 s.days) := q0.cell 1
        have a2 : Z.cell? ⟨p0, 2, none⟩ = some (.slice Am s.moves.length cm) := q0.cell 2
        have a3 : Z.cell? ⟨p0, 3, none⟩ = some (.slice Aw s.wgs.length cw) := q0.cell 3
        have l0 := q0.lt
        rw [HSD.out] at a1
        have XA := ex_alloc (Below.refl Z.heap.size Z) (.cells oc0 52)
        have qn : Blk (Z.alloc (.cells oc0 52)) Z.heap.size 52 oc0 := Blk.new _ _ _
        have XB := ex_alloc XA (.cells #[.slice (some ⟨Z.heap.size, 0, none⟩) D D] 53)
        have qn2 : Blk ((Z.alloc (.cells oc0 52)).alloc (.cells #[.slice (some ⟨Z.heap.size, 0, none⟩) D D] 53)) Z.heap.size 52 oc0 := qn.alloc _
        have SB := SI.below XB
        have hIOB := NOwn.below hIO XB
        have hbB := ex_trans hb XB
        have y4 := SB.rw.own
        have c63 : i + 1 ≤ maxLen := by unfold maxLen; omega
        have cby : (i + 1) * 24 ≤ 140737488355328 := by omega
        have hbase : B0 ≤ ((Z.alloc (.cells oc0 52)).alloc (.cells #[.slice (some ⟨Z.heap.size, 0, none⟩) D D] 53)).heap.size := SB.sz
        go_upto_region 13 with fail
        go_wp2_with (refine pause_at 53 rfl ?_)
        refine Paused.mk ?_
        refine wpList_append_lies _ rfl _ _ _ rfl B0 53 i1 _ 1 24 Try.underlying45 HJ.out hy0 hy1 hy2 rfl (by omega) v _ _ rfl y4 ⟨Z.heap.size + 1, 0, none⟩ 1 1 [.slice (some ⟨Z.heap.size, 0, none⟩) D D] rfl rfl (World.news_of_block (heap_alloc_at (Z.alloc (.cells oc0 52)) _ (by simp))) (by simp [Value.oneCell']) (by omega) c63 cby hbase (Z.heap.size + 1 + 1) (by simp) ?_
        intro gg cap w1 hown' hgrow hat hlt'
        have qn3 : Blk w1 Z.heap.size 52 oc0 := qn2.grown hgrow (fun e => own_blkne y4 qn2 (by decide) e.symm)
        have hva : VArr ((Z.alloc (.cells oc0 52)).alloc (.cells #[.slice (some ⟨Z.heap.size, 0, none⟩) D D] 53)) Z.heap.size 52 (D * 2) (rgV D ((mixF (accN s o n) (accN s o (n + 1)) i 0) i)) := VArr.of qn2 HOC.out.1 (fun x hx => by
          rw [HOC.out.2 x hx]
          have e : (mixF (accN s o n) (accN s o (n + 1)) i 0) i (x / 2) = ⟨0, 0⟩ := by
            unfold mixF
            rw [if_neg (by omega)]
            unfold accN
            exact accR_none (by cases h : anyTo (gdB s o) n; rfl; exact absurd h HAY.out)
          unfold rgV
          rw [e]
          simp)
        have hro := SB.rw.push (gn := Z.heap.size) (f' := (mixF (accN s o n) (accN s o (n + 1)) i 0)) hgrow hown' hva (by have := SI.sz; omega) (fun j hj e => by have := (SI.rw.row j hj).2.lt; omega) (fun _ _ _ _ => rfl)
        have hgf := Fr.grown (R := fun b => B0 ≤ b) hgrow (fun b hb => .inl (own_ge y4 hb))
        have SC : StkA s #[.slice Ar s.rooms.length cr, .int .i64 s.days, .slice Am s.moves.length cm, .slice Aw s.wgs.length cw] w p0 B0 _ _ (i + 1) D (mixF (accN s o n) (accN s o (n + 1)) i 0) w1 := ⟨SB.bw.grown hgrow SB.bw.size (fun b hb => by have := own_ge y4 hb; omega), by have := hgrow.size; omega, SB.q0.fr hgf (by omega), hro⟩
        have hIOC := hIOB.grow hgrow y4 (by decide) (by decide)
        have hbC := hbB.grown hgrow hbB.size (fun b hb => by have := own_ge y4 hb; have := HB0.out; omega)
        obtain ⟨g2, hg2⟩ : ∃ g2, (fun k => if k = i then Z.heap.size else g k) = g2 := ⟨_, rfl⟩
        rw [hg2] at SC hro
        clear hg2 hown' hgrow hat hlt' hro hva qn3 qn2 qn XA XB SB SI hIO hIOB hb hbB y4 c63 cby hbase hgf q0 a0 a1 a2 a3 l0
        skip
        go_wp2_with fail
        refine wp_loop (fun a W => Rel (fun a W => ∃ j : Nat, j ≤ D ∧ StkA s #[.slice Ar s.rooms.length cr, .int .i64 s.days, .slice Am s.moves.length cm, .slice Aw s.wgs.length cw] w p0 B0 (.slice (some ⟨gg, 0, none⟩) (i + 1) cap) g2 (i + 1) D (mixF (accN s o n) (accN s o (n + 1)) i j) W ∧ IOwn W 0 (.slice AS s.rooms.length cS) X ∧ Below W2.heap.size W2 W ∧ ∃ u : Nat → Value, a = ⟨List.toArray (u 0 :: .slice Ao o.length co :: .pointer (some ⟨p0, 0, none⟩) :: u 3 :: u 4 :: u 5 :: .slice (some ⟨gg, 0, none⟩) (i + 1) cap :: .int .i64 (N : Int) :: .int .i64 (n : Int) :: .slice AS s.rooms.length cS :: u 10 :: .bool true :: .int .i64 (i : Int) :: .int .i64 (j : Int) :: u 14 :: u 15 :: u 16 :: u 17 :: u 18 :: u 19 :: u 20 :: u 21 :: u 22 :: u 23 :: u 24 :: u 25 :: u 26 :: u 27 :: u 28 :: u 29 :: u 30 :: u 31 :: u 32 :: u 33 :: u 34 :: u 35 :: u 36 :: u 37 :: u 38 :: u 39 :: u 40 :: u 41 :: u 42 :: u 43 :: u 44 :: u 45 :: u 46 :: u 47 :: u 48 :: u 49 :: u 50 :: u 51 :: u 52 :: u 53 :: u 54 :: u 55 :: u 56 :: u 57 :: u 58 :: u 59 :: u 60 :: u 61 :: u 62 :: u 63 :: u 64 :: u 65 :: u 66 :: u 67 :: u 68 :: u 69 :: u 70 :: u 71 :: u 72 :: u 73 :: u 74 :: u 75 :: u 76 :: u 77 :: u 78 :: u 79 :: u 80 :: u 81 :: u 82 :: u 83 :: u 84 :: u 85 :: u 86 :: u 87 :: u 88 :: u 89 :: u 90 :: u 91 :: u 92 :: u 93 :: u 94 :: u 95 :: u 96 :: u 97 :: u 98 :: u 99 :: u 100 :: u 101 :: u 102 :: u 103 :: u 104 :: u 105 :: u 106 :: u 107 :: u 108 :: u 109 :: u 110 :: u 111 :: u 112 :: u 113 :: u 114 :: u 115 :: u 116 :: u 117 :: u 118 :: u 119 :: u 120 :: u 121 :: u 122 :: u 123 :: u 124 :: []), []⟩) a W) (fun a _ => D - (intOf (a.tmps.getD 13 undef)).toNat) ⟨⟨0, by omega, SC, hIOC, hbC, exFrame (by kernel_rfl)⟩⟩ ?_
        clear SC hIOC hbC
        rintro a V ⟨⟨j, hj, SC, hIO, hb, u3, rfl⟩⟩
        have q0 := SC.q0
        have a0 : V.cell? ⟨p0, 0, none⟩ = some (.slice Ar s.rooms.length cr) := q0.cell 0
        have a1 : V.cell? ⟨p0, 1, none⟩ = some (.int .i64 s.days) := q0.cell 1
        have a2 : V.cell? ⟨p0, 2, none⟩ = some (.slice Am s.moves.length cm) := q0.cell 2
        have a3 : V.cell? ⟨p0, 3, none⟩ = some (.slice Aw s.wgs.length cw) := q0.cell 3
        have l0 := q0.lt
        rw [HSD.out] at a1
        by_cases hlj : j < D
        · have hjn : (j : Int) < (D : Int) := by omega
          obtain ⟨sv, hsv⟩ : ∃ x, S i j = x := ⟨_, rfl⟩
          have HSV : Hid (sv = stkN s.wo n i j) := Lib.hid (by rw [← hsv]; exact HST.out i j hli hlj)
          have HSV0 := Lib.hid hsv
          obtain ⟨A', c', rA, rc, e9, hmt⟩ := IOwn.lays hIO HX.out
          injection e9 with e1 e0 e2
          subst e1 e2
          clear e0
          obtain ⟨bs, os, hAS, hbs1, x0⟩ := hmt.out (by omega)
          subst hAS
          have x1 : V.cell? ⟨bs, os + i, none⟩ = some (.slice (rA i) D (rc i)) := by have := x0 i 0 hli (by omega); rw [show os + (i * 1 + 0) = os + i by omega] at this; exact this
          obtain ⟨br, or, hrA, hbr, y0⟩ := hmt.row i hli (by omega)
          have y1 : V.cell? ⟨br, or + j, none⟩ = some (.int .i64 (S i j)) := by have := y0 j 0 hlj (by omega); rw [show or + (j * 1 + 0) = or + j by omega] at this; exact this
          rw [hrA] at x1
          clear x0 y0 hrA hmt
          obtain ⟨ri, hri⟩ : ∃ r, rc i = r := ⟨_, rfl⟩
          rw [hri] at x1
          clear hri
          rw [hsv] at y1
          obtain ⟨b, cp, ev, hB, hbl, z0⟩ := SC.rw.at_ (i := i) (by omega)
          obtain ⟨z1, z2⟩ := SC.rw.cell (i := i) (d := j) (by omega) hlj
          have fz1 := SC.rw.frz (i := i) (by omega) (j * 2)
          have fz2 := SC.rw.frz (i := i) (by omega) (j * 2 + 1)
          have lg := (SC.rw.row i (by omega)).2.lt
          obtain ⟨cs, hqb, _⟩ := (SC.rw.row i (by omega)).2
          rw [mixF_at] at z1 z2
          have hgi := (SC.rw.row i (by omega)).1
          obtain ⟨gi, hgi2⟩ : ∃ x, g2 i = x := ⟨_, rfl⟩
          have HGI := Lib.hid hgi2
          rw [hgi2] at z0 z1 z2 fz1 fz2 lg hgi hqb
          clear hgi2
          clear hsv
          obtain ⟨lo, hlo2⟩ : ∃ x, (accN s o n i j).lo = x := ⟨_, rfl⟩
          obtain ⟨hi2, hhi2⟩ : ∃ x, (accN s o n i j).hi = x := ⟨_, rfl⟩
          have HLO := Lib.hid (And.intro hlo2 hhi2)
          rw [hlo2] at z1
          rw [hhi2] at z2
          clear hlo2 hhi2
          injection ev with ev1 _ ev3
          injection ev1 with ev1
          injection ev1 with ev1
          subst ev1 ev3
          have HNX : Hid ((⟨sv, sv⟩ : Rg) = accN s o (n + 1) i j) := Lib.hid (by unfold accN; rw [accR, if_pos HG1.out, if_neg HAY.out, ← HSV.out])
          go_upto_region 18 with fail
          refine wp_region_ext_mix 21 [(false, 0), (false, 1), (false, 2), (false, 3), (false, 4), (false, 5), (false, 6), (false, 7), (false, 8), (false, 9), (false, 10), (false, 11), (false, 12), (false, 13), (false, 14), (false, 15), (false, 16), (false, 17), (false, 18), (false, 19), (false, 20)] (by kernel_rfl) (by kernel_rfl) (by intro d _ _ _ _ h; cases d <;> exact h) ?_
          repeat (refine mix_quiet rfl ?_; go_big_quiet_step (fail); refine wpQuiet_nil ?_)
          refine mix_nil (r := [_]) rfl ?_
          go_upto_region 19 with fail
          have hS8 := SC.put hbs hwB (i := i) (d := j) (by omega) hlj (sv) (sv)
          rw [HGI.out] at hS8
          replace hS8 := hS8.below (Below.refl _ _).drew
          have hI8 := NOwn.below (NOwn.set (NOwn.set hIO hqb (by decide) (by decide) (j * 2) (.int .i64 (sv))) (hqb.set_ (j * 2) (.int .i64 (sv))) (by decide) (by decide) (j * 2 + 1) (.int .i64 (sv))) (Below.refl _ _).drew
          have hb8 := ((hb.setCell (p := ⟨gi, j * 2, none⟩) (by show W2.heap.size ≤ gi; have := HB0.out; omega) (.int .i64 (sv))).setCell (p := ⟨gi, j * 2 + 1, none⟩) (by show W2.heap.size ≤ gi; have := HB0.out; omega) (.int .i64 (sv))).drew
          clear x1 y1 z0 z1 z2 fz1 fz2 lg hqb hbr hbs1 hB hbl a0 a1 a2 a3 l0 q0 SC hIO hb
          generalize ((V.setCell ⟨gi, j * 2, none⟩ (.int .i64 sv)).setCell ⟨gi, j * 2 + 1, none⟩ (.int .i64 sv)).drew = U at *
          have q0 := hS8.q0
          have a0 : U.cell? ⟨p0, 0, none⟩ = some (.slice Ar s.rooms.length cr) := q0.cell 0
          have a1 : U.cell? ⟨p0, 1, none⟩ = some (.int .i64 s.days) := q0.cell 1
          have a2 : U.cell? ⟨p0, 2, none⟩ = some (.slice Am s.moves.length cm) := q0.cell 2
          have a3 : U.cell? ⟨p0, 3, none⟩ = some (.slice Aw s.wgs.length cw) := q0.cell 3
          have l0 := q0.lt
          rw [HSD.out] at a1
          obtain ⟨A', c', rA, rc, e9, hmt⟩ := IOwn.lays hI8 HX.out
          injection e9 with e1 e0 e2
          subst e1 e2
          clear e0
          obtain ⟨bs', os', hAS, hbs2, x0⟩ := hmt.out (by omega)
          injection hAS with hAS
          injection hAS with e1 e2
          subst e1 e2
          have x1 : U.cell? ⟨bs, os + i, none⟩ = some (.slice (rA i) D (rc i)) := by have := x0 i 0 hli (by omega); rw [show os + (i * 1 + 0) = os + i by omega] at this; exact this
          obtain ⟨br, or, hrA, hbr, y0⟩ := hmt.row i hli (by omega)
          have y1 : U.cell? ⟨br, or + j, none⟩ = some (.int .i64 (S i j)) := by have := y0 j 0 hlj (by omega); rw [show or + (j * 1 + 0) = or + j by omega] at this; exact this
          rw [hrA] at x1
          clear x0 y0 hrA hmt
          obtain ⟨ri, hri⟩ : ∃ r, rc i = r := ⟨_, rfl⟩
          rw [hri] at x1
          clear hri
          rw [HSV0.out] at y1
          obtain ⟨b, cp, ev, hB, hbl, z0⟩ := hS8.rw.at_ (i := i) (by omega)
          obtain ⟨z1, z2⟩ := hS8.rw.cell (i := i) (d := j) (by omega) hlj
          have fz1 := hS8.rw.frz (i := i) (by omega) (j * 2)
          have fz2 := hS8.rw.frz (i := i) (by omega) (j * 2 + 1)
          have lg := (hS8.rw.row i (by omega)).2.lt
          obtain ⟨cs, hqb, _⟩ := (hS8.rw.row i (by omega)).2
          rw [updR_at] at z1 z2
          rw [HGI.out] at z0 z1 z2 fz1 fz2 lg hqb
          injection ev with ev1 _ ev3
          injection ev1 with ev1
          injection ev1 with ev1
          subst ev1 ev3
          go_upto_region 19 with fail
          have X0 := (Below.refl U.heap.size U).drew
          refine wp_region_ext_tqF 39 (.quiet 0 (.quiet 1 (.quiet 2 (.quiet 3 (.quiet 4 (.quiet 5 (.quiet 6 (.quiet 7 (.quiet 8 (.quiet 9 (.quiet 10 (.quiet 11 (.quiet 12 (.quiet 13 (.quiet 14 (.quiet 15 (.quiet 16 (.quiet 17 (.quiet 18 (.quiet 19 (.quiet 21 (.quiet 22 (.quiet 23 (.quiet 24 (.quiet 25 (.quiet 26 (.quiet 27 (.quiet 28 (.quiet 29 (.quiet 30 (.quiet 31 (.quiet 32 (.quiet 33 (.quiet 34 (.quiet 35 (.fork 20 (.loud 36 (.quiet 37 (.quiet 38 .done))) 36 (.loud 20 (.quiet 37 (.quiet 38 .done))))))))))))))))))))))))))))))))))))))) (by kernel_rfl) (by kernel_rfl) (by intro d _ _ _ _ h; cases d <;> exact h) ?_
          repeat (refine tq_quiet rfl ?_; go_big_quiet_step (fail); refine wpQuiet_nil ?_)
          refine tq_fork rfl rfl ?_ ?_
          · go_wp2_with fail
            refine ⟨inEx X0, ?_⟩
            repeat (refine tq_quiet rfl ?_; go_big_quiet_step (fail); refine wpQuiet_nil ?_)
            refine tq_loud rfl ?_
            go_wp2_with fail
            refine ⟨inEx X0, ?_⟩
            repeat (refine tq_quiet rfl ?_; go_big_quiet_step (fail); refine wpQuiet_nil ?_)
            refine tq_done (r := [_]) rfl ?_
            go_wp2_with fail
            have hS9 := hS8.put hbs hwB (i := i) (d := j) (by omega) hlj (sv) (sv)
            rw [HGI.out] at hS9
            replace hS9 := hS9.below (Below.refl _ _).drew
            have hI9 := NOwn.below (NOwn.set (NOwn.set hI8 hqb (by decide) (by decide) (j * 2) (.int .i64 (sv))) (hqb.set_ (j * 2) (.int .i64 (sv))) (by decide) (by decide) (j * 2 + 1) (.int .i64 (sv))) (Below.refl _ _).drew
            have hb9 := ((hb8.setCell (p := ⟨gi, j * 2, none⟩) (by show W2.heap.size ≤ gi; have := HB0.out; omega) (.int .i64 (sv))).setCell (p := ⟨gi, j * 2 + 1, none⟩) (by show W2.heap.size ≤ gi; have := HB0.out; omega) (.int .i64 (sv))).drew
            refine ⟨⟨⟨j + 1, by omega, hS9.ext (fun i' d' _ _ => mixF_put2 HNX.out i' d'), hI9, hb9, exFrame (by kernel_rfl)⟩⟩, ?_⟩
            show D - (intOf (.int .i64 ((j : Int) + 1))).toNat < D - (intOf (.int .i64 (j : Int))).toNat
            simp [intOf]
            omega
          · go_wp2_with fail
            refine ⟨inEx X0, ?_⟩
            repeat (refine tq_quiet rfl ?_; go_big_quiet_step (fail); refine wpQuiet_nil ?_)
            refine tq_loud rfl ?_
            go_wp2_with fail
            refine ⟨inEx X0, ?_⟩
            repeat (refine tq_quiet rfl ?_; go_big_quiet_step (fail); refine wpQuiet_nil ?_)
            refine tq_done (r := [_]) rfl ?_
            go_wp2_with fail
            have hS9 := hS8.put hbs hwB (i := i) (d := j) (by omega) hlj (sv) (sv)
            rw [HGI.out] at hS9
            replace hS9 := hS9.below (Below.refl _ _).drew
            have hI9 := NOwn.below (NOwn.set (NOwn.set hI8 hqb (by decide) (by decide) (j * 2) (.int .i64 (sv))) (hqb.set_ (j * 2) (.int .i64 (sv))) (by decide) (by decide) (j * 2 + 1) (.int .i64 (sv))) (Below.refl _ _).drew
            have hb9 := ((hb8.setCell (p := ⟨gi, j * 2, none⟩) (by show W2.heap.size ≤ gi; have := HB0.out; omega) (.int .i64 (sv))).setCell (p := ⟨gi, j * 2 + 1, none⟩) (by show W2.heap.size ≤ gi; have := HB0.out; omega) (.int .i64 (sv))).drew
            refine ⟨⟨⟨j + 1, by omega, hS9.ext (fun i' d' _ _ => mixF_put2 HNX.out i' d'), hI9, hb9, exFrame (by kernel_rfl)⟩⟩, ?_⟩
            show D - (intOf (.int .i64 ((j : Int) + 1))).toNat < D - (intOf (.int .i64 (j : Int))).toNat
            simp [intOf]
            omega
        · obtain rfl : j = D := by omega
          have SE := SC.ext (f' := (mixF (accN s o n) (accN s o (n + 1)) (i + 1) 0)) (fun i' d' _ hd' => mixF_row i' d' hd')
          clear SC
          go_wp2_with fail
          refine ⟨⟨⟨i + 1, by omega, (.slice (some ⟨gg, 0, none⟩) (i + 1) cap), g2, SE, hIO, hb, exFrame (by kernel_rfl)⟩⟩, ?_⟩
          show s.rooms.length - (intOf (.int .i64 ((i : Int) + 1))).toNat < s.rooms.length - (intOf (.int .i64 (i : Int))).toNat
          simp [intOf]
          omega
      · obtain rfl : i = s.rooms.length := by omega
        have q0 := SI.q0
        have a0 : Z.cell? ⟨p0, 0, none⟩ = some (.slice Ar s.rooms.length cr) := q0.cell 0
        have a1 : Z.cell? ⟨p0, 1, none⟩ = some (.int .i64 s.days) := q0.cell 1
        have a2 : Z.cell? ⟨p0, 2, none⟩ = some (.slice Am s.moves.length cm) := q0.cell 2
        have a3 : Z.cell? ⟨p0, 3, none⟩ = some (.slice Aw s.wgs.length cw) := q0.cell 3
        have l0 := q0.lt
        have SN := SI.ext (f' := accN s o (n + 1)) (fun i d hi _ => by unfold mixF; rw [if_pos (by omega)])
        have HM2 : Hid (s.rooms.length = if anyTo (gdB s o) (n + 1) = true then s.rooms.length else 0) := Lib.hid (by rw [if_pos HAN.out])
        clear SI
        go_wp2_with fail
        refine ⟨⟨⟨n + 1, by omega, v, g, s.rooms.length, SN, hb, HM2, exFrame (by kernel_rfl)⟩⟩, ?_⟩
        show N - (intOf (.int .i64 ((n : Int) + 1))).toNat < N - (intOf (.int .i64 (n : Int))).toNat
        simp [intOf]
        omega
  · obtain rfl : n = N := by omega
    obtain ⟨A, cv, rfl, hR⟩ := S0.rw.lays
    have bw := S0.bw
    have hm3 : m ≤ 3 := by have := HM.out; split at this <;> omega
    have HTG : Hid (anyTo (gdB s o) n = truB (Good s.wo (outL o))) := Lib.hid (any_good hw HPR.out)
    have HV : Hid (RsV s o W m A cv (fun i => some ⟨g i, 0, none⟩) (fun _ => D)) := Lib.hid ⟨fun hg => by
        have hm : m = s.rooms.length := by rw [HM.out, if_pos (by rw [HTG.out]; exact truB_iff.2 hg)]
        refine ⟨hm, ?_⟩
        rw [HD.out]
        refine ⟨hR.out, fun k hk hD => ?_⟩
        obtain ⟨b, o', e, hb, hc⟩ := hR.row k hk hD
        refine ⟨b, o', e, hb, fun d j hd hj => ?_⟩
        have := hc d j hd hj
        have he : accN s o n k d = stkR s.wo (outL o) k d := acc_stk hw HPR.out hg (by omega) (by rw [HD.out]; exact hd)
        rw [this]
        match j, hj with
        | 0, _ => exact congrArg (fun r : Rg => some (Value.int .i64 r.lo)) he
        | 1, _ => exact congrArg (fun r : Rg => some (Value.int .i64 r.hi)) he, fun hg => by rw [HM.out, if_neg (by rw [HTG.out, truB_false hg]; decide)]⟩
    have HMT : Hid (m = 0 ↔ anyTo (gdB s o) n = false) := Lib.hid (by
      rw [HM.out]
      cases anyTo (gdB s o) n
      · exact ⟨fun _ => rfl, fun _ => rfl⟩
      · exact ⟨fun h => absurd h (by show ¬ (if true = true then s.rooms.length else 0) = 0; rw [if_pos rfl]; omega), fun h => by cases h⟩)
    cases ht : truB (Good s.wo (outL o))
    · have hm0 : m = 0 := HMT.out.2 (by rw [HTG.out, ht])
      have HTT := Lib.hid ht
      clear ht HMT HM
      have hmi : decide ((0 : Int) < (m : Int)) = false := decide_eq_false (by omega)
      have hmn : decide (0 < m) = false := decide_eq_false (by omega)
      subst hm0
      go_wp2
      go_ret2
      exact ⟨⟨0, A, cv, _, _, by rw [HTT.out]; rfl, HV.out⟩, bw⟩
    · have hm1 : 0 < m := Nat.pos_of_ne_zero (fun e => by have := HMT.out.1 e; rw [HTG.out, ht] at this; cases this)
      have HTT := Lib.hid ht
      clear ht HMT HM
      have hmi : decide ((0 : Int) < (m : Int)) = true := decide_eq_true (by omega)
      have hmn : decide (0 < m) = true := decide_eq_true (by omega)
      go_wp2
      go_ret2
      exact ⟨⟨m, A, cv, _, _, by rw [HTT.out]; rfl, HV.out⟩, bw⟩
end Go.Proofs.Ythihdiilokdidaa
end

section
namespace Go.Proofs.Ythihdiilokdidaa
open Go.RowKit
attribute [local go_sem] Ex.cell? Ex.frozen?

theorem book_fst {s : Ws} {b : Bk} {k : Nat} (hk : k < b.fs.length) (h : inB (gI b.fs k) 0 2000 = false) : bookB s b = false := by unfold bookB; rw [allTo_false (f := fun k => inB (gI b.fs k) 0 2000) hk h]; simp
theorem book_grm {s : Ws} {b : Bk} {k : Nat} (hk : k < b.gs.length) (h : inB (gI b.gs k) 0 2000 = false) : bookB s b = false := by unfold bookB; rw [allTo_false (f := fun k => inB (gI b.gs k) 0 2000) hk h]; simp
theorem book_all {s : Ws} {b : Bk} (h1 : ∀ k, k < b.fs.length → inB (gI b.fs k) 0 2000 = true) (h2 : ∀ k, k < b.gs.length → inB (gI b.gs k) 0 2000 = true) : bookB s b = (decide (b.fs.length = s.rooms.length) && decide (b.gs.length = s.moves.length)) := by unfold bookB; rw [allTo_iff.2 h1, allTo_iff.2 h2]; simp
set_option maxRecDepth 100000 in
set_option maxHeartbeats 3200000 in
theorem IsBook_ref (s : Ws) (Ar Am Aw : Option Addr) (cr cm cw : Nat) (w : World) (hs : WsIn w w.heap.size s Ar Am Aw) (b : Bk) (Af Ag : Option Addr) (cf cg : Nat) (hf : SlAt w w.heap.size 1 Af b.fs.length (fI b.fs)) (hg : SlAt w w.heap.size 1 Ag b.gs.length (fI b.gs)) (hsm : b.fs.length ≤ 1000 ∧ b.gs.length ≤ 1000) :
    Calls Try.prog 46 #[.agg #[.slice Ar s.rooms.length cr, .int .i64 s.days, .slice Am s.moves.length cm, .slice Aw s.wgs.length cw], .agg #[.slice Af b.fs.length cf, .slice Ag b.gs.length cg]] w fun e w' => e = .returned (.bool (bookB s b)) ∧ Below w.heap.size w w' := by
  obtain ⟨n1, hn1⟩ : ∃ n, b.fs.length = n := ⟨_, rfl⟩
  obtain ⟨n2, hn2⟩ : ∃ n, b.gs.length = n := ⟨_, rfl⟩
  have HN1 := Lib.hid hn1
  have HN2 := Lib.hid hn2
  rw [hn1] at hf hsm ⊢
  rw [hn2] at hg hsm ⊢
  clear hn1 hn2
  have hb1 := ex_alloc (ex_alloc (Below.refl w.heap.size w) (.cells #[.slice Ar s.rooms.length cr, .int .i64 s.days, .slice Am s.moves.length cm, .slice Aw s.wgs.length cw] 26)) (.cells #[.slice Af n1 cf, .slice Ag n2 cg] 96)
  have q0 : Blk ((w.alloc (.cells #[.slice Ar s.rooms.length cr, .int .i64 s.days, .slice Am s.moves.length cm, .slice Aw s.wgs.length cw] 26)).alloc (.cells #[.slice Af n1 cf, .slice Ag n2 cg] 96)) w.heap.size 26 #[.slice Ar s.rooms.length cr, .int .i64 s.days, .slice Am s.moves.length cm, .slice Aw s.wgs.length cw] := (Blk.new _ _ _).alloc _
  have q1 : Blk ((w.alloc (.cells #[.slice Ar s.rooms.length cr, .int .i64 s.days, .slice Am s.moves.length cm, .slice Aw s.wgs.length cw] 26)).alloc (.cells #[.slice Af n1 cf, .slice Ag n2 cg] 96)) (w.heap.size + 1) 96 #[.slice Af n1 cf, .slice Ag n2 cg] := Blk.new' _ _ _ (by simp)
  go_enter Try.func46, Try.ntmps46
  go_upto_region 1 with fail
  show Code.wp _ _ _ _ ((w.alloc (.cells #[.slice Ar s.rooms.length cr, .int .i64 s.days, .slice Am s.moves.length cm, .slice Aw s.wgs.length cw] 26)).alloc (.cells #[.slice Af n1 cf, .slice Ag n2 cg] 96))
  generalize (w.alloc (.cells #[.slice Ar s.rooms.length cr, .int .i64 s.days, .slice Am s.moves.length cm, .slice Aw s.wgs.length cw] 26)).alloc (.cells #[.slice Af n1 cf, .slice Ag n2 cg] 96) = V at *
  go_wp2_with fail
  refine wp_loop (fun a W => Rel (fun a W => ∃ k : Nat, k ≤ n1 ∧ (Below w.heap.size w W ∧ Blk W w.heap.size 26 #[.slice Ar s.rooms.length cr, .int .i64 s.days, .slice Am s.moves.length cm, .slice Aw s.wgs.length cw] ∧ Blk W (w.heap.size + 1) 96 #[.slice Af n1 cf, .slice Ag n2 cg]) ∧ Hid (∀ j, j < k → inB (gI b.fs j) 0 2000 = true) ∧ ∃ u : Nat → Value, a = ⟨List.toArray (u 0 :: u 1 :: .pointer (some ⟨w.heap.size, 0, none⟩) :: .pointer (some ⟨w.heap.size + 1, 0, none⟩) :: u 4 :: .int .i64 (k : Int) :: u 6 :: u 7 :: u 8 :: u 9 :: u 10 :: u 11 :: u 12 :: u 13 :: u 14 :: u 15 :: u 16 :: u 17 :: u 18 :: u 19 :: u 20 :: u 21 :: u 22 :: u 23 :: u 24 :: u 25 :: u 26 :: u 27 :: u 28 :: u 29 :: u 30 :: u 31 :: u 32 :: u 33 :: u 34 :: u 35 :: u 36 :: u 37 :: u 38 :: u 39 :: u 40 :: u 41 :: u 42 :: u 43 :: u 44 :: u 45 :: u 46 :: u 47 :: u 48 :: u 49 :: u 50 :: []), []⟩) a W) (fun a _ => n1 - (intOf (a.tmps.getD 5 undef)).toNat) ⟨⟨0, by omega, ⟨hb1, q0, q1⟩, Lib.hid (fun j hj => by omega), exFrame (by kernel_rfl)⟩⟩ ?_
  clear hb1 q0 q1 V
  rintro a W ⟨⟨k, hk, ⟨hb1, q0, q1⟩, HO, u, rfl⟩⟩
  have b0 : W.cell? ⟨w.heap.size + 1, 0, none⟩ = some (.slice Af n1 cf) := q1.cell 0
  have b1 : W.cell? ⟨w.heap.size + 1, 1, none⟩ = some (.slice Ag n2 cg) := q1.cell 1
  have l1 := q1.lt
  by_cases hlt : k < n1
  · have hkn : (k : Int) < (n1 : Int) := by omega
    obtain ⟨bl, ol, hA, hbl, v0⟩ := IsInts.at_ (hf.below hb1) hlt
    rw [hA] at b0
    have lbl : bl < W.heap.size := by have := hb1.size; omega
    obtain ⟨vv, hvv⟩ : ∃ x, gI b.fs k = x := ⟨_, rfl⟩
    rw [hvv] at v0
    have HVV := Lib.hid hvv
    clear hvv
    go_wp2_with fail
    refine (In_ref _ _ _ _).mono ?_
    rintro e w' ⟨rfl, rfl⟩
    cases hI : inB vv 0 2000
    · have HR : Hid (bookB s b = false) := Lib.hid (book_fst (show k < _ by rw [HN1.out]; exact hlt) (by rw [HVV.out, hI]))
      clear hI
      go_wp2
      go_ret
      exact ⟨ret_bool HR.out.symm, hb1⟩
    · have HO2 : Hid (∀ j, j < k + 1 → inB (gI b.fs j) 0 2000 = true) := Lib.hid (fun j hj => by
        rcases Nat.lt_succ_iff_lt_or_eq.1 hj with h | h
        · exact HO.out j h
        · subst h; rw [HVV.out]; exact hI)
      clear hI
      go_wp2_with fail
      refine ⟨⟨⟨k + 1, by omega, ⟨hb1, q0, q1⟩, HO2, exFrame (by kernel_rfl)⟩⟩, ?_⟩
      show n1 - (intOf (.int .i64 ((k : Int) + 1))).toNat < n1 - (intOf (.int .i64 (k : Int))).toNat
      simp [intOf]
      omega
  have hkn : ¬ (k : Int) < (n1 : Int) := by omega
  have HO1 : Hid (∀ j, j < n1 → inB (gI b.fs j) 0 2000 = true) := Lib.hid (fun j hj => HO.out j (by omega))
  go_wp2_with fail
  refine wp_loop (fun a W => Rel (fun a W => ∃ k : Nat, k ≤ n2 ∧ (Below w.heap.size w W ∧ Blk W w.heap.size 26 #[.slice Ar s.rooms.length cr, .int .i64 s.days, .slice Am s.moves.length cm, .slice Aw s.wgs.length cw] ∧ Blk W (w.heap.size + 1) 96 #[.slice Af n1 cf, .slice Ag n2 cg]) ∧ Hid (∀ j, j < k → inB (gI b.gs j) 0 2000 = true) ∧ ∃ u : Nat → Value, a = ⟨List.toArray (u 0 :: u 1 :: .pointer (some ⟨w.heap.size, 0, none⟩) :: .pointer (some ⟨w.heap.size + 1, 0, none⟩) :: u 4 :: u 5 :: .int .i64 (k : Int) :: u 7 :: u 8 :: u 9 :: u 10 :: u 11 :: u 12 :: u 13 :: u 14 :: u 15 :: u 16 :: u 17 :: u 18 :: u 19 :: u 20 :: u 21 :: u 22 :: u 23 :: u 24 :: u 25 :: u 26 :: u 27 :: u 28 :: u 29 :: u 30 :: u 31 :: u 32 :: u 33 :: u 34 :: u 35 :: u 36 :: u 37 :: u 38 :: u 39 :: u 40 :: u 41 :: u 42 :: u 43 :: u 44 :: u 45 :: u 46 :: u 47 :: u 48 :: u 49 :: u 50 :: []), []⟩) a W) (fun a _ => n2 - (intOf (a.tmps.getD 6 undef)).toNat) ⟨⟨0, by omega, ⟨hb1, q0, q1⟩, Lib.hid (fun j hj => by omega), exFrame (by kernel_rfl)⟩⟩ ?_
  clear hb1 q0 q1 b0 b1 l1 HO hlt hk hkn W
  rintro a W ⟨⟨k, hk, ⟨hb1, q0, q1⟩, HO, u, rfl⟩⟩
  have b0 : W.cell? ⟨w.heap.size + 1, 0, none⟩ = some (.slice Af n1 cf) := q1.cell 0
  have b1 : W.cell? ⟨w.heap.size + 1, 1, none⟩ = some (.slice Ag n2 cg) := q1.cell 1
  have l1 := q1.lt
  by_cases hlt : k < n2
  · have hkn : (k : Int) < (n2 : Int) := by omega
    obtain ⟨bl, ol, hA, hbl, v0⟩ := IsInts.at_ (hg.below hb1) hlt
    rw [hA] at b1
    have lbl : bl < W.heap.size := by have := hb1.size; omega
    obtain ⟨vv, hvv⟩ : ∃ x, gI b.gs k = x := ⟨_, rfl⟩
    rw [hvv] at v0
    have HVV := Lib.hid hvv
    clear hvv
    go_wp2_with fail
    refine (In_ref _ _ _ _).mono ?_
    rintro e w' ⟨rfl, rfl⟩
    cases hI : inB vv 0 2000
    · have HR : Hid (bookB s b = false) := Lib.hid (book_grm (show k < _ by rw [HN2.out]; exact hlt) (by rw [HVV.out, hI]))
      clear hI
      go_wp2
      go_ret
      exact ⟨ret_bool HR.out.symm, hb1⟩
    · have HO2 : Hid (∀ j, j < k + 1 → inB (gI b.gs j) 0 2000 = true) := Lib.hid (fun j hj => by
        rcases Nat.lt_succ_iff_lt_or_eq.1 hj with h | h
        · exact HO.out j h
        · subst h; rw [HVV.out]; exact hI)
      clear hI
      go_wp2_with fail
      refine ⟨⟨⟨k + 1, by omega, ⟨hb1, q0, q1⟩, HO2, exFrame (by kernel_rfl)⟩⟩, ?_⟩
      show n2 - (intOf (.int .i64 ((k : Int) + 1))).toNat < n2 - (intOf (.int .i64 (k : Int))).toNat
      simp [intOf]
      omega
  have hkn : ¬ (k : Int) < (n2 : Int) := by omega
  have HR : Hid (bookB s b = (decide (b.fs.length = s.rooms.length) && decide (b.gs.length = s.moves.length))) := Lib.hid (book_all (fun k hk => HO1.out k (by have := HN1.out; omega)) (fun j hj => HO.out j (by have := HN2.out; omega)))
  have a0 : W.cell? ⟨w.heap.size, 0, none⟩ = some (.slice Ar s.rooms.length cr) := q0.cell 0
  have a1 : W.cell? ⟨w.heap.size, 1, none⟩ = some (.int .i64 s.days) := q0.cell 1
  have a2 : W.cell? ⟨w.heap.size, 2, none⟩ = some (.slice Am s.moves.length cm) := q0.cell 2
  have a3 : W.cell? ⟨w.heap.size, 3, none⟩ = some (.slice Aw s.wgs.length cw) := q0.cell 3
  have l0 := q0.lt
  by_cases h1 : n1 = s.rooms.length
  · have e1 : ((n1 : Int) == (s.rooms.length : Int)) = true := by simp [h1]
    have H1 := Lib.hid h1
    clear h1
    by_cases h2 : n2 = s.moves.length
    · have e2 : ((n2 : Int) == (s.moves.length : Int)) = true := by simp [h2]
      have H2 := Lib.hid h2
      clear h2
      go_wp2
      go_ret
      exact ⟨ret_bool (by rw [HR.out, HN1.out, HN2.out, decide_eq_true H1.out, decide_eq_true H2.out]; try rfl), hb1⟩
    · have e2 : ((n2 : Int) == (s.moves.length : Int)) = false := by rw [beq_eq_false_iff_ne]; omega
      have H2 := Lib.hid h2
      clear h2
      go_wp2
      go_ret
      exact ⟨ret_bool (by rw [HR.out, HN1.out, HN2.out, decide_eq_true H1.out, decide_eq_false H2.out]; try rfl), hb1⟩
  · have e1 : ((n1 : Int) == (s.rooms.length : Int)) = false := by rw [beq_eq_false_iff_ne]; omega
    have H1 := Lib.hid h1
    clear h1
    go_wp2
    go_ret
    exact ⟨ret_bool (by rw [HR.out, HN1.out, HN2.out, decide_eq_false H1.out, Bool.false_and]; try rfl), hb1⟩
/-- what a book says behind so many days. -/
def saysT (s : Ws) (b : Bk) (r d : Nat) : Int := gI b.fs r + esum (fun e : Nat => comes s.wo (gI b.gs) r e s.moves.length) (List.range d)
theorem saysT_succ (s : Ws) (b : Bk) (r d : Nat) : saysT s b r (d + 1) = saysT s b r d + comes s.wo (gI b.gs) r d s.moves.length := by
  unfold saysT
  rw [List.range_succ, esum_app]
  simp only [esum]
  omega
theorem saysT_bd {s : Ws} {b : Bk} {r : Nat} (h1 : ∀ k, k < s.rooms.length → 0 ≤ gI b.fs k ∧ gI b.fs k ≤ 2000) (h2 : ∀ k, k < s.moves.length → 0 ≤ gI b.gs k ∧ gI b.gs k ≤ 2000) (hr : r < s.rooms.length) (hm : s.moves.length ≤ 12) : ∀ d : Nat, -(24000 * (d : Int)) ≤ saysT s b r d ∧ saysT s b r d ≤ 2000 + 24000 * d
  | 0 => by have := h1 r hr; unfold saysT; simp only [List.range_zero, esum]; omega
  | d + 1 => by
    have h3 := saysT_bd h1 h2 hr hm d
    have h4 := comes_bd s.wo (G := gI b.gs) r d s.moves.length h2
    rw [saysT_succ]
    omega
set_option maxRecDepth 100000 in
set_option maxHeartbeats 1600000 in
theorem Says_ref (s : Ws) (Ar Am Aw : Option Addr) (cr cm cw : Nat) (w : World) (hs : WsIn w w.heap.size s Ar Am Aw) (hw : WoOk s.wo) (b : Bk) (Af Ag : Option Addr) (cf cg : Nat) (hAf : SlAt w w.heap.size 1 Af b.fs.length (fI b.fs)) (hAg : SlAt w w.heap.size 1 Ag b.gs.length (fI b.gs)) (hB : b.fs.length = s.rooms.length ∧ b.gs.length = s.moves.length ∧ (∀ k, k < s.rooms.length → 0 ≤ gI b.fs k ∧ gI b.fs k ≤ 2000) ∧ ∀ k, k < s.moves.length → 0 ≤ gI b.gs k ∧ gI b.gs k ≤ 2000) (r d : Nat) (hr : r < s.rooms.length) (hdd : d < s.wo.days) :
    Calls Try.prog 48 #[.agg #[.slice Ar s.rooms.length cr, .int .i64 s.days, .slice Am s.moves.length cm, .slice Aw s.wgs.length cw], .agg #[.slice Af b.fs.length cf, .slice Ag b.gs.length cg], .int .i64 (r : Int), .int .i64 (d : Int)] w fun e w' => e = .returned (.int .i64 (saysF s.wo b r d)) ∧ Below w.heap.size w w' := by
  obtain ⟨h1, h2, hb1', hb2'⟩ := hB
  have HB1 := Lib.hid hb1'
  have HB2 := Lib.hid hb2'
  have HL1 := Lib.hid h1
  have HL2 := Lib.hid h2
  clear h1 h2 hb1' hb2'
  obtain ⟨D, hD⟩ : ∃ D, s.wo.days = D := ⟨_, rfl⟩
  have hD6 : 1 ≤ D ∧ D ≤ 6 := by have := hw.days; omega
  have hr3 : s.rooms.length ≤ 3 := hw.len.2.1
  have hm12 : s.moves.length ≤ 12 := hw.len.2.2.1
  rw [hD] at hdd
  clear hD
  have hb1 := ex_alloc (ex_alloc (Below.refl w.heap.size w) (.cells #[.slice Ar s.rooms.length cr, .int .i64 s.days, .slice Am s.moves.length cm, .slice Aw s.wgs.length cw] 26)) (.cells #[.slice Af b.fs.length cf, .slice Ag b.gs.length cg] 96)
  have q0 : Blk ((w.alloc (.cells #[.slice Ar s.rooms.length cr, .int .i64 s.days, .slice Am s.moves.length cm, .slice Aw s.wgs.length cw] 26)).alloc (.cells #[.slice Af b.fs.length cf, .slice Ag b.gs.length cg] 96)) w.heap.size 26 #[.slice Ar s.rooms.length cr, .int .i64 s.days, .slice Am s.moves.length cm, .slice Aw s.wgs.length cw] := (Blk.new _ _ _).alloc _
  have q1 : Blk ((w.alloc (.cells #[.slice Ar s.rooms.length cr, .int .i64 s.days, .slice Am s.moves.length cm, .slice Aw s.wgs.length cw] 26)).alloc (.cells #[.slice Af b.fs.length cf, .slice Ag b.gs.length cg] 96)) (w.heap.size + 1) 96 #[.slice Af b.fs.length cf, .slice Ag b.gs.length cg] := Blk.new' _ _ _ (by simp)
  go_enter Try.func48, Try.ntmps48
  go_upto_region 1 with fail
  show Code.wp _ _ _ _ ((w.alloc (.cells #[.slice Ar s.rooms.length cr, .int .i64 s.days, .slice Am s.moves.length cm, .slice Aw s.wgs.length cw] 26)).alloc (.cells #[.slice Af b.fs.length cf, .slice Ag b.gs.length cg] 96))
  generalize (w.alloc (.cells #[.slice Ar s.rooms.length cr, .int .i64 s.days, .slice Am s.moves.length cm, .slice Aw s.wgs.length cw] 26)).alloc (.cells #[.slice Af b.fs.length cf, .slice Ag b.gs.length cg] 96) = V at *
  obtain ⟨bl, ol, hA, hbl, v0⟩ := IsInts.at_ ((hAf.below hb1)) (show r < b.fs.length by rw [HL1.out]; exact hr)
  have b0 : V.cell? ⟨w.heap.size + 1, 0, none⟩ = some (.slice Af b.fs.length cf) := q1.cell 0
  rw [hA] at b0
  have l1 := q1.lt
  have lbl : bl < V.heap.size := by have := hb1.size; omega
  have hrn : (r : Int) < (b.fs.length : Int) := by rw [HL1.out]; omega
  have hf0 := HB1.out r hr
  obtain ⟨fv, hfv⟩ : ∃ x, gI b.fs r = x := ⟨_, rfl⟩
  rw [hfv] at v0 hf0
  have HFV := Lib.hid hfv
  clear hfv
  have hs0 : Hid (fv = saysT s b r 0) := Lib.hid (by rw [← HFV.out]; simp [saysT, esum])
  go_wp2_with fail
  rw [hs0.out]
  clear b0 l1 v0
  refine wp_loop (fun a W => Rel (fun a W => ∃ k : Nat, k ≤ d + 1 ∧ (Below w.heap.size w W ∧ Blk W w.heap.size 26 #[.slice Ar s.rooms.length cr, .int .i64 s.days, .slice Am s.moves.length cm, .slice Aw s.wgs.length cw] ∧ Blk W (w.heap.size + 1) 96 #[.slice Af b.fs.length cf, .slice Ag b.gs.length cg]) ∧ ∃ u : Nat → Value, a = ⟨List.toArray (u 0 :: u 1 :: .int .i64 (r : Int) :: .int .i64 (d : Int) :: .pointer (some ⟨w.heap.size, 0, none⟩) :: .pointer (some ⟨w.heap.size + 1, 0, none⟩) :: u 6 :: u 7 :: u 8 :: .int .i64 (saysT s b r k) :: .int .i64 (k : Int) :: u 11 :: u 12 :: u 13 :: u 14 :: u 15 :: u 16 :: u 17 :: u 18 :: u 19 :: u 20 :: u 21 :: u 22 :: u 23 :: u 24 :: u 25 :: u 26 :: u 27 :: u 28 :: u 29 :: []), []⟩) a W) (fun a _ => d + 1 - (intOf (a.tmps.getD 10 undef)).toNat) ⟨⟨0, by omega, ⟨hb1, q0, q1⟩, exFrame (by kernel_rfl)⟩⟩ ?_
  clear hb1 q0 q1 lbl V
  rintro a W ⟨⟨k, hk, ⟨hb1, q0, q1⟩, u, rfl⟩⟩
  by_cases hlt : k < d + 1
  · have a0 : W.cell? ⟨w.heap.size, 0, none⟩ = some (.slice Ar s.rooms.length cr) := q0.cell 0
    have a1 : W.cell? ⟨w.heap.size, 1, none⟩ = some (.int .i64 s.days) := q0.cell 1
    have a2 : W.cell? ⟨w.heap.size, 2, none⟩ = some (.slice Am s.moves.length cm) := q0.cell 2
    have a3 : W.cell? ⟨w.heap.size, 3, none⟩ = some (.slice Aw s.wgs.length cw) := q0.cell 3
    have b0 : W.cell? ⟨w.heap.size + 1, 0, none⟩ = some (.slice Af b.fs.length cf) := q1.cell 0
    have b1 : W.cell? ⟨w.heap.size + 1, 1, none⟩ = some (.slice Ag b.gs.length cg) := q1.cell 1
    have l0 := q0.lt
    have l1 := q1.lt
    have hkd : (k : Int) ≤ (d : Int) := by omega
    go_wp2_with fail
    refine (Comes_ref s Ar Am Aw cr cm cw W (hs.go hb1) hw b.gs Ag b.gs.length cg ((hAg.below hb1).up hb1.size) (by rw [HL2.out]; exact Nat.le_refl _) HB2.out (r : Int) (k : Int)).mono ?_
    rintro e W2 ⟨rfl, hW2⟩
    have B2 := ex_trans hb1 hW2
    have hsb := saysT_bd HB1.out HB2.out hr hm12 k
    have hsb2 := saysT_bd HB1.out HB2.out hr hm12 (k + 1)
    have hss : saysT s b r k + comes s.wo (gI b.gs) (r : Int) (k : Int) s.moves.length = saysT s b r (k + 1) := (saysT_succ s b r k).symm
    obtain ⟨x0, hx0⟩ : ∃ x, saysT s b r k = x := ⟨_, rfl⟩
    obtain ⟨x1, hx1⟩ : ∃ x, saysT s b r (k + 1) = x := ⟨_, rfl⟩
    obtain ⟨cc, hcc⟩ : ∃ x, comes s.wo (gI b.gs) (r : Int) (k : Int) s.moves.length = x := ⟨_, rfl⟩
    rw [hx0] at hsb hss ⊢
    rw [hx1] at hsb2 hss
    rw [hcc] at hss ⊢
    have HX1 := Lib.hid hx1
    have HSS := Lib.hid hss
    have hcb : -300000 ≤ x0 + cc ∧ x0 + cc ≤ 300000 := by omega
    clear hx0 hx1 hcc hss hsb2
    replace q0 := q0.below hW2 q0.lt
    replace q1 := q1.below hW2 q1.lt
    clear a0 a1 a2 a3 b0 b1 l0 l1
    go_wp2_with fail
    refine ⟨⟨⟨k + 1, by omega, ⟨B2, q0, q1⟩, exFrame (by rw [HX1.out, ← HSS.out]; kernel_rfl)⟩⟩, ?_⟩
    show d + 1 - (intOf (.int .i64 ((k : Int) + 1))).toNat < d + 1 - (intOf (.int .i64 (k : Int))).toNat
    simp [intOf]
    omega
  · obtain rfl : k = d + 1 := by omega
    have hkd : ¬ (((d + 1 : Nat)) : Int) ≤ (d : Int) := by omega
    go_wp2
    go_ret
    exact ⟨ret_int rfl, hb1⟩
end Go.Proofs.Ythihdiilokdidaa
end

section
namespace Go.Proofs.Ythihdiilokdidaa
section
variable {s : Ws} {b : Bk}
theorem firstOf_before {f : Nat → Bool} {n j : Nat} (h : 0 ≤ firstOf f n) (hj : (j : Int) < firstOf f n) : f j = false := by
  cases hf : f j
  · rfl
  · have hn := (firstOf_hit h).2
    have := (firstOf_min (n := n) (by omega) hf).2
    omega
theorem firstOf_none {f : Nat → Bool} {n j : Nat} (h : ¬ 0 ≤ firstOf f n) (hj : j < n) : f j = false := by
  cases hf : f j
  · rfl
  · exact absurd (firstOf_min hj hf).1 h
theorem mis_ok (hc : ckWs s = 0) (hb : bookB s b = true) (hg : Good s.wo off0) {r d : Nat} (hr : r < s.rooms.length) (hd : d < s.wo.days) : misE s b r d = 0 ∧ misR s b r d = ⟨saysF s.wo b r d - (stkR s.wo off0 r d).hi, saysF s.wo b r d - (stkR s.wo off0 r d).lo⟩ := by
  have hdd := (ckWs_iff.1 hc).2
  have h0 : misE s b r d = 0 := by
    unfold misE
    rw [if_pos hc, hb, inB_iff.2 ⟨by omega, by omega⟩, inB_iff.2 ⟨by omega, by omega⟩, truB_iff.2 hg]
    rfl
  refine ⟨h0, ?_⟩
  unfold misR
  rw [if_pos h0]
  rfl
/-- where something is surely missing first. -/
structure LostIs (s : Ws) (b : Bk) (r d : Nat) : Prop where
  v : losV s b = ((r : Int), (d : Int))
  hr : r < s.rooms.length
  hd : d < s.wo.days
  hit : lostB s b d r = true
  row : ∀ i, i < r → lostB s b d i = false
  day : ∀ e i, e < d → i < s.rooms.length → lostB s b e i = false
theorem los_yes (h0 : losE s b = 0) (hk : 0 ≤ losD s b) : ∃ r d, LostIs s b r d := by
  have h1 := firstOf_hit hk
  have h2 : 0 ≤ losR s b (losD s b).toNat := of_decide_eq_true h1.1
  have h3 := firstOf_hit (f := lostB s b (losD s b).toNat) (n := s.rooms.length) h2
  have e2 : losR s b (losD s b).toNat = firstOf (lostB s b (losD s b).toNat) s.rooms.length := rfl
  have e1 : losD s b = firstOf (fun d => decide (0 ≤ losR s b d)) s.wo.days := rfl
  refine ⟨(losR s b (losD s b).toNat).toNat, (losD s b).toNat, ⟨?_, by rw [e2]; exact h3.2, h1.2, by rw [e2]; exact h3.1, fun i hi => ?_, fun e i he hi => ?_⟩⟩
  · unfold losV
    rw [if_pos h0, Prod.mk.injEq]
    omega
  · exact firstOf_before (n := s.rooms.length) h2 (by rw [← e2]; omega)
  · have hb : decide (0 ≤ losR s b e) = false := firstOf_before (f := fun d => decide (0 ≤ losR s b d)) (n := s.wo.days) hk (by rw [← e1]; omega)
    exact firstOf_none (of_decide_eq_false hb) hi
theorem los_ok (hc : ckWs s = 0) (hb : bookB s b = true) (hg : Good s.wo off0) : (losE s b = 0 ∧ ∃ r d, LostIs s b r d) ∨ (losE s b = 7 ∧ losV s b = (0, 0) ∧ ∀ d i, d < s.wo.days → i < s.rooms.length → lostB s b d i = false) := by
  have he : losE s b = if 0 ≤ losD s b then 0 else 7 := by
    unfold losE
    rw [if_pos hc, hb, if_pos rfl, if_pos (truB_iff.2 hg)]
  by_cases hk : 0 ≤ losD s b
  · rw [if_pos hk] at he
    exact .inl ⟨he, los_yes he hk⟩
  · rw [if_neg hk] at he
    refine .inr ⟨he, ?_, fun d i hd hi => ?_⟩
    · unfold losV
      rw [if_neg (by rw [he]; decide)]
    · have hb : decide (0 ≤ losR s b d) = false := firstOf_none (f := fun d => decide (0 ≤ losR s b d)) hk hd
      exact firstOf_none (of_decide_eq_false hb) hi
end
end Go.Proofs.Ythihdiilokdidaa
end
