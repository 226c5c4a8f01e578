/- Spill's reference: IsBook, Says (walks). · Spill's outright laws (plain): what Missing and Lost tell. · Spill's laws: SpillLost (walk). · The row SpillLost: what is missing at the place that Lost tells is more than 0 in each truth; on days before it need not be anywhere. -/
import Derived.WalkKit
import Derived.ProofKit
import Derived.OpenShut
import Derived.Test.YthihdiilokdidaaQ12
import Derived.Test.YthihdiilokdidaaQ14
import Derived.Test.YthihdiilokdidaaQ13
import Derived.Test.YthihdiilokdidaaRows
set_option linter.unusedVariables false
set_option linter.unusedSimpArgs false
set_option linter.unusedSectionVars false
section
namespace Go.Proofs.Ythihdiilokdidaa
open Go.RowKit
attribute [local go_sem] Ex.cell? Ex.frozen?

theorem book_fst {s : Ws} {b : Bk} {k : Nat} (hk : k < b.fs.length) (h : inB (gI b.fs k) 0 2000 = false) : bookB s b = false := by unfold bookB; rw [allTo_false (f := fun k => inB (gI b.fs k) 0 2000) hk h]; simp
theorem book_grm {s : Ws} {b : Bk} {k : Nat} (hk : k < b.gs.length) (h : inB (gI b.gs k) 0 2000 = false) : bookB s b = false := by unfold bookB; rw [allTo_false (f := fun k => inB (gI b.gs k) 0 2000) hk h]; simp
theorem book_all {s : Ws} {b : Bk} (h1 : ∀ k, k < b.fs.length → inB (gI b.fs k) 0 2000 = true) (h2 : ∀ k, k < b.gs.length → inB (gI b.gs k) 0 2000 = true) : bookB s b = (decide (b.fs.length = s.rooms.length) && decide (b.gs.length = s.moves.length)) := by unfold bookB; rw [allTo_iff.2 h1, allTo_iff.2 h2]; simp
set_option maxRecDepth 100000 in
set_option maxHeartbeats 3200000 in
theorem IsBook_ref (s : Ws) (Ar Am Aw : Option Addr) (cr cm cw : Nat) (w : World) (hs : WsIn w w.heap.size s Ar Am Aw) (b : Bk) (Af Ag : Option Addr) (cf cg : Nat) (hf : SlAt w w.heap.size 1 Af b.fs.length (fI b.fs)) (hg : SlAt w w.heap.size 1 Ag b.gs.length (fI b.gs)) (hsm : b.fs.length ≤ 1000 ∧ b.gs.length ≤ 1000) :
    Calls Try.prog 46 #[.agg #[.slice Ar s.rooms.length cr, .int .i64 s.days, .slice Am s.moves.length cm, .slice Aw s.wgs.length cw], .agg #[.slice Af b.fs.length cf, .slice Ag b.gs.length cg]] w fun e w' => e = .returned (.bool (bookB s b)) ∧ Below w.heap.size w w' := by
  obtain ⟨n1, hn1⟩ : ∃ n, b.fs.length = n := ⟨_, rfl⟩
  obtain ⟨n2, hn2⟩ : ∃ n, b.gs.length = n := ⟨_, rfl⟩
  have HN1 := Lib.hid hn1
  have HN2 := Lib.hid hn2
  rw [hn1] at hf hsm ⊢
  rw [hn2] at hg hsm ⊢
  clear hn1 hn2
  have hb1 := ex_alloc (ex_alloc (Below.refl w.heap.size w) (.cells #[.slice Ar s.rooms.length cr, .int .i64 s.days, .slice Am s.moves.length cm, .slice Aw s.wgs.length cw] 26)) (.cells #[.slice Af n1 cf, .slice Ag n2 cg] 96)
  have q0 : Blk ((w.alloc (.cells #[.slice Ar s.rooms.length cr, .int .i64 s.days, .slice Am s.moves.length cm, .slice Aw s.wgs.length cw] 26)).alloc (.cells #[.slice Af n1 cf, .slice Ag n2 cg] 96)) w.heap.size 26 #[.slice Ar s.rooms.length cr, .int .i64 s.days, .slice Am s.moves.length cm, .slice Aw s.wgs.length cw] := (Blk.new _ _ _).alloc _
  have q1 : Blk ((w.alloc (.cells #[.slice Ar s.rooms.length cr, .int .i64 s.days, .slice Am s.moves.length cm, .slice Aw s.wgs.length cw] 26)).alloc (.cells #[.slice Af n1 cf, .slice Ag n2 cg] 96)) (w.heap.size + 1) 96 #[.slice Af n1 cf, .slice Ag n2 cg] := Blk.new' _ _ _ (by simp)
  go_enter Try.func46, Try.ntmps46
  go_upto_region 1 with fail
  show Code.wp _ _ _ _ ((w.alloc (.cells #[.slice Ar s.rooms.length cr, .int .i64 s.days, .slice Am s.moves.length cm, .slice Aw s.wgs.length cw] 26)).alloc (.cells #[.slice Af n1 cf, .slice Ag n2 cg] 96))
  generalize (w.alloc (.cells #[.slice Ar s.rooms.length cr, .int .i64 s.days, .slice Am s.moves.length cm, .slice Aw s.wgs.length cw] 26)).alloc (.cells #[.slice Af n1 cf, .slice Ag n2 cg] 96) = V at *
  go_wp2_with fail
  refine wp_loop (fun a W => Rel (fun a W => ∃ k : Nat, k ≤ n1 ∧ (Below w.heap.size w W ∧ Blk W w.heap.size 26 #[.slice Ar s.rooms.length cr, .int .i64 s.days, .slice Am s.moves.length cm, .slice Aw s.wgs.length cw] ∧ Blk W (w.heap.size + 1) 96 #[.slice Af n1 cf, .slice Ag n2 cg]) ∧ Hid (∀ j, j < k → inB (gI b.fs j) 0 2000 = true) ∧ ∃ u : Nat → Value, a = ⟨List.toArray (u 0 :: u 1 :: .pointer (some ⟨w.heap.size, 0, none⟩) :: .pointer (some ⟨w.heap.size + 1, 0, none⟩) :: u 4 :: .int .i64 (k : Int) :: u 6 :: u 7 :: u 8 :: u 9 :: u 10 :: u 11 :: u 12 :: u 13 :: u 14 :: u 15 :: u 16 :: u 17 :: u 18 :: u 19 :: u 20 :: u 21 :: u 22 :: u 23 :: u 24 :: u 25 :: u 26 :: u 27 :: u 28 :: u 29 :: u 30 :: u 31 :: u 32 :: u 33 :: u 34 :: u 35 :: u 36 :: u 37 :: u 38 :: u 39 :: u 40 :: u 41 :: u 42 :: u 43 :: u 44 :: u 45 :: u 46 :: u 47 :: u 48 :: u 49 :: u 50 :: []), []⟩) a W) (fun a _ => n1 - (intOf (a.tmps.getD 5 undef)).toNat) ⟨⟨0, by omega, ⟨hb1, q0, q1⟩, Lib.hid (fun j hj => by omega), exFrame (by kernel_rfl)⟩⟩ ?_
  clear hb1 q0 q1 V
  rintro a W ⟨⟨k, hk, ⟨hb1, q0, q1⟩, HO, u, rfl⟩⟩
  have b0 : W.cell? ⟨w.heap.size + 1, 0, none⟩ = some (.slice Af n1 cf) := q1.cell 0
  have b1 : W.cell? ⟨w.heap.size + 1, 1, none⟩ = some (.slice Ag n2 cg) := q1.cell 1
  have l1 := q1.lt
  by_cases hlt : k < n1
  · have hkn : (k : Int) < (n1 : Int) := by omega
    obtain ⟨bl, ol, hA, hbl, v0⟩ := IsInts.at_ (hf.below hb1) hlt
    rw [hA] at b0
    have lbl : bl < W.heap.size := by have := hb1.size; omega
    obtain ⟨vv, hvv⟩ : ∃ x, gI b.fs k = x := ⟨_, rfl⟩
    rw [hvv] at v0
    have HVV := Lib.hid hvv
    clear hvv
    go_wp2_with fail
    refine (In_ref _ _ _ _).mono ?_
    rintro e w' ⟨rfl, rfl⟩
    cases hI : inB vv 0 2000
    · have HR : Hid (bookB s b = false) := Lib.hid (book_fst (show k < _ by rw [HN1.out]; exact hlt) (by rw [HVV.out, hI]))
      clear hI
      go_wp2
      go_ret
      exact ⟨ret_bool HR.out.symm, hb1⟩
    · have HO2 : Hid (∀ j, j < k + 1 → inB (gI b.fs j) 0 2000 = true) := Lib.hid (fun j hj => by
        rcases Nat.lt_succ_iff_lt_or_eq.1 hj with h | h
        · exact HO.out j h
        · subst h; rw [HVV.out]; exact hI)
      clear hI
      go_wp2_with fail
      refine ⟨⟨⟨k + 1, by omega, ⟨hb1, q0, q1⟩, HO2, exFrame (by kernel_rfl)⟩⟩, ?_⟩
      show n1 - (intOf (.int .i64 ((k : Int) + 1))).toNat < n1 - (intOf (.int .i64 (k : Int))).toNat
      simp [intOf]
      omega
  have hkn : ¬ (k : Int) < (n1 : Int) := by omega
  have HO1 : Hid (∀ j, j < n1 → inB (gI b.fs j) 0 2000 = true) := Lib.hid (fun j hj => HO.out j (by omega))
  go_wp2_with fail
  refine wp_loop (fun a W => Rel (fun a W => ∃ k : Nat, k ≤ n2 ∧ (Below w.heap.size w W ∧ Blk W w.heap.size 26 #[.slice Ar s.rooms.length cr, .int .i64 s.days, .slice Am s.moves.length cm, .slice Aw s.wgs.length cw] ∧ Blk W (w.heap.size + 1) 96 #[.slice Af n1 cf, .slice Ag n2 cg]) ∧ Hid (∀ j, j < k → inB (gI b.gs j) 0 2000 = true) ∧ ∃ u : Nat → Value, a = ⟨List.toArray (u 0 :: u 1 :: .pointer (some ⟨w.heap.size, 0, none⟩) :: .pointer (some ⟨w.heap.size + 1, 0, none⟩) :: u 4 :: u 5 :: .int .i64 (k : Int) :: u 7 :: u 8 :: u 9 :: u 10 :: u 11 :: u 12 :: u 13 :: u 14 :: u 15 :: u 16 :: u 17 :: u 18 :: u 19 :: u 20 :: u 21 :: u 22 :: u 23 :: u 24 :: u 25 :: u 26 :: u 27 :: u 28 :: u 29 :: u 30 :: u 31 :: u 32 :: u 33 :: u 34 :: u 35 :: u 36 :: u 37 :: u 38 :: u 39 :: u 40 :: u 41 :: u 42 :: u 43 :: u 44 :: u 45 :: u 46 :: u 47 :: u 48 :: u 49 :: u 50 :: []), []⟩) a W) (fun a _ => n2 - (intOf (a.tmps.getD 6 undef)).toNat) ⟨⟨0, by omega, ⟨hb1, q0, q1⟩, Lib.hid (fun j hj => by omega), exFrame (by kernel_rfl)⟩⟩ ?_
  clear hb1 q0 q1 b0 b1 l1 HO hlt hk hkn W
  rintro a W ⟨⟨k, hk, ⟨hb1, q0, q1⟩, HO, u, rfl⟩⟩
  have b0 : W.cell? ⟨w.heap.size + 1, 0, none⟩ = some (.slice Af n1 cf) := q1.cell 0
  have b1 : W.cell? ⟨w.heap.size + 1, 1, none⟩ = some (.slice Ag n2 cg) := q1.cell 1
  have l1 := q1.lt
  by_cases hlt : k < n2
  · have hkn : (k : Int) < (n2 : Int) := by omega
    obtain ⟨bl, ol, hA, hbl, v0⟩ := IsInts.at_ (hg.below hb1) hlt
    rw [hA] at b1
    have lbl : bl < W.heap.size := by have := hb1.size; omega
    obtain ⟨vv, hvv⟩ : ∃ x, gI b.gs k = x := ⟨_, rfl⟩
    rw [hvv] at v0
    have HVV := Lib.hid hvv
    clear hvv
    go_wp2_with fail
    refine (In_ref _ _ _ _).mono ?_
    rintro e w' ⟨rfl, rfl⟩
    cases hI : inB vv 0 2000
    · have HR : Hid (bookB s b = false) := Lib.hid (book_grm (show k < _ by rw [HN2.out]; exact hlt) (by rw [HVV.out, hI]))
      clear hI
      go_wp2
      go_ret
      exact ⟨ret_bool HR.out.symm, hb1⟩
    · have HO2 : Hid (∀ j, j < k + 1 → inB (gI b.gs j) 0 2000 = true) := Lib.hid (fun j hj => by
        rcases Nat.lt_succ_iff_lt_or_eq.1 hj with h | h
        · exact HO.out j h
        · subst h; rw [HVV.out]; exact hI)
      clear hI
      go_wp2_with fail
      refine ⟨⟨⟨k + 1, by omega, ⟨hb1, q0, q1⟩, HO2, exFrame (by kernel_rfl)⟩⟩, ?_⟩
      show n2 - (intOf (.int .i64 ((k : Int) + 1))).toNat < n2 - (intOf (.int .i64 (k : Int))).toNat
      simp [intOf]
      omega
  have hkn : ¬ (k : Int) < (n2 : Int) := by omega
  have HR : Hid (bookB s b = (decide (b.fs.length = s.rooms.length) && decide (b.gs.length = s.moves.length))) := Lib.hid (book_all (fun k hk => HO1.out k (by have := HN1.out; omega)) (fun j hj => HO.out j (by have := HN2.out; omega)))
  have a0 : W.cell? ⟨w.heap.size, 0, none⟩ = some (.slice Ar s.rooms.length cr) := q0.cell 0
  have a1 : W.cell? ⟨w.heap.size, 1, none⟩ = some (.int .i64 s.days) := q0.cell 1
  have a2 : W.cell? ⟨w.heap.size, 2, none⟩ = some (.slice Am s.moves.length cm) := q0.cell 2
  have a3 : W.cell? ⟨w.heap.size, 3, none⟩ = some (.slice Aw s.wgs.length cw) := q0.cell 3
  have l0 := q0.lt
  by_cases h1 : n1 = s.rooms.length
  · have e1 : ((n1 : Int) == (s.rooms.length : Int)) = true := by simp [h1]
    have H1 := Lib.hid h1
    clear h1
    by_cases h2 : n2 = s.moves.length
    · have e2 : ((n2 : Int) == (s.moves.length : Int)) = true := by simp [h2]
      have H2 := Lib.hid h2
      clear h2
      go_wp2
      go_ret
      exact ⟨ret_bool (by rw [HR.out, HN1.out, HN2.out, decide_eq_true H1.out, decide_eq_true H2.out]; try rfl), hb1⟩
    · have e2 : ((n2 : Int) == (s.moves.length : Int)) = false := by rw [beq_eq_false_iff_ne]; omega
      have H2 := Lib.hid h2
      clear h2
      go_wp2
      go_ret
      exact ⟨ret_bool (by rw [HR.out, HN1.out, HN2.out, decide_eq_true H1.out, decide_eq_false H2.out]; try rfl), hb1⟩
  · have e1 : ((n1 : Int) == (s.rooms.length : Int)) = false := by rw [beq_eq_false_iff_ne]; omega
    have H1 := Lib.hid h1
    clear h1
    go_wp2
    go_ret
    exact ⟨ret_bool (by rw [HR.out, HN1.out, HN2.out, decide_eq_false H1.out, Bool.false_and]; try rfl), hb1⟩
/-- what a book says behind so many days. -/
def saysT (s : Ws) (b : Bk) (r d : Nat) : Int := gI b.fs r + esum (fun e : Nat => comes s.wo (gI b.gs) r e s.moves.length) (List.range d)
end Go.Proofs.Ythihdiilokdidaa
end

section
namespace Go.Proofs.Ythihdiilokdidaa
section
variable {s : Ws} {b : Bk}
theorem firstOf_before {f : Nat → Bool} {n j : Nat} (h : 0 ≤ firstOf f n) (hj : (j : Int) < firstOf f n) : f j = false := by
  cases hf : f j
  · rfl
  · have hn := (firstOf_hit h).2
    have := (firstOf_min (n := n) (by omega) hf).2
    omega
theorem firstOf_none {f : Nat → Bool} {n j : Nat} (h : ¬ 0 ≤ firstOf f n) (hj : j < n) : f j = false := by
  cases hf : f j
  · rfl
  · exact absurd (firstOf_min hj hf).1 h
theorem mis_ok (hc : ckWs s = 0) (hb : bookB s b = true) (hg : Good s.wo off0) {r d : Nat} (hr : r < s.rooms.length) (hd : d < s.wo.days) : misE s b r d = 0 ∧ misR s b r d = ⟨saysF s.wo b r d - (stkR s.wo off0 r d).hi, saysF s.wo b r d - (stkR s.wo off0 r d).lo⟩ := by
  have hdd := (ckWs_iff.1 hc).2
  have h0 : misE s b r d = 0 := by
    unfold misE
    rw [if_pos hc, hb, inB_iff.2 ⟨by omega, by omega⟩, inB_iff.2 ⟨by omega, by omega⟩, truB_iff.2 hg]
    rfl
  refine ⟨h0, ?_⟩
  unfold misR
  rw [if_pos h0]
  rfl
theorem lost_lo {r d : Nat} : lostB s b d r = decide (0 < saysF s.wo b r d - (stkR s.wo off0 r d).hi) := by
  unfold lostB
  rw [decide_eq_decide]
  omega
/-- where something is surely missing first. -/
structure LostIs (s : Ws) (b : Bk) (r d : Nat) : Prop where
  v : losV s b = ((r : Int), (d : Int))
  hr : r < s.rooms.length
  hd : d < s.wo.days
  hit : lostB s b d r = true
  row : ∀ i, i < r → lostB s b d i = false
  day : ∀ e i, e < d → i < s.rooms.length → lostB s b e i = false
theorem los_yes (h0 : losE s b = 0) (hk : 0 ≤ losD s b) : ∃ r d, LostIs s b r d := by
  have h1 := firstOf_hit hk
  have h2 : 0 ≤ losR s b (losD s b).toNat := of_decide_eq_true h1.1
  have h3 := firstOf_hit (f := lostB s b (losD s b).toNat) (n := s.rooms.length) h2
  have e2 : losR s b (losD s b).toNat = firstOf (lostB s b (losD s b).toNat) s.rooms.length := rfl
  have e1 : losD s b = firstOf (fun d => decide (0 ≤ losR s b d)) s.wo.days := rfl
  refine ⟨(losR s b (losD s b).toNat).toNat, (losD s b).toNat, ⟨?_, by rw [e2]; exact h3.2, h1.2, by rw [e2]; exact h3.1, fun i hi => ?_, fun e i he hi => ?_⟩⟩
  · unfold losV
    rw [if_pos h0, Prod.mk.injEq]
    omega
  · exact firstOf_before (n := s.rooms.length) h2 (by rw [← e2]; omega)
  · have hb : decide (0 ≤ losR s b e) = false := firstOf_before (f := fun d => decide (0 ≤ losR s b d)) (n := s.wo.days) hk (by rw [← e1]; omega)
    exact firstOf_none (of_decide_eq_false hb) hi
theorem los_ok (hc : ckWs s = 0) (hb : bookB s b = true) (hg : Good s.wo off0) : (losE s b = 0 ∧ ∃ r d, LostIs s b r d) ∨ (losE s b = 7 ∧ losV s b = (0, 0) ∧ ∀ d i, d < s.wo.days → i < s.rooms.length → lostB s b d i = false) := by
  have he : losE s b = if 0 ≤ losD s b then 0 else 7 := by
    unfold losE
    rw [if_pos hc, hb, if_pos rfl, if_pos (truB_iff.2 hg)]
  by_cases hk : 0 ≤ losD s b
  · rw [if_pos hk] at he
    exact .inl ⟨he, los_yes he hk⟩
  · rw [if_neg hk] at he
    refine .inr ⟨he, ?_, fun d i hd hi => ?_⟩
    · unfold losV
      rw [if_neg (by rw [he]; decide)]
    · have hb : decide (0 ≤ losR s b d) = false := firstOf_none (f := fun d => decide (0 ≤ losR s b d)) hk hd
      exact firstOf_none (of_decide_eq_false hb) hi
end
end Go.Proofs.Ythihdiilokdidaa
end

section
namespace Go.Proofs.Ythihdiilokdidaa
open Go.RowKit
attribute [local go_sem] Ex.cell? Ex.frozen?

set_option maxRecDepth 100000 in
set_option maxHeartbeats 12800000 in
theorem LostLaw_any (s : Ws) (Ar Am Aw : Option Addr) (cr cm cw : Nat) (w : World) (hs : WsIn w w.heap.size s Ar Am Aw) (AW : Option Addr) (cW : Nat) (ws : List Int) (hwd : SlAt w w.heap.size 1 AW ws.length (fU ws)) (hwb : ∀ k, k < ws.length → 0 ≤ gI ws k ∧ gI ws k ≤ 65535) (hwl : ws.length ≤ maxLen) (b : Bk) (Af Ag : Option Addr) (cf cg : Nat) (hbk : SlAt w w.heap.size 1 Af b.fs.length (fI b.fs) ∧ SlAt w w.heap.size 1 Ag b.gs.length (fI b.gs)) :
    Calls Try.prog 12 #[.agg #[.slice Ar s.rooms.length cr, .int .i64 s.days, .slice Am s.moves.length cm, .slice Aw s.wgs.length cw], .slice AW ws.length cW, .agg #[.slice Af b.fs.length cf, .slice Ag b.gs.length cg]] w fun e w' => e = .returned (.bool true) ∧ Below w.heap.size w w' := by
  obtain ⟨hbf, hbg⟩ := hbk
  have hb1 := ex_alloc (ex_alloc (Below.refl w.heap.size w) (.cells #[.slice Ar s.rooms.length cr, .int .i64 s.days, .slice Am s.moves.length cm, .slice Aw s.wgs.length cw] 26)) (.cells #[.slice Af b.fs.length cf, .slice Ag b.gs.length cg] 96)
  have q0 : Blk ((w.alloc (.cells #[.slice Ar s.rooms.length cr, .int .i64 s.days, .slice Am s.moves.length cm, .slice Aw s.wgs.length cw] 26)).alloc (.cells #[.slice Af b.fs.length cf, .slice Ag b.gs.length cg] 96)) (w.heap.size) 26 #[.slice Ar s.rooms.length cr, .int .i64 s.days, .slice Am s.moves.length cm, .slice Aw s.wgs.length cw] := (Blk.new _ _ _).alloc _
  have qb : Blk ((w.alloc (.cells #[.slice Ar s.rooms.length cr, .int .i64 s.days, .slice Am s.moves.length cm, .slice Aw s.wgs.length cw] 26)).alloc (.cells #[.slice Af b.fs.length cf, .slice Ag b.gs.length cg] 96)) (w.heap.size + 1) 96 #[.slice Af b.fs.length cf, .slice Ag b.gs.length cg] := Blk.new' _ _ _ (by simp)
  replace hs := hs.go hb1
  replace hwd := (hwd.below hb1).up hb1.size
  have HWB := Lib.hid hwb
  clear hwb
  go_enter Try.func12, Try.ntmps12
  go_upto_region 1 with fail
  show Code.wp _ _ _ _ ((w.alloc (.cells #[.slice Ar s.rooms.length cr, .int .i64 s.days, .slice Am s.moves.length cm, .slice Aw s.wgs.length cw] 26)).alloc (.cells #[.slice Af b.fs.length cf, .slice Ag b.gs.length cg] 96))
  obtain ⟨pq0, hpq0⟩ : ∃ p, w.heap.size = p := ⟨_, rfl⟩
  obtain ⟨pqb, hpqb⟩ : ∃ p, w.heap.size + 1 = p := ⟨_, rfl⟩
  rw [hpqb] at qb ⊢
  rw [hpq0] at q0 ⊢
  clear hpq0 hpqb
  generalize (w.alloc (.cells #[.slice Ar s.rooms.length cr, .int .i64 s.days, .slice Am s.moves.length cm, .slice Aw s.wgs.length cw] 26)).alloc (.cells #[.slice Af b.fs.length cf, .slice Ag b.gs.length cg] 96) = V at *
  replace hbf := (hbf.below hb1).up hb1.size
  replace hbg := (hbg.below hb1).up hb1.size
  have a0 : V.cell? ⟨pq0, 0, none⟩ = some (.slice Ar s.rooms.length cr) := q0.cell 0
  have a1 : V.cell? ⟨pq0, 1, none⟩ = some (.int .i64 s.days) := q0.cell 1
  have a2 : V.cell? ⟨pq0, 2, none⟩ = some (.slice Am s.moves.length cm) := q0.cell 2
  have a3 : V.cell? ⟨pq0, 3, none⟩ = some (.slice Aw s.wgs.length cw) := q0.cell 3
  have la := q0.lt
  have b0 : V.cell? ⟨pqb, 0, none⟩ = some (.slice Af b.fs.length cf) := qb.cell 0
  have b1 : V.cell? ⟨pqb, 1, none⟩ = some (.slice Ag b.gs.length cg) := qb.cell 1
  have lb := qb.lt
  go_wp2_with fail
  refine (lives_any s Ar Am Aw cr cm cw V hs AW cW ws hwd HWB.out hwl 0 (by omega)).mono ?_
  rintro e V1 ⟨⟨hlv⟩, hV1⟩
  replace hs := hs.go hV1
  replace hwd := (hwd.below hV1).up hV1.size
  replace q0 := q0.below hV1 q0.lt
  replace qb := qb.below hV1 qb.lt
  replace hbf := (hbf.below hV1).up hV1.size
  replace hbg := (hbg.below hV1).up hV1.size
  have B_V1 := ex_trans hb1 hV1
  rcases hlv with ⟨A1, A2, A3, A4, A5, A6, A7, c1, c2, c3, c4, c5, c6, c7, n1, n2, n3, n4, n5, n6, n7, d, rfl⟩ | ⟨t, L, A3, A4, A5, A6, A7, c3, c4, c5, c6, c7, rV, rcV, rA, rc, rfl, hlx, hx, ht, hM⟩
  · clear a0 a1 a2 a3 la
    have a0 : V1.cell? ⟨pq0, 0, none⟩ = some (.slice Ar s.rooms.length cr) := q0.cell 0
    have a1 : V1.cell? ⟨pq0, 1, none⟩ = some (.int .i64 s.days) := q0.cell 1
    have a2 : V1.cell? ⟨pq0, 2, none⟩ = some (.slice Am s.moves.length cm) := q0.cell 2
    have a3 : V1.cell? ⟨pq0, 3, none⟩ = some (.slice Aw s.wgs.length cw) := q0.cell 3
    have la := q0.lt
    clear b0 b1 lb
    have b0 : V1.cell? ⟨pqb, 0, none⟩ = some (.slice Af b.fs.length cf) := qb.cell 0
    have b1 : V1.cell? ⟨pqb, 1, none⟩ = some (.slice Ag b.gs.length cg) := qb.cell 1
    have lb := qb.lt
    go_wp2_with fail
    refine (awake_any _).mono ?_
    rintro e Wz ⟨rfl, hz⟩
    go_wp2
    go_ret
    exact ⟨rfl, ex_trans (ex_alloc (ex_alloc B_V1 _) _) hz⟩
  have HLX := Lib.hid hlx
  clear hlx
  replace hx : WsIn V1 V1.heap.size (s.wg L) Ar Am A3 := ⟨hs.rooms, hs.moves, hx⟩
  clear a0 a1 a2 a3 la
  have a0 : V1.cell? ⟨pq0, 0, none⟩ = some (.slice Ar s.rooms.length cr) := q0.cell 0
  have a1 : V1.cell? ⟨pq0, 1, none⟩ = some (.int .i64 s.days) := q0.cell 1
  have a2 : V1.cell? ⟨pq0, 2, none⟩ = some (.slice Am s.moves.length cm) := q0.cell 2
  have a3 : V1.cell? ⟨pq0, 3, none⟩ = some (.slice Aw s.wgs.length cw) := q0.cell 3
  have la := q0.lt
  clear b0 b1 lb
  have b0 : V1.cell? ⟨pqb, 0, none⟩ = some (.slice Af b.fs.length cf) := qb.cell 0
  have b1 : V1.cell? ⟨pqb, 1, none⟩ = some (.slice Ag b.gs.length cg) := qb.cell 1
  have lb := qb.lt
  have N2 := ex_alloc (ex_alloc (Below.refl V1.heap.size V1) (.cells #[.slice Ar s.rooms.length cr, .int .i64 s.days, .slice Am s.moves.length cm, .slice A3 L.length c3] 26)) (.cells #[.slice A4 t.fs.length c4, .slice A5 t.vs.length c5, .slice A6 t.gs.length c6] 31)
  have qx : Blk ((V1.alloc (.cells #[.slice Ar s.rooms.length cr, .int .i64 s.days, .slice Am s.moves.length cm, .slice A3 L.length c3] 26)).alloc (.cells #[.slice A4 t.fs.length c4, .slice A5 t.vs.length c5, .slice A6 t.gs.length c6] 31)) V1.heap.size 26 #[.slice Ar s.rooms.length cr, .int .i64 s.days, .slice Am s.moves.length cm, .slice A3 L.length c3] := (Blk.new _ _ _).alloc _
  have qt : Blk ((V1.alloc (.cells #[.slice Ar s.rooms.length cr, .int .i64 s.days, .slice Am s.moves.length cm, .slice A3 L.length c3] 26)).alloc (.cells #[.slice A4 t.fs.length c4, .slice A5 t.vs.length c5, .slice A6 t.gs.length c6] 31)) (V1.heap.size + 1) 31 #[.slice A4 t.fs.length c4, .slice A5 t.vs.length c5, .slice A6 t.gs.length c6] := Blk.new' _ _ _ (by simp)
  go_upto_region 2 with fail
  clear a0 a1 a2 a3 la
  clear b0 b1 lb
  replace hs := hs.go N2
  replace hwd := (hwd.below N2).up N2.size
  replace q0 := q0.below N2 q0.lt
  replace qb := qb.below N2 qb.lt
  replace hbf := (hbf.below N2).up N2.size
  replace hbg := (hbg.below N2).up N2.size
  replace hx := hx.go N2
  replace ht := ht.go N2
  replace hM := hM.go N2
  have B_V2 := ex_trans B_V1 N2
  obtain ⟨pqx, hpqx⟩ : ∃ p, V1.heap.size = p := ⟨_, rfl⟩
  rw [hpqx] at qx qt ⊢
  clear N2
  generalize (V1.alloc (.cells #[.slice Ar s.rooms.length cr, .int .i64 s.days, .slice Am s.moves.length cm, .slice A3 L.length c3] 26)).alloc (.cells #[.slice A4 t.fs.length c4, .slice A5 t.vs.length c5, .slice A6 t.gs.length c6] 31) = V2 at *
  clear hpqx
  have HSX : Hid ((s.wg L).rooms.length ≤ 1000 ∧ (s.wg L).moves.length ≤ 1000 ∧ (s.wg L).wgs.length ≤ 1000) := Lib.hid HLX.out.sm
  have HWO := Lib.hid HLX.out.wo.1
  have HDD := Lib.hid HLX.out.wo.2
  have HWX := Lib.hid HLX.out.wox.1
  have HDX := Lib.hid HLX.out.wox.2
  have hr3 : 1 ≤ s.rooms.length ∧ s.rooms.length ≤ 3 := HWO.out.len.elim (fun a b => ⟨a, b.1⟩)
  have hm12 : s.moves.length ≤ 12 := HWO.out.len.2.2.1
  have hl8 : L.length ≤ 8 := HWX.out.len.2.2.2
  have hwl8 : s.wgs.length ≤ 8 := HWO.out.len.2.2.2
  have a0 : V2.cell? ⟨pq0, 0, none⟩ = some (.slice Ar s.rooms.length cr) := q0.cell 0
  have a1 : V2.cell? ⟨pq0, 1, none⟩ = some (.int .i64 s.days) := q0.cell 1
  have a2 : V2.cell? ⟨pq0, 2, none⟩ = some (.slice Am s.moves.length cm) := q0.cell 2
  have a3 : V2.cell? ⟨pq0, 3, none⟩ = some (.slice Aw s.wgs.length cw) := q0.cell 3
  have la := q0.lt
  have b0 : V2.cell? ⟨pqb, 0, none⟩ = some (.slice Af b.fs.length cf) := qb.cell 0
  have b1 : V2.cell? ⟨pqb, 1, none⟩ = some (.slice Ag b.gs.length cg) := qb.cell 1
  have lb := qb.lt
  have x0 : V2.cell? ⟨pqx, 0, none⟩ = some (.slice Ar s.rooms.length cr) := qx.cell 0
  have x1 : V2.cell? ⟨pqx, 1, none⟩ = some (.int .i64 s.days) := qx.cell 1
  have x2 : V2.cell? ⟨pqx, 2, none⟩ = some (.slice Am s.moves.length cm) := qx.cell 2
  have x3 : V2.cell? ⟨pqx, 3, none⟩ = some (.slice A3 L.length c3) := qx.cell 3
  have lx := qx.lt
  have t0 : V2.cell? ⟨pqx + 1, 0, none⟩ = some (.slice A4 t.fs.length c4) := qt.cell 0
  have t1 : V2.cell? ⟨pqx + 1, 1, none⟩ = some (.slice A5 t.vs.length c5) := qt.cell 1
  have t2 : V2.cell? ⟨pqx + 1, 2, none⟩ = some (.slice A6 t.gs.length c6) := qt.cell 2
  have lt := qt.lt
  by_cases h9 : 9 < b.fs.length
  · have h9' : (9 : Int) < (b.fs.length : Int) := by omega
    go_wp2_with fail
    refine (awake_any V2).mono ?_
    rintro e Wz ⟨rfl, hz⟩
    go_wp2
    go_ret
    exact ⟨rfl, ex_trans B_V2 hz⟩
  have h9' : ¬ (9 : Int) < (b.fs.length : Int) := by omega
  by_cases h18 : 18 < b.gs.length
  · have h18' : (18 : Int) < (b.gs.length : Int) := by omega
    go_wp2_with fail
    refine (awake_any V2).mono ?_
    rintro e Wz ⟨rfl, hz⟩
    go_wp2
    go_ret
    exact ⟨rfl, ex_trans B_V2 hz⟩
  have h18' : ¬ (18 : Int) < (b.gs.length : Int) := by omega
  have hsb : b.fs.length ≤ 1000 ∧ b.gs.length ≤ 1000 := by omega
  go_wp2_with fail
  refine (IsBook_ref s Ar Am Aw cr cm cw V2 hs b Af Ag cf cg hbf hbg hsb).mono ?_
  rintro e V4 ⟨rfl, hV4⟩
  replace hs := hs.go hV4
  replace hwd := (hwd.below hV4).up hV4.size
  replace q0 := q0.below hV4 q0.lt
  replace qb := qb.below hV4 qb.lt
  replace hbf := (hbf.below hV4).up hV4.size
  replace hbg := (hbg.below hV4).up hV4.size
  replace hx := hx.go hV4
  replace ht := ht.go hV4
  replace hM := hM.go hV4
  replace qx := qx.below hV4 qx.lt
  replace qt := qt.below hV4 qt.lt
  have B_V4 := ex_trans B_V2 hV4
  clear a0 a1 a2 a3 la
  have a0 : V4.cell? ⟨pq0, 0, none⟩ = some (.slice Ar s.rooms.length cr) := q0.cell 0
  have a1 : V4.cell? ⟨pq0, 1, none⟩ = some (.int .i64 s.days) := q0.cell 1
  have a2 : V4.cell? ⟨pq0, 2, none⟩ = some (.slice Am s.moves.length cm) := q0.cell 2
  have a3 : V4.cell? ⟨pq0, 3, none⟩ = some (.slice Aw s.wgs.length cw) := q0.cell 3
  have la := q0.lt
  clear b0 b1 lb
  have b0 : V4.cell? ⟨pqb, 0, none⟩ = some (.slice Af b.fs.length cf) := qb.cell 0
  have b1 : V4.cell? ⟨pqb, 1, none⟩ = some (.slice Ag b.gs.length cg) := qb.cell 1
  have lb := qb.lt
  clear x0 x1 x2 x3 lx
  have x0 : V4.cell? ⟨pqx, 0, none⟩ = some (.slice Ar s.rooms.length cr) := qx.cell 0
  have x1 : V4.cell? ⟨pqx, 1, none⟩ = some (.int .i64 s.days) := qx.cell 1
  have x2 : V4.cell? ⟨pqx, 2, none⟩ = some (.slice Am s.moves.length cm) := qx.cell 2
  have x3 : V4.cell? ⟨pqx, 3, none⟩ = some (.slice A3 L.length c3) := qx.cell 3
  have lx := qx.lt
  clear t0 t1 t2 lt
  have t0 : V4.cell? ⟨pqx + 1, 0, none⟩ = some (.slice A4 t.fs.length c4) := qt.cell 0
  have t1 : V4.cell? ⟨pqx + 1, 1, none⟩ = some (.slice A5 t.vs.length c5) := qt.cell 1
  have t2 : V4.cell? ⟨pqx + 1, 2, none⟩ = some (.slice A6 t.gs.length c6) := qt.cell 2
  have lt := qt.lt
  cases hbk : bookB s b
  · clear hbk
    go_wp2_with fail
    refine (awake_any V4).mono ?_
    rintro e Wz ⟨rfl, hz⟩
    go_wp2
    go_ret
    exact ⟨rfl, ex_trans B_V4 hz⟩
  have HBK : Hid (bookB (s.wg L) b = true) := Lib.hid hbk
  clear hbk h9 h9' h18 h18'
  go_upto_region 4 with fail
  have D4 := (Below.refl V4.heap.size V4).drew
  refine wp_region_ext_mix 11 [(false, 0), (false, 2), (true, 1), (true, 3), (true, 4), (false, 5), (false, 6), (false, 7), (false, 8), (false, 9), (false, 10)] (by kernel_rfl) (by kernel_rfl) (by intro d _ _ _ _ h; cases d <;> exact h) ?_
  repeat (refine mix_quiet rfl ?_; go_big_quiet_step (fail); refine wpQuiet_nil ?_)
  obtain ⟨Y4, hY⟩ : ∃ Y, V4.drew = Y := ⟨_, rfl⟩
  rw [hY] at D4 ⊢
  clear hY
  clear a0 a1 a2 a3 la
  clear b0 b1 lb
  clear x0 x1 x2 x3 lx
  clear t0 t1 t2 lt
  replace hs := hs.go D4
  replace hwd := (hwd.below D4).up D4.size
  replace q0 := q0.below D4 q0.lt
  replace qb := qb.below D4 qb.lt
  replace hbf := (hbf.below D4).up D4.size
  replace hbg := (hbg.below D4).up D4.size
  replace hx := hx.go D4
  replace ht := ht.go D4
  replace hM := hM.go D4
  replace qx := qx.below D4 qx.lt
  replace qt := qt.below D4 qt.lt
  have B_Y4 := ex_trans B_V4 D4
  refine mix_loud rfl ?_
  go_wp2_with fail
  refine (Works_any (s.wg L) Ar Am A3 cr cm c3 Y4 hx HSX.out).mono ?_
  rintro e V5 ⟨⟨⟨Ar1, Am1, Aw1, cr1, cm1, cw1, rfl, hw1⟩⟩, hV5⟩
  replace hs := hs.go hV5
  replace hwd := (hwd.below hV5).up hV5.size
  replace q0 := q0.below hV5 q0.lt
  replace qb := qb.below hV5 qb.lt
  replace hbf := (hbf.below hV5).up hV5.size
  replace hbg := (hbg.below hV5).up hV5.size
  replace hx := hx.go hV5
  replace ht := ht.go hV5
  replace hM := hM.go hV5
  replace qx := qx.below hV5 qx.lt
  replace qt := qt.below hV5 qt.lt
  have B_V5 := ex_trans B_Y4 hV5
  have X_V5 := ex_trans D4 hV5
  go_wp2_with fail
  refine ⟨inEx X_V5, ?_⟩
  repeat (refine mix_quiet rfl ?_; go_big_quiet_step (fail); refine wpQuiet_nil ?_)
  refine mix_loud rfl ?_
  go_wp2_with fail
  refine (Book_any b Af Ag cf cg V5 hsb ⟨hbf, hbg⟩).mono ?_
  rintro e V6 ⟨⟨D11, D21, d11, d21, rfl, f11, f21⟩, hV6⟩
  replace hs := hs.go hV6
  replace hwd := (hwd.below hV6).up hV6.size
  replace q0 := q0.below hV6 q0.lt
  replace qb := qb.below hV6 qb.lt
  replace hbf := (hbf.below hV6).up hV6.size
  replace hbg := (hbg.below hV6).up hV6.size
  replace hx := hx.go hV6
  replace ht := ht.go hV6
  replace hM := hM.go hV6
  replace qx := qx.below hV6 qx.lt
  replace qt := qt.below hV6 qt.lt
  replace hw1 := hw1.go hV6
  have B_V6 := ex_trans B_V5 hV6
  have X_V6 := ex_trans X_V5 hV6
  go_wp2_with fail
  refine ⟨inEx X_V6, ?_⟩
  repeat (refine mix_quiet rfl ?_; go_big_quiet_step (fail); refine wpQuiet_nil ?_)
  refine mix_loud rfl ?_
  go_wp2_with fail
  refine (Lost_any (s.wg L) Ar1 Am1 Aw1 cr1 cm1 cw1 V6 hw1 b D11 D21 d11 d21 f11 f21 ⟨HSX.out.1, HSX.out.2.1⟩ hsb).mono ?_
  rintro e V7 ⟨rfl, hV7⟩
  replace hs := hs.go hV7
  replace hwd := (hwd.below hV7).up hV7.size
  replace q0 := q0.below hV7 q0.lt
  replace qb := qb.below hV7 qb.lt
  replace hbf := (hbf.below hV7).up hV7.size
  replace hbg := (hbg.below hV7).up hV7.size
  replace hx := hx.go hV7
  replace ht := ht.go hV7
  replace hM := hM.go hV7
  replace qx := qx.below hV7 qx.lt
  replace qt := qt.below hV7 qt.lt
  replace hw1 := hw1.go hV7
  replace f11 := (f11.below hV7).up hV7.size
  replace f21 := (f21.below hV7).up hV7.size
  have B_V7 := ex_trans B_V6 hV7
  have X_V7 := ex_trans X_V6 hV7
  clear hw1 f11 f21
  have hlos := los_ok HLX.out.ckx HBK.out HLX.out.good0
  obtain ⟨D, hD⟩ : ∃ D, s.wo.days = D := ⟨_, rfl⟩
  have hD6 : 1 ≤ D ∧ D ≤ 6 := by have := HWO.out.days; omega
  have HD := Lib.hid hD
  have HSD : Hid (s.days = (D : Int)) := Lib.hid (by rw [HDD.out, hD])
  clear hD
  rcases hlos with ⟨hE, r, d, hli⟩ | ⟨hE, hV, hno⟩
  · rw [hE, hli.v]
    clear hE
    have HLI := Lib.hid hli
    have hrn : r < s.rooms.length := hli.hr
    have hdn : d < D := by have h : d < s.wo.days := hli.hd; rw [HD.out] at h; exact h
    clear hli
    go_wp2_with fail
    refine ⟨inEx X_V7, ?_⟩
    repeat (refine mix_quiet rfl ?_; go_big_quiet_step (fail); refine wpQuiet_nil ?_)
    refine mix_nil (r := [_]) rfl ?_
    have a0 : V7.cell? ⟨pq0, 0, none⟩ = some (.slice Ar s.rooms.length cr) := q0.cell 0
    have a1 : V7.cell? ⟨pq0, 1, none⟩ = some (.int .i64 s.days) := q0.cell 1
    have a2 : V7.cell? ⟨pq0, 2, none⟩ = some (.slice Am s.moves.length cm) := q0.cell 2
    have a3 : V7.cell? ⟨pq0, 3, none⟩ = some (.slice Aw s.wgs.length cw) := q0.cell 3
    have la := q0.lt
    have b0 : V7.cell? ⟨pqb, 0, none⟩ = some (.slice Af b.fs.length cf) := qb.cell 0
    have b1 : V7.cell? ⟨pqb, 1, none⟩ = some (.slice Ag b.gs.length cg) := qb.cell 1
    have lb := qb.lt
    have x0 : V7.cell? ⟨pqx, 0, none⟩ = some (.slice Ar s.rooms.length cr) := qx.cell 0
    have x1 : V7.cell? ⟨pqx, 1, none⟩ = some (.int .i64 s.days) := qx.cell 1
    have x2 : V7.cell? ⟨pqx, 2, none⟩ = some (.slice Am s.moves.length cm) := qx.cell 2
    have x3 : V7.cell? ⟨pqx, 3, none⟩ = some (.slice A3 L.length c3) := qx.cell 3
    have lx := qx.lt
    have t0 : V7.cell? ⟨pqx + 1, 0, none⟩ = some (.slice A4 t.fs.length c4) := qt.cell 0
    have t1 : V7.cell? ⟨pqx + 1, 1, none⟩ = some (.slice A5 t.vs.length c5) := qt.cell 1
    have t2 : V7.cell? ⟨pqx + 1, 2, none⟩ = some (.slice A6 t.gs.length c6) := qt.cell 2
    have lt := qt.lt
    rw [HSD.out] at a1
    have n1 : ¬ (r : Int) < 0 := by omega
    have n2 : ¬ (s.rooms.length : Int) ≤ (r : Int) := by omega
    have n3 : ¬ (d : Int) < 0 := by omega
    have n4 : ¬ (D : Int) ≤ (d : Int) := by omega
    go_wp2_with fail
    refine wp_loop (fun a W => Rel (fun a W => ∃ k : Nat, k ≤ D ∧ k ≤ d ∧ Below V7.heap.size V7 W ∧ ∃ u : Nat → Value, a = ⟨List.toArray (u 0 :: u 1 :: u 2 :: .pointer (some ⟨pq0, 0, none⟩) :: u 4 :: .pointer (some ⟨pqb, 0, none⟩) :: u 6 :: .pointer (some ⟨pqx, 0, none⟩) :: u 8 :: u 9 :: u 10 :: .int .i64 (r : Int) :: .int .i64 (d : Int) :: .int .i64 0 :: .int .i64 (k : Int) :: u 15 :: u 16 :: u 17 :: u 18 :: u 19 :: u 20 :: u 21 :: u 22 :: u 23 :: u 24 :: u 25 :: u 26 :: u 27 :: u 28 :: u 29 :: u 30 :: u 31 :: u 32 :: u 33 :: u 34 :: u 35 :: u 36 :: u 37 :: u 38 :: u 39 :: u 40 :: u 41 :: u 42 :: u 43 :: u 44 :: u 45 :: u 46 :: u 47 :: u 48 :: u 49 :: u 50 :: u 51 :: u 52 :: u 53 :: u 54 :: u 55 :: u 56 :: u 57 :: u 58 :: u 59 :: u 60 :: u 61 :: u 62 :: u 63 :: u 64 :: u 65 :: u 66 :: u 67 :: u 68 :: u 69 :: u 70 :: u 71 :: u 72 :: u 73 :: u 74 :: u 75 :: u 76 :: u 77 :: u 78 :: u 79 :: u 80 :: u 81 :: u 82 :: u 83 :: u 84 :: u 85 :: u 86 :: u 87 :: u 88 :: u 89 :: u 90 :: u 91 :: u 92 :: u 93 :: u 94 :: u 95 :: u 96 :: u 97 :: u 98 :: u 99 :: u 100 :: u 101 :: u 102 :: u 103 :: u 104 :: u 105 :: u 106 :: u 107 :: u 108 :: u 109 :: u 110 :: u 111 :: u 112 :: u 113 :: u 114 :: u 115 :: u 116 :: u 117 :: u 118 :: u 119 :: u 120 :: u 121 :: u 122 :: u 123 :: u 124 :: u 125 :: u 126 :: u 127 :: u 128 :: u 129 :: u 130 :: u 131 :: u 132 :: u 133 :: u 134 :: u 135 :: u 136 :: u 137 :: []), []⟩) a W) (fun a _ => D - (intOf (a.tmps.getD 14 undef)).toNat) ⟨⟨0, by omega, by omega, Below.refl _ _, exFrame (by kernel_rfl)⟩⟩ ?_
    clear a0 a1 a2 a3 la
    clear b0 b1 lb
    clear x0 x1 x2 x3 lx
    clear t0 t1 t2 lt
    rintro a W ⟨⟨k, hk, hkd, hbw, u, rfl⟩⟩
    replace hs := hs.go hbw
    replace hwd := (hwd.below hbw).up hbw.size
    replace q0 := q0.below hbw q0.lt
    replace qb := qb.below hbw qb.lt
    replace hbf := (hbf.below hbw).up hbw.size
    replace hbg := (hbg.below hbw).up hbw.size
    replace hx := hx.go hbw
    replace ht := ht.go hbw
    replace hM := hM.go hbw
    replace qx := qx.below hbw qx.lt
    replace qt := qt.below hbw qt.lt
    have B_W := ex_trans B_V7 hbw
    have a0 : W.cell? ⟨pq0, 0, none⟩ = some (.slice Ar s.rooms.length cr) := q0.cell 0
    have a1 : W.cell? ⟨pq0, 1, none⟩ = some (.int .i64 s.days) := q0.cell 1
    have a2 : W.cell? ⟨pq0, 2, none⟩ = some (.slice Am s.moves.length cm) := q0.cell 2
    have a3 : W.cell? ⟨pq0, 3, none⟩ = some (.slice Aw s.wgs.length cw) := q0.cell 3
    have la := q0.lt
    have b0 : W.cell? ⟨pqb, 0, none⟩ = some (.slice Af b.fs.length cf) := qb.cell 0
    have b1 : W.cell? ⟨pqb, 1, none⟩ = some (.slice Ag b.gs.length cg) := qb.cell 1
    have lb := qb.lt
    have x0 : W.cell? ⟨pqx, 0, none⟩ = some (.slice Ar s.rooms.length cr) := qx.cell 0
    have x1 : W.cell? ⟨pqx, 1, none⟩ = some (.int .i64 s.days) := qx.cell 1
    have x2 : W.cell? ⟨pqx, 2, none⟩ = some (.slice Am s.moves.length cm) := qx.cell 2
    have x3 : W.cell? ⟨pqx, 3, none⟩ = some (.slice A3 L.length c3) := qx.cell 3
    have lx := qx.lt
    have t0 : W.cell? ⟨pqx + 1, 0, none⟩ = some (.slice A4 t.fs.length c4) := qt.cell 0
    have t1 : W.cell? ⟨pqx + 1, 1, none⟩ = some (.slice A5 t.vs.length c5) := qt.cell 1
    have t2 : W.cell? ⟨pqx + 1, 2, none⟩ = some (.slice A6 t.gs.length c6) := qt.cell 2
    have lt := qt.lt
    rw [HSD.out] at a1
    by_cases hlt : k < D
    · have hlt' : (k : Int) < (D : Int) := by omega
      go_wp2_with fail
      refine wp_loop (fun a W2 => Rel (fun a W2 => ∃ j : Nat, j ≤ s.rooms.length ∧ (k < d ∨ (k = d ∧ j ≤ r)) ∧ Below W.heap.size W W2 ∧ ∃ u : Nat → Value, a = ⟨List.toArray (u 0 :: u 1 :: u 2 :: .pointer (some ⟨pq0, 0, none⟩) :: u 4 :: .pointer (some ⟨pqb, 0, none⟩) :: u 6 :: .pointer (some ⟨pqx, 0, none⟩) :: u 8 :: u 9 :: u 10 :: .int .i64 (r : Int) :: .int .i64 (d : Int) :: .int .i64 0 :: .int .i64 (k : Int) :: .int .i64 (j : Int) :: u 16 :: u 17 :: u 18 :: u 19 :: u 20 :: u 21 :: u 22 :: u 23 :: u 24 :: u 25 :: u 26 :: u 27 :: u 28 :: u 29 :: u 30 :: u 31 :: u 32 :: u 33 :: u 34 :: u 35 :: u 36 :: u 37 :: u 38 :: u 39 :: u 40 :: u 41 :: u 42 :: u 43 :: u 44 :: u 45 :: u 46 :: u 47 :: u 48 :: u 49 :: u 50 :: u 51 :: u 52 :: u 53 :: u 54 :: u 55 :: u 56 :: u 57 :: u 58 :: u 59 :: u 60 :: u 61 :: u 62 :: u 63 :: u 64 :: u 65 :: u 66 :: u 67 :: u 68 :: u 69 :: u 70 :: u 71 :: u 72 :: u 73 :: u 74 :: u 75 :: u 76 :: u 77 :: u 78 :: u 79 :: u 80 :: u 81 :: u 82 :: u 83 :: u 84 :: u 85 :: u 86 :: u 87 :: u 88 :: u 89 :: u 90 :: u 91 :: u 92 :: u 93 :: u 94 :: u 95 :: u 96 :: u 97 :: u 98 :: u 99 :: u 100 :: u 101 :: u 102 :: u 103 :: u 104 :: u 105 :: u 106 :: u 107 :: u 108 :: u 109 :: u 110 :: u 111 :: u 112 :: u 113 :: u 114 :: u 115 :: u 116 :: u 117 :: u 118 :: u 119 :: u 120 :: u 121 :: u 122 :: u 123 :: u 124 :: u 125 :: u 126 :: u 127 :: u 128 :: u 129 :: u 130 :: u 131 :: u 132 :: u 133 :: u 134 :: u 135 :: u 136 :: u 137 :: []), []⟩) a W2) (fun a _ => s.rooms.length - (intOf (a.tmps.getD 15 undef)).toNat) ⟨⟨0, by omega, by omega, Below.refl _ _, exFrame (by kernel_rfl)⟩⟩ ?_
      clear a0 a1 a2 a3 la
      clear b0 b1 lb
      clear x0 x1 x2 x3 lx
      clear t0 t1 t2 lt
      rintro a W2 ⟨⟨j, hj, hkj, hbw2, u2, rfl⟩⟩
      replace hs := hs.go hbw2
      replace hwd := (hwd.below hbw2).up hbw2.size
      replace q0 := q0.below hbw2 q0.lt
      replace qb := qb.below hbw2 qb.lt
      replace hbf := (hbf.below hbw2).up hbw2.size
      replace hbg := (hbg.below hbw2).up hbw2.size
      replace hx := hx.go hbw2
      replace ht := ht.go hbw2
      replace hM := hM.go hbw2
      replace qx := qx.below hbw2 qx.lt
      replace qt := qt.below hbw2 qt.lt
      have B_W2 := ex_trans B_W hbw2
      have X_W2 := ex_trans hbw hbw2
      have a0 : W2.cell? ⟨pq0, 0, none⟩ = some (.slice Ar s.rooms.length cr) := q0.cell 0
      have a1 : W2.cell? ⟨pq0, 1, none⟩ = some (.int .i64 s.days) := q0.cell 1
      have a2 : W2.cell? ⟨pq0, 2, none⟩ = some (.slice Am s.moves.length cm) := q0.cell 2
      have a3 : W2.cell? ⟨pq0, 3, none⟩ = some (.slice Aw s.wgs.length cw) := q0.cell 3
      have la := q0.lt
      have b0 : W2.cell? ⟨pqb, 0, none⟩ = some (.slice Af b.fs.length cf) := qb.cell 0
      have b1 : W2.cell? ⟨pqb, 1, none⟩ = some (.slice Ag b.gs.length cg) := qb.cell 1
      have lb := qb.lt
      have x0 : W2.cell? ⟨pqx, 0, none⟩ = some (.slice Ar s.rooms.length cr) := qx.cell 0
      have x1 : W2.cell? ⟨pqx, 1, none⟩ = some (.int .i64 s.days) := qx.cell 1
      have x2 : W2.cell? ⟨pqx, 2, none⟩ = some (.slice Am s.moves.length cm) := qx.cell 2
      have x3 : W2.cell? ⟨pqx, 3, none⟩ = some (.slice A3 L.length c3) := qx.cell 3
      have lx := qx.lt
      have t0 : W2.cell? ⟨pqx + 1, 0, none⟩ = some (.slice A4 t.fs.length c4) := qt.cell 0
      have t1 : W2.cell? ⟨pqx + 1, 1, none⟩ = some (.slice A5 t.vs.length c5) := qt.cell 1
      have t2 : W2.cell? ⟨pqx + 1, 2, none⟩ = some (.slice A6 t.gs.length c6) := qt.cell 2
      have lt := qt.lt
      by_cases hlj : j < s.rooms.length
      · have hlj' : (j : Int) < (s.rooms.length : Int) := by omega
        have hlD : k < s.wo.days := by rw [HD.out]; exact hlt
        obtain ⟨hm0, hm1⟩ := mis_ok HLX.out.ckx HBK.out HLX.out.good0 (r := j) (d := k) hlj hlD
        have hlo := lost_lo (s := s.wg L) (b := b) (r := j) (d := k)
        obtain ⟨lo, hlo1⟩ : ∃ x, saysF (s.wg L).wo b j k - (stkR (s.wg L).wo off0 j k).hi = x := ⟨_, rfl⟩
        obtain ⟨hi, hhi1⟩ : ∃ x, saysF (s.wg L).wo b j k - (stkR (s.wg L).wo off0 j k).lo = x := ⟨_, rfl⟩
        rw [hlo1] at hm1 hlo
        rw [hhi1] at hm1
        have HM := Lib.hid (And.intro hm0 hm1)
        have HLO := Lib.hid hlo
        clear hm0 hm1 hlo hlo1 hhi1 hlD
        go_upto_region 13 with fail
        rename_i Q' K hK
        have hrest : ∀ (W3 : World) (pm : Nat) (a : Act), Below W2.heap.size W2 W3 → Blk W3 pm 50 #[.int .i64 lo, .int .i64 hi] → (∃ u : Nat → Value, a = ⟨List.toArray (u 0 :: u 1 :: u 2 :: .pointer (some ⟨pq0, 0, none⟩) :: u 4 :: .pointer (some ⟨pqb, 0, none⟩) :: u 6 :: .pointer (some ⟨pqx, 0, none⟩) :: u 8 :: u 9 :: u 10 :: .int .i64 (r : Int) :: .int .i64 (d : Int) :: .int .i64 0 :: .int .i64 (k : Int) :: .int .i64 (j : Int) :: .pointer (some ⟨pm, 0, none⟩) :: .int .i64 0 :: u 18 :: u 19 :: u 20 :: u 21 :: u 22 :: u 23 :: u 24 :: u 25 :: u 26 :: u 27 :: u 28 :: u 29 :: u 30 :: u 31 :: u 32 :: u 33 :: u 34 :: u 35 :: u 36 :: u 37 :: u 38 :: u 39 :: u 40 :: u 41 :: u 42 :: u 43 :: u 44 :: u 45 :: u 46 :: u 47 :: u 48 :: u 49 :: u 50 :: u 51 :: u 52 :: u 53 :: u 54 :: u 55 :: u 56 :: u 57 :: u 58 :: u 59 :: u 60 :: u 61 :: u 62 :: u 63 :: u 64 :: u 65 :: u 66 :: u 67 :: u 68 :: u 69 :: u 70 :: u 71 :: u 72 :: u 73 :: u 74 :: u 75 :: u 76 :: u 77 :: u 78 :: u 79 :: u 80 :: u 81 :: u 82 :: u 83 :: u 84 :: u 85 :: u 86 :: u 87 :: u 88 :: u 89 :: u 90 :: u 91 :: u 92 :: u 93 :: u 94 :: u 95 :: u 96 :: u 97 :: u 98 :: u 99 :: u 100 :: u 101 :: u 102 :: u 103 :: u 104 :: u 105 :: u 106 :: u 107 :: u 108 :: u 109 :: u 110 :: u 111 :: u 112 :: u 113 :: u 114 :: u 115 :: u 116 :: u 117 :: u 118 :: u 119 :: u 120 :: u 121 :: u 122 :: u 123 :: u 124 :: u 125 :: u 126 :: u 127 :: u 128 :: u 129 :: u 130 :: u 131 :: u 132 :: u 133 :: u 134 :: u 135 :: u 136 :: u 137 :: []), []⟩) → K a W3 := by
          rintro W3 pm a hb3 qm ⟨u3, rfl⟩
          refine hK _ _ ?_
          clear hK
          clear a0 a1 a2 a3 la
          clear b0 b1 lb
          clear x0 x1 x2 x3 lx
          clear t0 t1 t2 lt
          replace hs := hs.go hb3
          replace hwd := (hwd.below hb3).up hb3.size
          replace q0 := q0.below hb3 q0.lt
          replace qb := qb.below hb3 qb.lt
          replace hbf := (hbf.below hb3).up hb3.size
          replace hbg := (hbg.below hb3).up hb3.size
          replace hx := hx.go hb3
          replace ht := ht.go hb3
          replace hM := hM.go hb3
          replace qx := qx.below hb3 qx.lt
          replace qt := qt.below hb3 qt.lt
          have B_W3 := ex_trans B_W2 hb3
          have X_W3 := ex_trans X_W2 hb3
          have y0 : W3.cell? ⟨pm, 0, none⟩ = some (.int .i64 lo) := qm.cell 0
          have ly := qm.lt
          have hbw2' := ex_trans hbw2 hb3
          by_cases hhit : k = d ∧ j = r
          · obtain ⟨rfl, rfl⟩ := hhit
            have hpos : 0 < lo := by have h1 := HLI.out.hit; rw [HLO.out] at h1; exact of_decide_eq_true h1
            clear hkj
            go_wp2_with fail
            refine (awake_any W3).mono ?_
            rintro e Wz ⟨rfl, hz⟩
            go_wp2
            go_ret
            exact ⟨rfl, ex_trans B_W3 hz⟩
          have hnp : ¬ 0 < lo := by
            have h1 : lostB (s.wg L) b k j = false := by
              rcases hkj with h | ⟨h, h'⟩
              · exact HLI.out.day k j h hlj
              · subst h; exact HLI.out.row j (by omega)
            rw [HLO.out] at h1
            exact of_decide_eq_false h1
          by_cases hkd1 : k = d
          · have e1 : ((k : Int) == (d : Int)) = true := by rw [beq_iff_eq]; omega
            have e2 : ((j : Int) == (r : Int)) = false := by rw [beq_eq_false_iff_ne]; omega
            have hkj2 : k < d ∨ (k = d ∧ j + 1 ≤ r) := by omega
            clear hkj hhit
            go_wp2_with fail
            refine ⟨⟨⟨j + 1, by omega, by omega, hbw2', exFrame (by kernel_rfl)⟩⟩, ?_⟩
            show s.rooms.length - (intOf (.int .i64 ((j : Int) + 1))).toNat < s.rooms.length - (intOf (.int .i64 (j : Int))).toNat
            simp [intOf]
            omega
          · have e1 : ((k : Int) == (d : Int)) = false := by rw [beq_eq_false_iff_ne]; omega
            clear hhit
            go_wp2_with fail
            refine ⟨⟨⟨j + 1, by omega, by omega, hbw2', exFrame (by kernel_rfl)⟩⟩, ?_⟩
            show s.rooms.length - (intOf (.int .i64 ((j : Int) + 1))).toNat < s.rooms.length - (intOf (.int .i64 (j : Int))).toNat
            simp [intOf]
            omega
        clear hK
        have D13 := (Below.refl W2.heap.size W2).drew
        refine wp_region_ext_tqF 12 (.quiet 0 (.quiet 2 (.quiet 4 (.quiet 5 (.fork 1 (.fork 3 (.fork 6 (.quiet 7 (.quiet 8 (.quiet 9 (.loud 10 (.loud 11 .done))))) 10 (.loud 6 (.quiet 7 (.quiet 8 (.quiet 9 (.loud 11 .done)))))) 10 (.loud 3 (.loud 6 (.quiet 7 (.quiet 8 (.quiet 9 (.loud 11 .done))))))) 10 (.loud 1 (.loud 3 (.loud 6 (.quiet 7 (.quiet 8 (.quiet 9 (.loud 11 .done)))))))))))) (by kernel_rfl) (by kernel_rfl) (by intro d _ _ _ _ h; cases d <;> exact h) ?_
        repeat (refine tq_quiet rfl ?_; go_big_quiet_step (fail); refine wpQuiet_nil ?_)
        obtain ⟨Y13, hY⟩ : ∃ Y, W2.drew = Y := ⟨_, rfl⟩
        rw [hY] at D13 ⊢
        clear hY
        clear a0 a1 a2 a3 la
        clear b0 b1 lb
        clear x0 x1 x2 x3 lx
        clear t0 t1 t2 lt
        replace hs := hs.go D13
        replace hwd := (hwd.below D13).up D13.size
        replace q0 := q0.below D13 q0.lt
        replace qb := qb.below D13 qb.lt
        replace hbf := (hbf.below D13).up D13.size
        replace hbg := (hbg.below D13).up D13.size
        replace hx := hx.go D13
        replace ht := ht.go D13
        replace hM := hM.go D13
        replace qx := qx.below D13 qx.lt
        replace qt := qt.below D13 qt.lt
        have B_Y13 := ex_trans B_W2 D13
        refine tq_fork rfl rfl ?_ ?_
        · go_wp2_with fail
          refine (Works_any (s.wg L) Ar Am A3 cr cm c3 Y13 hx HSX.out).mono ?_
          rintro e V8 ⟨⟨⟨Ar2, Am2, Aw2, cr2, cm2, cw2, rfl, hw2⟩⟩, hV8⟩
          replace hs := hs.go hV8
          replace hwd := (hwd.below hV8).up hV8.size
          replace q0 := q0.below hV8 q0.lt
          replace qb := qb.below hV8 qb.lt
          replace hbf := (hbf.below hV8).up hV8.size
          replace hbg := (hbg.below hV8).up hV8.size
          replace hx := hx.go hV8
          replace ht := ht.go hV8
          replace hM := hM.go hV8
          replace qx := qx.below hV8 qx.lt
          replace qt := qt.below hV8 qt.lt
          have B_V8 := ex_trans B_Y13 hV8
          have X_V8 := ex_trans D13 hV8
          go_wp2_with fail
          refine ⟨inEx X_V8, ?_⟩
          repeat (refine tq_quiet rfl ?_; go_big_quiet_step (fail); refine wpQuiet_nil ?_)
          refine tq_fork rfl rfl ?_ ?_
          · go_wp2_with fail
            refine (Book_any b Af Ag cf cg V8 hsb ⟨hbf, hbg⟩).mono ?_
            rintro e V9 ⟨⟨D12, D22, d12, d22, rfl, f12, f22⟩, hV9⟩
            replace hs := hs.go hV9
            replace hwd := (hwd.below hV9).up hV9.size
            replace q0 := q0.below hV9 q0.lt
            replace qb := qb.below hV9 qb.lt
            replace hbf := (hbf.below hV9).up hV9.size
            replace hbg := (hbg.below hV9).up hV9.size
            replace hx := hx.go hV9
            replace ht := ht.go hV9
            replace hM := hM.go hV9
            replace qx := qx.below hV9 qx.lt
            replace qt := qt.below hV9 qt.lt
            replace hw2 := hw2.go hV9
            have B_V9 := ex_trans B_V8 hV9
            have X_V9 := ex_trans X_V8 hV9
            go_wp2_with fail
            refine ⟨inEx X_V9, ?_⟩
            repeat (refine tq_quiet rfl ?_; go_big_quiet_step (fail); refine wpQuiet_nil ?_)
            refine tq_fork rfl rfl ?_ ?_
            · go_wp2_with fail
              refine (Missing_any (s.wg L) Ar2 Am2 Aw2 cr2 cm2 cw2 V9 hw2 b D12 D22 d12 d22 f12 f22 ⟨HSX.out.1, HSX.out.2.1⟩ hsb (j : Int) (k : Int)).mono ?_
              rintro e V10 ⟨rfl, hV10⟩
              replace hs := hs.go hV10
              replace hwd := (hwd.below hV10).up hV10.size
              replace q0 := q0.below hV10 q0.lt
              replace qb := qb.below hV10 qb.lt
              replace hbf := (hbf.below hV10).up hV10.size
              replace hbg := (hbg.below hV10).up hV10.size
              replace hx := hx.go hV10
              replace ht := ht.go hV10
              replace hM := hM.go hV10
              replace qx := qx.below hV10 qx.lt
              replace qt := qt.below hV10 qt.lt
              replace hw2 := hw2.go hV10
              replace f12 := (f12.below hV10).up hV10.size
              replace f22 := (f22.below hV10).up hV10.size
              have B_V10 := ex_trans B_V9 hV10
              have X_V10 := ex_trans X_V9 hV10
              rw [HM.out.1, HM.out.2]
              go_wp2_with fail
              refine ⟨inEx X_V10, ?_⟩
              repeat (refine tq_quiet rfl ?_; go_big_quiet_step (fail); refine wpQuiet_nil ?_)
              refine tq_loud rfl ?_
              have NA := ex_alloc (Below.refl V10.heap.size V10) (.cells #[.int .i64 0, .int .i64 0] 50)
              have qm : Blk (V10.alloc (.cells #[.int .i64 0, .int .i64 0] 50)) V10.heap.size 50 #[.int .i64 0, .int .i64 0] := Blk.new _ _ _
              have hpg : W2.heap.size ≤ V10.heap.size := X_V10.size
              go_wp2_with fail
              replace hs := hs.go NA
              replace hwd := (hwd.below NA).up NA.size
              replace q0 := q0.below NA q0.lt
              replace qb := qb.below NA qb.lt
              replace hbf := (hbf.below NA).up NA.size
              replace hbg := (hbg.below NA).up NA.size
              replace hx := hx.go NA
              replace ht := ht.go NA
              replace hM := hM.go NA
              replace qx := qx.below NA qx.lt
              replace qt := qt.below NA qt.lt
              replace hw2 := hw2.go NA
              replace f12 := (f12.below NA).up NA.size
              replace f22 := (f22.below NA).up NA.size
              have B_V11 := ex_trans B_V10 NA
              have X_V11 := ex_trans X_V10 NA
              obtain ⟨pm, hpm⟩ : ∃ p, V10.heap.size = p := ⟨_, rfl⟩
              rw [hpm] at qm hpg ⊢
              clear NA hpm
              generalize V10.alloc (.cells #[.int .i64 0, .int .i64 0] 50) = V11 at *
              refine ⟨inEx X_V11, ?_⟩
              repeat (refine tq_quiet rfl ?_; go_big_quiet_step (fail); refine wpQuiet_nil ?_)
              have y0 : V11.cell? ⟨pm, 0, none⟩ = some (.int .i64 0) := qm.cell 0
              have y1 : V11.cell? ⟨pm, 1, none⟩ = some (.int .i64 0) := qm.cell 1
              have ly := qm.lt
              have fy := qm.frozen0
              have qn := (qm.set_ 0 (.int .i64 lo)).set_ 1 (.int .i64 hi)
              simp only [List.setIfInBounds_toArray, List.set_cons_zero, List.set_cons_succ] at qn
              have Bf := ex_set (ex_set X_V11 (p := ⟨pm, 0, none⟩) (by show W2.heap.size ≤ pm; omega) (.int .i64 lo)) (p := ⟨pm, 1, none⟩) (by show W2.heap.size ≤ pm; omega) (.int .i64 hi)
              refine tq_loud rfl ?_
              go_wp2_with fail
              refine ⟨inEx Bf, ?_⟩
              repeat (refine tq_quiet rfl ?_; go_big_quiet_step (fail); refine wpQuiet_nil ?_)
              refine tq_done (r := [_]) rfl ?_
              go_wp2_with fail
              exact hrest _ pm _ Bf qn (exFrame (by kernel_rfl))
            · have NA := ex_alloc (Below.refl V9.heap.size V9) (.cells #[.int .i64 0, .int .i64 0] 50)
              have qm : Blk (V9.alloc (.cells #[.int .i64 0, .int .i64 0] 50)) V9.heap.size 50 #[.int .i64 0, .int .i64 0] := Blk.new _ _ _
              have hpg : W2.heap.size ≤ V9.heap.size := X_V9.size
              go_wp2_with fail
              replace hs := hs.go NA
              replace hwd := (hwd.below NA).up NA.size
              replace q0 := q0.below NA q0.lt
              replace qb := qb.below NA qb.lt
              replace hbf := (hbf.below NA).up NA.size
              replace hbg := (hbg.below NA).up NA.size
              replace hx := hx.go NA
              replace ht := ht.go NA
              replace hM := hM.go NA
              replace qx := qx.below NA qx.lt
              replace qt := qt.below NA qt.lt
              replace hw2 := hw2.go NA
              replace f12 := (f12.below NA).up NA.size
              replace f22 := (f22.below NA).up NA.size
              have B_V12 := ex_trans B_V9 NA
              have X_V12 := ex_trans X_V9 NA
              obtain ⟨pm, hpm⟩ : ∃ p, V9.heap.size = p := ⟨_, rfl⟩
              rw [hpm] at qm hpg ⊢
              clear NA hpm
              generalize V9.alloc (.cells #[.int .i64 0, .int .i64 0] 50) = V12 at *
              refine ⟨inEx X_V12, ?_⟩
              repeat (refine tq_quiet rfl ?_; go_big_quiet_step (fail); refine wpQuiet_nil ?_)
              refine tq_loud rfl ?_
              go_wp2_with fail
              refine (Missing_any (s.wg L) Ar2 Am2 Aw2 cr2 cm2 cw2 V12 hw2 b D12 D22 d12 d22 f12 f22 ⟨HSX.out.1, HSX.out.2.1⟩ hsb (j : Int) (k : Int)).mono ?_
              rintro e V13 ⟨rfl, hV13⟩
              replace hs := hs.go hV13
              replace hwd := (hwd.below hV13).up hV13.size
              replace q0 := q0.below hV13 q0.lt
              replace qb := qb.below hV13 qb.lt
              replace hbf := (hbf.below hV13).up hV13.size
              replace hbg := (hbg.below hV13).up hV13.size
              replace hx := hx.go hV13
              replace ht := ht.go hV13
              replace hM := hM.go hV13
              replace qx := qx.below hV13 qx.lt
              replace qt := qt.below hV13 qt.lt
              replace hw2 := hw2.go hV13
              replace f12 := (f12.below hV13).up hV13.size
              replace f22 := (f22.below hV13).up hV13.size
              replace qm := qm.below hV13 qm.lt
              have B_V13 := ex_trans B_V12 hV13
              have X_V13 := ex_trans X_V12 hV13
              rw [HM.out.1, HM.out.2]
              go_wp2_with fail
              refine ⟨inEx X_V13, ?_⟩
              repeat (refine tq_quiet rfl ?_; go_big_quiet_step (fail); refine wpQuiet_nil ?_)
              have y0 : V13.cell? ⟨pm, 0, none⟩ = some (.int .i64 0) := qm.cell 0
              have y1 : V13.cell? ⟨pm, 1, none⟩ = some (.int .i64 0) := qm.cell 1
              have ly := qm.lt
              have fy := qm.frozen0
              have qn := (qm.set_ 0 (.int .i64 lo)).set_ 1 (.int .i64 hi)
              simp only [List.setIfInBounds_toArray, List.set_cons_zero, List.set_cons_succ] at qn
              have Bf := ex_set (ex_set X_V13 (p := ⟨pm, 0, none⟩) (by show W2.heap.size ≤ pm; omega) (.int .i64 lo)) (p := ⟨pm, 1, none⟩) (by show W2.heap.size ≤ pm; omega) (.int .i64 hi)
              refine tq_loud rfl ?_
              go_wp2_with fail
              refine ⟨inEx Bf, ?_⟩
              repeat (refine tq_quiet rfl ?_; go_big_quiet_step (fail); refine wpQuiet_nil ?_)
              refine tq_done (r := [_]) rfl ?_
              go_wp2_with fail
              exact hrest _ pm _ Bf qn (exFrame (by kernel_rfl))
          · have NA := ex_alloc (Below.refl V8.heap.size V8) (.cells #[.int .i64 0, .int .i64 0] 50)
            have qm : Blk (V8.alloc (.cells #[.int .i64 0, .int .i64 0] 50)) V8.heap.size 50 #[.int .i64 0, .int .i64 0] := Blk.new _ _ _
            have hpg : W2.heap.size ≤ V8.heap.size := X_V8.size
            go_wp2_with fail
            replace hs := hs.go NA
            replace hwd := (hwd.below NA).up NA.size
            replace q0 := q0.below NA q0.lt
            replace qb := qb.below NA qb.lt
            replace hbf := (hbf.below NA).up NA.size
            replace hbg := (hbg.below NA).up NA.size
            replace hx := hx.go NA
            replace ht := ht.go NA
            replace hM := hM.go NA
            replace qx := qx.below NA qx.lt
            replace qt := qt.below NA qt.lt
            replace hw2 := hw2.go NA
            have B_V14 := ex_trans B_V8 NA
            have X_V14 := ex_trans X_V8 NA
            obtain ⟨pm, hpm⟩ : ∃ p, V8.heap.size = p := ⟨_, rfl⟩
            rw [hpm] at qm hpg ⊢
            clear NA hpm
            generalize V8.alloc (.cells #[.int .i64 0, .int .i64 0] 50) = V14 at *
            refine ⟨inEx X_V14, ?_⟩
            repeat (refine tq_quiet rfl ?_; go_big_quiet_step (fail); refine wpQuiet_nil ?_)
            refine tq_loud rfl ?_
            go_wp2_with fail
            refine (Book_any b Af Ag cf cg V14 hsb ⟨hbf, hbg⟩).mono ?_
            rintro e V15 ⟨⟨D12, D22, d12, d22, rfl, f12, f22⟩, hV15⟩
            replace hs := hs.go hV15
            replace hwd := (hwd.below hV15).up hV15.size
            replace q0 := q0.below hV15 q0.lt
            replace qb := qb.below hV15 qb.lt
            replace hbf := (hbf.below hV15).up hV15.size
            replace hbg := (hbg.below hV15).up hV15.size
            replace hx := hx.go hV15
            replace ht := ht.go hV15
            replace hM := hM.go hV15
            replace qx := qx.below hV15 qx.lt
            replace qt := qt.below hV15 qt.lt
            replace hw2 := hw2.go hV15
            replace qm := qm.below hV15 qm.lt
            have B_V15 := ex_trans B_V14 hV15
            have X_V15 := ex_trans X_V14 hV15
            go_wp2_with fail
            refine ⟨inEx X_V15, ?_⟩
            repeat (refine tq_quiet rfl ?_; go_big_quiet_step (fail); refine wpQuiet_nil ?_)
            refine tq_loud rfl ?_
            go_wp2_with fail
            refine (Missing_any (s.wg L) Ar2 Am2 Aw2 cr2 cm2 cw2 V15 hw2 b D12 D22 d12 d22 f12 f22 ⟨HSX.out.1, HSX.out.2.1⟩ hsb (j : Int) (k : Int)).mono ?_
            rintro e V16 ⟨rfl, hV16⟩
            replace hs := hs.go hV16
            replace hwd := (hwd.below hV16).up hV16.size
            replace q0 := q0.below hV16 q0.lt
            replace qb := qb.below hV16 qb.lt
            replace hbf := (hbf.below hV16).up hV16.size
            replace hbg := (hbg.below hV16).up hV16.size
            replace hx := hx.go hV16
            replace ht := ht.go hV16
            replace hM := hM.go hV16
            replace qx := qx.below hV16 qx.lt
            replace qt := qt.below hV16 qt.lt
            replace hw2 := hw2.go hV16
            replace qm := qm.below hV16 qm.lt
            replace f12 := (f12.below hV16).up hV16.size
            replace f22 := (f22.below hV16).up hV16.size
            have B_V16 := ex_trans B_V15 hV16
            have X_V16 := ex_trans X_V15 hV16
            rw [HM.out.1, HM.out.2]
            go_wp2_with fail
            refine ⟨inEx X_V16, ?_⟩
            repeat (refine tq_quiet rfl ?_; go_big_quiet_step (fail); refine wpQuiet_nil ?_)
            have y0 : V16.cell? ⟨pm, 0, none⟩ = some (.int .i64 0) := qm.cell 0
            have y1 : V16.cell? ⟨pm, 1, none⟩ = some (.int .i64 0) := qm.cell 1
            have ly := qm.lt
            have fy := qm.frozen0
            have qn := (qm.set_ 0 (.int .i64 lo)).set_ 1 (.int .i64 hi)
            simp only [List.setIfInBounds_toArray, List.set_cons_zero, List.set_cons_succ] at qn
            have Bf := ex_set (ex_set X_V16 (p := ⟨pm, 0, none⟩) (by show W2.heap.size ≤ pm; omega) (.int .i64 lo)) (p := ⟨pm, 1, none⟩) (by show W2.heap.size ≤ pm; omega) (.int .i64 hi)
            refine tq_loud rfl ?_
            go_wp2_with fail
            refine ⟨inEx Bf, ?_⟩
            repeat (refine tq_quiet rfl ?_; go_big_quiet_step (fail); refine wpQuiet_nil ?_)
            refine tq_done (r := [_]) rfl ?_
            go_wp2_with fail
            exact hrest _ pm _ Bf qn (exFrame (by kernel_rfl))
        · have NA := ex_alloc (Below.refl Y13.heap.size Y13) (.cells #[.int .i64 0, .int .i64 0] 50)
          have qm : Blk (Y13.alloc (.cells #[.int .i64 0, .int .i64 0] 50)) Y13.heap.size 50 #[.int .i64 0, .int .i64 0] := Blk.new _ _ _
          have hpg : W2.heap.size ≤ Y13.heap.size := D13.size
          go_wp2_with fail
          replace hs := hs.go NA
          replace hwd := (hwd.below NA).up NA.size
          replace q0 := q0.below NA q0.lt
          replace qb := qb.below NA qb.lt
          replace hbf := (hbf.below NA).up NA.size
          replace hbg := (hbg.below NA).up NA.size
          replace hx := hx.go NA
          replace ht := ht.go NA
          replace hM := hM.go NA
          replace qx := qx.below NA qx.lt
          replace qt := qt.below NA qt.lt
          have B_V17 := ex_trans B_Y13 NA
          have X_V17 := ex_trans D13 NA
          obtain ⟨pm, hpm⟩ : ∃ p, Y13.heap.size = p := ⟨_, rfl⟩
          rw [hpm] at qm hpg ⊢
          clear NA hpm
          generalize Y13.alloc (.cells #[.int .i64 0, .int .i64 0] 50) = V17 at *
          refine ⟨inEx X_V17, ?_⟩
          repeat (refine tq_quiet rfl ?_; go_big_quiet_step (fail); refine wpQuiet_nil ?_)
          refine tq_loud rfl ?_
          go_wp2_with fail
          refine (Works_any (s.wg L) Ar Am A3 cr cm c3 V17 hx HSX.out).mono ?_
          rintro e V18 ⟨⟨⟨Ar2, Am2, Aw2, cr2, cm2, cw2, rfl, hw2⟩⟩, hV18⟩
          replace hs := hs.go hV18
          replace hwd := (hwd.below hV18).up hV18.size
          replace q0 := q0.below hV18 q0.lt
          replace qb := qb.below hV18 qb.lt
          replace hbf := (hbf.below hV18).up hV18.size
          replace hbg := (hbg.below hV18).up hV18.size
          replace hx := hx.go hV18
          replace ht := ht.go hV18
          replace hM := hM.go hV18
          replace qx := qx.below hV18 qx.lt
          replace qt := qt.below hV18 qt.lt
          replace qm := qm.below hV18 qm.lt
          have B_V18 := ex_trans B_V17 hV18
          have X_V18 := ex_trans X_V17 hV18
          go_wp2_with fail
          refine ⟨inEx X_V18, ?_⟩
          repeat (refine tq_quiet rfl ?_; go_big_quiet_step (fail); refine wpQuiet_nil ?_)
          refine tq_loud rfl ?_
          go_wp2_with fail
          refine (Book_any b Af Ag cf cg V18 hsb ⟨hbf, hbg⟩).mono ?_
          rintro e V19 ⟨⟨D12, D22, d12, d22, rfl, f12, f22⟩, hV19⟩
          replace hs := hs.go hV19
          replace hwd := (hwd.below hV19).up hV19.size
          replace q0 := q0.below hV19 q0.lt
          replace qb := qb.below hV19 qb.lt
          replace hbf := (hbf.below hV19).up hV19.size
          replace hbg := (hbg.below hV19).up hV19.size
          replace hx := hx.go hV19
          replace ht := ht.go hV19
          replace hM := hM.go hV19
          replace qx := qx.below hV19 qx.lt
          replace qt := qt.below hV19 qt.lt
          replace qm := qm.below hV19 qm.lt
          replace hw2 := hw2.go hV19
          have B_V19 := ex_trans B_V18 hV19
          have X_V19 := ex_trans X_V18 hV19
          go_wp2_with fail
          refine ⟨inEx X_V19, ?_⟩
          repeat (refine tq_quiet rfl ?_; go_big_quiet_step (fail); refine wpQuiet_nil ?_)
          refine tq_loud rfl ?_
          go_wp2_with fail
          refine (Missing_any (s.wg L) Ar2 Am2 Aw2 cr2 cm2 cw2 V19 hw2 b D12 D22 d12 d22 f12 f22 ⟨HSX.out.1, HSX.out.2.1⟩ hsb (j : Int) (k : Int)).mono ?_
          rintro e V20 ⟨rfl, hV20⟩
          replace hs := hs.go hV20
          replace hwd := (hwd.below hV20).up hV20.size
          replace q0 := q0.below hV20 q0.lt
          replace qb := qb.below hV20 qb.lt
          replace hbf := (hbf.below hV20).up hV20.size
          replace hbg := (hbg.below hV20).up hV20.size
          replace hx := hx.go hV20
          replace ht := ht.go hV20
          replace hM := hM.go hV20
          replace qx := qx.below hV20 qx.lt
          replace qt := qt.below hV20 qt.lt
          replace qm := qm.below hV20 qm.lt
          replace hw2 := hw2.go hV20
          replace f12 := (f12.below hV20).up hV20.size
          replace f22 := (f22.below hV20).up hV20.size
          have B_V20 := ex_trans B_V19 hV20
          have X_V20 := ex_trans X_V19 hV20
          rw [HM.out.1, HM.out.2]
          go_wp2_with fail
          refine ⟨inEx X_V20, ?_⟩
          repeat (refine tq_quiet rfl ?_; go_big_quiet_step (fail); refine wpQuiet_nil ?_)
          have y0 : V20.cell? ⟨pm, 0, none⟩ = some (.int .i64 0) := qm.cell 0
          have y1 : V20.cell? ⟨pm, 1, none⟩ = some (.int .i64 0) := qm.cell 1
          have ly := qm.lt
          have fy := qm.frozen0
          have qn := (qm.set_ 0 (.int .i64 lo)).set_ 1 (.int .i64 hi)
          simp only [List.setIfInBounds_toArray, List.set_cons_zero, List.set_cons_succ] at qn
          have Bf := ex_set (ex_set X_V20 (p := ⟨pm, 0, none⟩) (by show W2.heap.size ≤ pm; omega) (.int .i64 lo)) (p := ⟨pm, 1, none⟩) (by show W2.heap.size ≤ pm; omega) (.int .i64 hi)
          refine tq_loud rfl ?_
          go_wp2_with fail
          refine ⟨inEx Bf, ?_⟩
          repeat (refine tq_quiet rfl ?_; go_big_quiet_step (fail); refine wpQuiet_nil ?_)
          refine tq_done (r := [_]) rfl ?_
          go_wp2_with fail
          exact hrest _ pm _ Bf qn (exFrame (by kernel_rfl))
      · obtain rfl : j = s.rooms.length := by omega
        have hbk2 := ex_trans hbw hbw2
        go_wp2_with fail
        refine ⟨⟨⟨k + 1, by omega, by omega, hbk2, exFrame (by kernel_rfl)⟩⟩, ?_⟩
        show D - (intOf (.int .i64 ((k : Int) + 1))).toNat < D - (intOf (.int .i64 (k : Int))).toNat
        simp [intOf]
        omega
    · exact absurd hkd (by omega)
  · rw [hE, hV]
    have HNO := Lib.hid hno
    clear hE hV hno
    go_wp2_with fail
    refine ⟨inEx X_V7, ?_⟩
    repeat (refine mix_quiet rfl ?_; go_big_quiet_step (fail); refine wpQuiet_nil ?_)
    refine mix_nil (r := [_]) rfl ?_
    have a0 : V7.cell? ⟨pq0, 0, none⟩ = some (.slice Ar s.rooms.length cr) := q0.cell 0
    have a1 : V7.cell? ⟨pq0, 1, none⟩ = some (.int .i64 s.days) := q0.cell 1
    have a2 : V7.cell? ⟨pq0, 2, none⟩ = some (.slice Am s.moves.length cm) := q0.cell 2
    have a3 : V7.cell? ⟨pq0, 3, none⟩ = some (.slice Aw s.wgs.length cw) := q0.cell 3
    have la := q0.lt
    have b0 : V7.cell? ⟨pqb, 0, none⟩ = some (.slice Af b.fs.length cf) := qb.cell 0
    have b1 : V7.cell? ⟨pqb, 1, none⟩ = some (.slice Ag b.gs.length cg) := qb.cell 1
    have lb := qb.lt
    have x0 : V7.cell? ⟨pqx, 0, none⟩ = some (.slice Ar s.rooms.length cr) := qx.cell 0
    have x1 : V7.cell? ⟨pqx, 1, none⟩ = some (.int .i64 s.days) := qx.cell 1
    have x2 : V7.cell? ⟨pqx, 2, none⟩ = some (.slice Am s.moves.length cm) := qx.cell 2
    have x3 : V7.cell? ⟨pqx, 3, none⟩ = some (.slice A3 L.length c3) := qx.cell 3
    have lx := qx.lt
    have t0 : V7.cell? ⟨pqx + 1, 0, none⟩ = some (.slice A4 t.fs.length c4) := qt.cell 0
    have t1 : V7.cell? ⟨pqx + 1, 1, none⟩ = some (.slice A5 t.vs.length c5) := qt.cell 1
    have t2 : V7.cell? ⟨pqx + 1, 2, none⟩ = some (.slice A6 t.gs.length c6) := qt.cell 2
    have lt := qt.lt
    rw [HSD.out] at a1
    go_wp2_with fail
    refine wp_loop (fun a W => Rel (fun a W => ∃ k : Nat, k ≤ D ∧ Below V7.heap.size V7 W ∧ ∃ u : Nat → Value, a = ⟨List.toArray (u 0 :: u 1 :: u 2 :: .pointer (some ⟨pq0, 0, none⟩) :: u 4 :: .pointer (some ⟨pqb, 0, none⟩) :: u 6 :: .pointer (some ⟨pqx, 0, none⟩) :: u 8 :: u 9 :: u 10 :: .int .i64 0 :: .int .i64 0 :: .int .i64 7 :: .int .i64 (k : Int) :: u 15 :: u 16 :: u 17 :: u 18 :: u 19 :: u 20 :: u 21 :: u 22 :: u 23 :: u 24 :: u 25 :: u 26 :: u 27 :: u 28 :: u 29 :: u 30 :: u 31 :: u 32 :: u 33 :: u 34 :: u 35 :: u 36 :: u 37 :: u 38 :: u 39 :: u 40 :: u 41 :: u 42 :: u 43 :: u 44 :: u 45 :: u 46 :: u 47 :: u 48 :: u 49 :: u 50 :: u 51 :: u 52 :: u 53 :: u 54 :: u 55 :: u 56 :: u 57 :: u 58 :: u 59 :: u 60 :: u 61 :: u 62 :: u 63 :: u 64 :: u 65 :: u 66 :: u 67 :: u 68 :: u 69 :: u 70 :: u 71 :: u 72 :: u 73 :: u 74 :: u 75 :: u 76 :: u 77 :: u 78 :: u 79 :: u 80 :: u 81 :: u 82 :: u 83 :: u 84 :: u 85 :: u 86 :: u 87 :: u 88 :: u 89 :: u 90 :: u 91 :: u 92 :: u 93 :: u 94 :: u 95 :: u 96 :: u 97 :: u 98 :: u 99 :: u 100 :: u 101 :: u 102 :: u 103 :: u 104 :: u 105 :: u 106 :: u 107 :: u 108 :: u 109 :: u 110 :: u 111 :: u 112 :: u 113 :: u 114 :: u 115 :: u 116 :: u 117 :: u 118 :: u 119 :: u 120 :: u 121 :: u 122 :: u 123 :: u 124 :: u 125 :: u 126 :: u 127 :: u 128 :: u 129 :: u 130 :: u 131 :: u 132 :: u 133 :: u 134 :: u 135 :: u 136 :: u 137 :: []), []⟩) a W) (fun a _ => D - (intOf (a.tmps.getD 14 undef)).toNat) ⟨⟨0, by omega, Below.refl _ _, exFrame (by kernel_rfl)⟩⟩ ?_
    clear a0 a1 a2 a3 la
    clear b0 b1 lb
    clear x0 x1 x2 x3 lx
    clear t0 t1 t2 lt
    rintro a W ⟨⟨k, hk, hbw, u, rfl⟩⟩
    replace hs := hs.go hbw
    replace hwd := (hwd.below hbw).up hbw.size
    replace q0 := q0.below hbw q0.lt
    replace qb := qb.below hbw qb.lt
    replace hbf := (hbf.below hbw).up hbw.size
    replace hbg := (hbg.below hbw).up hbw.size
    replace hx := hx.go hbw
    replace ht := ht.go hbw
    replace hM := hM.go hbw
    replace qx := qx.below hbw qx.lt
    replace qt := qt.below hbw qt.lt
    have B_W := ex_trans B_V7 hbw
    have a0 : W.cell? ⟨pq0, 0, none⟩ = some (.slice Ar s.rooms.length cr) := q0.cell 0
    have a1 : W.cell? ⟨pq0, 1, none⟩ = some (.int .i64 s.days) := q0.cell 1
    have a2 : W.cell? ⟨pq0, 2, none⟩ = some (.slice Am s.moves.length cm) := q0.cell 2
    have a3 : W.cell? ⟨pq0, 3, none⟩ = some (.slice Aw s.wgs.length cw) := q0.cell 3
    have la := q0.lt
    have b0 : W.cell? ⟨pqb, 0, none⟩ = some (.slice Af b.fs.length cf) := qb.cell 0
    have b1 : W.cell? ⟨pqb, 1, none⟩ = some (.slice Ag b.gs.length cg) := qb.cell 1
    have lb := qb.lt
    have x0 : W.cell? ⟨pqx, 0, none⟩ = some (.slice Ar s.rooms.length cr) := qx.cell 0
    have x1 : W.cell? ⟨pqx, 1, none⟩ = some (.int .i64 s.days) := qx.cell 1
    have x2 : W.cell? ⟨pqx, 2, none⟩ = some (.slice Am s.moves.length cm) := qx.cell 2
    have x3 : W.cell? ⟨pqx, 3, none⟩ = some (.slice A3 L.length c3) := qx.cell 3
    have lx := qx.lt
    have t0 : W.cell? ⟨pqx + 1, 0, none⟩ = some (.slice A4 t.fs.length c4) := qt.cell 0
    have t1 : W.cell? ⟨pqx + 1, 1, none⟩ = some (.slice A5 t.vs.length c5) := qt.cell 1
    have t2 : W.cell? ⟨pqx + 1, 2, none⟩ = some (.slice A6 t.gs.length c6) := qt.cell 2
    have lt := qt.lt
    rw [HSD.out] at a1
    by_cases hlt : k < D
    · have hlt' : (k : Int) < (D : Int) := by omega
      go_wp2_with fail
      refine wp_loop (fun a W2 => Rel (fun a W2 => ∃ j : Nat, j ≤ s.rooms.length ∧ Below W.heap.size W W2 ∧ ∃ u : Nat → Value, a = ⟨List.toArray (u 0 :: u 1 :: u 2 :: .pointer (some ⟨pq0, 0, none⟩) :: u 4 :: .pointer (some ⟨pqb, 0, none⟩) :: u 6 :: .pointer (some ⟨pqx, 0, none⟩) :: u 8 :: u 9 :: u 10 :: .int .i64 0 :: .int .i64 0 :: .int .i64 7 :: .int .i64 (k : Int) :: .int .i64 (j : Int) :: u 16 :: u 17 :: u 18 :: u 19 :: u 20 :: u 21 :: u 22 :: u 23 :: u 24 :: u 25 :: u 26 :: u 27 :: u 28 :: u 29 :: u 30 :: u 31 :: u 32 :: u 33 :: u 34 :: u 35 :: u 36 :: u 37 :: u 38 :: u 39 :: u 40 :: u 41 :: u 42 :: u 43 :: u 44 :: u 45 :: u 46 :: u 47 :: u 48 :: u 49 :: u 50 :: u 51 :: u 52 :: u 53 :: u 54 :: u 55 :: u 56 :: u 57 :: u 58 :: u 59 :: u 60 :: u 61 :: u 62 :: u 63 :: u 64 :: u 65 :: u 66 :: u 67 :: u 68 :: u 69 :: u 70 :: u 71 :: u 72 :: u 73 :: u 74 :: u 75 :: u 76 :: u 77 :: u 78 :: u 79 :: u 80 :: u 81 :: u 82 :: u 83 :: u 84 :: u 85 :: u 86 :: u 87 :: u 88 :: u 89 :: u 90 :: u 91 :: u 92 :: u 93 :: u 94 :: u 95 :: u 96 :: u 97 :: u 98 :: u 99 :: u 100 :: u 101 :: u 102 :: u 103 :: u 104 :: u 105 :: u 106 :: u 107 :: u 108 :: u 109 :: u 110 :: u 111 :: u 112 :: u 113 :: u 114 :: u 115 :: u 116 :: u 117 :: u 118 :: u 119 :: u 120 :: u 121 :: u 122 :: u 123 :: u 124 :: u 125 :: u 126 :: u 127 :: u 128 :: u 129 :: u 130 :: u 131 :: u 132 :: u 133 :: u 134 :: u 135 :: u 136 :: u 137 :: []), []⟩) a W2) (fun a _ => s.rooms.length - (intOf (a.tmps.getD 15 undef)).toNat) ⟨⟨0, by omega, Below.refl _ _, exFrame (by kernel_rfl)⟩⟩ ?_
      clear a0 a1 a2 a3 la
      clear b0 b1 lb
      clear x0 x1 x2 x3 lx
      clear t0 t1 t2 lt
      rintro a W2 ⟨⟨j, hj, hbw2, u2, rfl⟩⟩
      replace hs := hs.go hbw2
      replace hwd := (hwd.below hbw2).up hbw2.size
      replace q0 := q0.below hbw2 q0.lt
      replace qb := qb.below hbw2 qb.lt
      replace hbf := (hbf.below hbw2).up hbw2.size
      replace hbg := (hbg.below hbw2).up hbw2.size
      replace hx := hx.go hbw2
      replace ht := ht.go hbw2
      replace hM := hM.go hbw2
      replace qx := qx.below hbw2 qx.lt
      replace qt := qt.below hbw2 qt.lt
      have B_W2 := ex_trans B_W hbw2
      have X_W2 := ex_trans hbw hbw2
      have a0 : W2.cell? ⟨pq0, 0, none⟩ = some (.slice Ar s.rooms.length cr) := q0.cell 0
      have a1 : W2.cell? ⟨pq0, 1, none⟩ = some (.int .i64 s.days) := q0.cell 1
      have a2 : W2.cell? ⟨pq0, 2, none⟩ = some (.slice Am s.moves.length cm) := q0.cell 2
      have a3 : W2.cell? ⟨pq0, 3, none⟩ = some (.slice Aw s.wgs.length cw) := q0.cell 3
      have la := q0.lt
      have b0 : W2.cell? ⟨pqb, 0, none⟩ = some (.slice Af b.fs.length cf) := qb.cell 0
      have b1 : W2.cell? ⟨pqb, 1, none⟩ = some (.slice Ag b.gs.length cg) := qb.cell 1
      have lb := qb.lt
      have x0 : W2.cell? ⟨pqx, 0, none⟩ = some (.slice Ar s.rooms.length cr) := qx.cell 0
      have x1 : W2.cell? ⟨pqx, 1, none⟩ = some (.int .i64 s.days) := qx.cell 1
      have x2 : W2.cell? ⟨pqx, 2, none⟩ = some (.slice Am s.moves.length cm) := qx.cell 2
      have x3 : W2.cell? ⟨pqx, 3, none⟩ = some (.slice A3 L.length c3) := qx.cell 3
      have lx := qx.lt
      have t0 : W2.cell? ⟨pqx + 1, 0, none⟩ = some (.slice A4 t.fs.length c4) := qt.cell 0
      have t1 : W2.cell? ⟨pqx + 1, 1, none⟩ = some (.slice A5 t.vs.length c5) := qt.cell 1
      have t2 : W2.cell? ⟨pqx + 1, 2, none⟩ = some (.slice A6 t.gs.length c6) := qt.cell 2
      have lt := qt.lt
      by_cases hlj : j < s.rooms.length
      · have hlj' : (j : Int) < (s.rooms.length : Int) := by omega
        have hlD : k < s.wo.days := by rw [HD.out]; exact hlt
        obtain ⟨hm0, hm1⟩ := mis_ok HLX.out.ckx HBK.out HLX.out.good0 (r := j) (d := k) hlj hlD
        have hlo := lost_lo (s := s.wg L) (b := b) (r := j) (d := k)
        obtain ⟨lo, hlo1⟩ : ∃ x, saysF (s.wg L).wo b j k - (stkR (s.wg L).wo off0 j k).hi = x := ⟨_, rfl⟩
        obtain ⟨hi, hhi1⟩ : ∃ x, saysF (s.wg L).wo b j k - (stkR (s.wg L).wo off0 j k).lo = x := ⟨_, rfl⟩
        rw [hlo1] at hm1 hlo
        rw [hhi1] at hm1
        have HM := Lib.hid (And.intro hm0 hm1)
        have HLO := Lib.hid hlo
        clear hm0 hm1 hlo hlo1 hhi1 hlD
        go_upto_region 13 with fail
        rename_i Q' K hK
        have hrest : ∀ (W3 : World) (pm : Nat) (a : Act), Below W2.heap.size W2 W3 → Blk W3 pm 50 #[.int .i64 lo, .int .i64 hi] → (∃ u : Nat → Value, a = ⟨List.toArray (u 0 :: u 1 :: u 2 :: .pointer (some ⟨pq0, 0, none⟩) :: u 4 :: .pointer (some ⟨pqb, 0, none⟩) :: u 6 :: .pointer (some ⟨pqx, 0, none⟩) :: u 8 :: u 9 :: u 10 :: .int .i64 0 :: .int .i64 0 :: .int .i64 7 :: .int .i64 (k : Int) :: .int .i64 (j : Int) :: .pointer (some ⟨pm, 0, none⟩) :: .int .i64 0 :: u 18 :: u 19 :: u 20 :: u 21 :: u 22 :: u 23 :: u 24 :: u 25 :: u 26 :: u 27 :: u 28 :: u 29 :: u 30 :: u 31 :: u 32 :: u 33 :: u 34 :: u 35 :: u 36 :: u 37 :: u 38 :: u 39 :: u 40 :: u 41 :: u 42 :: u 43 :: u 44 :: u 45 :: u 46 :: u 47 :: u 48 :: u 49 :: u 50 :: u 51 :: u 52 :: u 53 :: u 54 :: u 55 :: u 56 :: u 57 :: u 58 :: u 59 :: u 60 :: u 61 :: u 62 :: u 63 :: u 64 :: u 65 :: u 66 :: u 67 :: u 68 :: u 69 :: u 70 :: u 71 :: u 72 :: u 73 :: u 74 :: u 75 :: u 76 :: u 77 :: u 78 :: u 79 :: u 80 :: u 81 :: u 82 :: u 83 :: u 84 :: u 85 :: u 86 :: u 87 :: u 88 :: u 89 :: u 90 :: u 91 :: u 92 :: u 93 :: u 94 :: u 95 :: u 96 :: u 97 :: u 98 :: u 99 :: u 100 :: u 101 :: u 102 :: u 103 :: u 104 :: u 105 :: u 106 :: u 107 :: u 108 :: u 109 :: u 110 :: u 111 :: u 112 :: u 113 :: u 114 :: u 115 :: u 116 :: u 117 :: u 118 :: u 119 :: u 120 :: u 121 :: u 122 :: u 123 :: u 124 :: u 125 :: u 126 :: u 127 :: u 128 :: u 129 :: u 130 :: u 131 :: u 132 :: u 133 :: u 134 :: u 135 :: u 136 :: u 137 :: []), []⟩) → K a W3 := by
          rintro W3 pm a hb3 qm ⟨u3, rfl⟩
          refine hK _ _ ?_
          clear hK
          clear a0 a1 a2 a3 la
          clear b0 b1 lb
          clear x0 x1 x2 x3 lx
          clear t0 t1 t2 lt
          replace hs := hs.go hb3
          replace hwd := (hwd.below hb3).up hb3.size
          replace q0 := q0.below hb3 q0.lt
          replace qb := qb.below hb3 qb.lt
          replace hbf := (hbf.below hb3).up hb3.size
          replace hbg := (hbg.below hb3).up hb3.size
          replace hx := hx.go hb3
          replace ht := ht.go hb3
          replace hM := hM.go hb3
          replace qx := qx.below hb3 qx.lt
          replace qt := qt.below hb3 qt.lt
          have B_W3 := ex_trans B_W2 hb3
          have X_W3 := ex_trans X_W2 hb3
          have y0 : W3.cell? ⟨pm, 0, none⟩ = some (.int .i64 lo) := qm.cell 0
          have ly := qm.lt
          have hbw2' := ex_trans hbw2 hb3
          have hnp : ¬ 0 < lo := by
            have h1 : lostB (s.wg L) b k j = false := HNO.out k j (by show k < s.wo.days; rw [HD.out]; exact hlt) hlj
            rw [HLO.out] at h1
            exact of_decide_eq_false h1
          go_wp2_with fail
          refine ⟨⟨⟨j + 1, by omega, hbw2', exFrame (by kernel_rfl)⟩⟩, ?_⟩
          show s.rooms.length - (intOf (.int .i64 ((j : Int) + 1))).toNat < s.rooms.length - (intOf (.int .i64 (j : Int))).toNat
          simp [intOf]
          omega
        clear hK
        have D13 := (Below.refl W2.heap.size W2).drew
        refine wp_region_ext_tqF 12 (.quiet 0 (.quiet 2 (.quiet 4 (.quiet 5 (.fork 1 (.fork 3 (.fork 6 (.quiet 7 (.quiet 8 (.quiet 9 (.loud 10 (.loud 11 .done))))) 10 (.loud 6 (.quiet 7 (.quiet 8 (.quiet 9 (.loud 11 .done)))))) 10 (.loud 3 (.loud 6 (.quiet 7 (.quiet 8 (.quiet 9 (.loud 11 .done))))))) 10 (.loud 1 (.loud 3 (.loud 6 (.quiet 7 (.quiet 8 (.quiet 9 (.loud 11 .done)))))))))))) (by kernel_rfl) (by kernel_rfl) (by intro d _ _ _ _ h; cases d <;> exact h) ?_
        repeat (refine tq_quiet rfl ?_; go_big_quiet_step (fail); refine wpQuiet_nil ?_)
        obtain ⟨Y13, hY⟩ : ∃ Y, W2.drew = Y := ⟨_, rfl⟩
        rw [hY] at D13 ⊢
        clear hY
        clear a0 a1 a2 a3 la
        clear b0 b1 lb
        clear x0 x1 x2 x3 lx
        clear t0 t1 t2 lt
        replace hs := hs.go D13
        replace hwd := (hwd.below D13).up D13.size
        replace q0 := q0.below D13 q0.lt
        replace qb := qb.below D13 qb.lt
        replace hbf := (hbf.below D13).up D13.size
        replace hbg := (hbg.below D13).up D13.size
        replace hx := hx.go D13
        replace ht := ht.go D13
        replace hM := hM.go D13
        replace qx := qx.below D13 qx.lt
        replace qt := qt.below D13 qt.lt
        have B_Y13 := ex_trans B_W2 D13
        refine tq_fork rfl rfl ?_ ?_
        · go_wp2_with fail
          refine (Works_any (s.wg L) Ar Am A3 cr cm c3 Y13 hx HSX.out).mono ?_
          rintro e V21 ⟨⟨⟨Ar2, Am2, Aw2, cr2, cm2, cw2, rfl, hw2⟩⟩, hV21⟩
          replace hs := hs.go hV21
          replace hwd := (hwd.below hV21).up hV21.size
          replace q0 := q0.below hV21 q0.lt
          replace qb := qb.below hV21 qb.lt
          replace hbf := (hbf.below hV21).up hV21.size
          replace hbg := (hbg.below hV21).up hV21.size
          replace hx := hx.go hV21
          replace ht := ht.go hV21
          replace hM := hM.go hV21
          replace qx := qx.below hV21 qx.lt
          replace qt := qt.below hV21 qt.lt
          have B_V21 := ex_trans B_Y13 hV21
          have X_V21 := ex_trans D13 hV21
          go_wp2_with fail
          refine ⟨inEx X_V21, ?_⟩
          repeat (refine tq_quiet rfl ?_; go_big_quiet_step (fail); refine wpQuiet_nil ?_)
          refine tq_fork rfl rfl ?_ ?_
          · go_wp2_with fail
            refine (Book_any b Af Ag cf cg V21 hsb ⟨hbf, hbg⟩).mono ?_
            rintro e V22 ⟨⟨D12, D22, d12, d22, rfl, f12, f22⟩, hV22⟩
            replace hs := hs.go hV22
            replace hwd := (hwd.below hV22).up hV22.size
            replace q0 := q0.below hV22 q0.lt
            replace qb := qb.below hV22 qb.lt
            replace hbf := (hbf.below hV22).up hV22.size
            replace hbg := (hbg.below hV22).up hV22.size
            replace hx := hx.go hV22
            replace ht := ht.go hV22
            replace hM := hM.go hV22
            replace qx := qx.below hV22 qx.lt
            replace qt := qt.below hV22 qt.lt
            replace hw2 := hw2.go hV22
            have B_V22 := ex_trans B_V21 hV22
            have X_V22 := ex_trans X_V21 hV22
            go_wp2_with fail
            refine ⟨inEx X_V22, ?_⟩
            repeat (refine tq_quiet rfl ?_; go_big_quiet_step (fail); refine wpQuiet_nil ?_)
            refine tq_fork rfl rfl ?_ ?_
            · go_wp2_with fail
              refine (Missing_any (s.wg L) Ar2 Am2 Aw2 cr2 cm2 cw2 V22 hw2 b D12 D22 d12 d22 f12 f22 ⟨HSX.out.1, HSX.out.2.1⟩ hsb (j : Int) (k : Int)).mono ?_
              rintro e V23 ⟨rfl, hV23⟩
              replace hs := hs.go hV23
              replace hwd := (hwd.below hV23).up hV23.size
              replace q0 := q0.below hV23 q0.lt
              replace qb := qb.below hV23 qb.lt
              replace hbf := (hbf.below hV23).up hV23.size
              replace hbg := (hbg.below hV23).up hV23.size
              replace hx := hx.go hV23
              replace ht := ht.go hV23
              replace hM := hM.go hV23
              replace qx := qx.below hV23 qx.lt
              replace qt := qt.below hV23 qt.lt
              replace hw2 := hw2.go hV23
              replace f12 := (f12.below hV23).up hV23.size
              replace f22 := (f22.below hV23).up hV23.size
              have B_V23 := ex_trans B_V22 hV23
              have X_V23 := ex_trans X_V22 hV23
              rw [HM.out.1, HM.out.2]
              go_wp2_with fail
              refine ⟨inEx X_V23, ?_⟩
              repeat (refine tq_quiet rfl ?_; go_big_quiet_step (fail); refine wpQuiet_nil ?_)
              refine tq_loud rfl ?_
              have NA := ex_alloc (Below.refl V23.heap.size V23) (.cells #[.int .i64 0, .int .i64 0] 50)
              have qm : Blk (V23.alloc (.cells #[.int .i64 0, .int .i64 0] 50)) V23.heap.size 50 #[.int .i64 0, .int .i64 0] := Blk.new _ _ _
              have hpg : W2.heap.size ≤ V23.heap.size := X_V23.size
              go_wp2_with fail
              replace hs := hs.go NA
              replace hwd := (hwd.below NA).up NA.size
              replace q0 := q0.below NA q0.lt
              replace qb := qb.below NA qb.lt
              replace hbf := (hbf.below NA).up NA.size
              replace hbg := (hbg.below NA).up NA.size
              replace hx := hx.go NA
              replace ht := ht.go NA
              replace hM := hM.go NA
              replace qx := qx.below NA qx.lt
              replace qt := qt.below NA qt.lt
              replace hw2 := hw2.go NA
              replace f12 := (f12.below NA).up NA.size
              replace f22 := (f22.below NA).up NA.size
              have B_V24 := ex_trans B_V23 NA
              have X_V24 := ex_trans X_V23 NA
              obtain ⟨pm, hpm⟩ : ∃ p, V23.heap.size = p := ⟨_, rfl⟩
              rw [hpm] at qm hpg ⊢
              clear NA hpm
              generalize V23.alloc (.cells #[.int .i64 0, .int .i64 0] 50) = V24 at *
              refine ⟨inEx X_V24, ?_⟩
              repeat (refine tq_quiet rfl ?_; go_big_quiet_step (fail); refine wpQuiet_nil ?_)
              have y0 : V24.cell? ⟨pm, 0, none⟩ = some (.int .i64 0) := qm.cell 0
              have y1 : V24.cell? ⟨pm, 1, none⟩ = some (.int .i64 0) := qm.cell 1
              have ly := qm.lt
              have fy := qm.frozen0
              have qn := (qm.set_ 0 (.int .i64 lo)).set_ 1 (.int .i64 hi)
              simp only [List.setIfInBounds_toArray, List.set_cons_zero, List.set_cons_succ] at qn
              have Bf := ex_set (ex_set X_V24 (p := ⟨pm, 0, none⟩) (by show W2.heap.size ≤ pm; omega) (.int .i64 lo)) (p := ⟨pm, 1, none⟩) (by show W2.heap.size ≤ pm; omega) (.int .i64 hi)
              refine tq_loud rfl ?_
              go_wp2_with fail
              refine ⟨inEx Bf, ?_⟩
              repeat (refine tq_quiet rfl ?_; go_big_quiet_step (fail); refine wpQuiet_nil ?_)
              refine tq_done (r := [_]) rfl ?_
              go_wp2_with fail
              exact hrest _ pm _ Bf qn (exFrame (by kernel_rfl))
            · have NA := ex_alloc (Below.refl V22.heap.size V22) (.cells #[.int .i64 0, .int .i64 0] 50)
              have qm : Blk (V22.alloc (.cells #[.int .i64 0, .int .i64 0] 50)) V22.heap.size 50 #[.int .i64 0, .int .i64 0] := Blk.new _ _ _
              have hpg : W2.heap.size ≤ V22.heap.size := X_V22.size
              go_wp2_with fail
              replace hs := hs.go NA
              replace hwd := (hwd.below NA).up NA.size
              replace q0 := q0.below NA q0.lt
              replace qb := qb.below NA qb.lt
              replace hbf := (hbf.below NA).up NA.size
              replace hbg := (hbg.below NA).up NA.size
              replace hx := hx.go NA
              replace ht := ht.go NA
              replace hM := hM.go NA
              replace qx := qx.below NA qx.lt
              replace qt := qt.below NA qt.lt
              replace hw2 := hw2.go NA
              replace f12 := (f12.below NA).up NA.size
              replace f22 := (f22.below NA).up NA.size
              have B_V25 := ex_trans B_V22 NA
              have X_V25 := ex_trans X_V22 NA
              obtain ⟨pm, hpm⟩ : ∃ p, V22.heap.size = p := ⟨_, rfl⟩
              rw [hpm] at qm hpg ⊢
              clear NA hpm
              generalize V22.alloc (.cells #[.int .i64 0, .int .i64 0] 50) = V25 at *
              refine ⟨inEx X_V25, ?_⟩
              repeat (refine tq_quiet rfl ?_; go_big_quiet_step (fail); refine wpQuiet_nil ?_)
              refine tq_loud rfl ?_
              go_wp2_with fail
              refine (Missing_any (s.wg L) Ar2 Am2 Aw2 cr2 cm2 cw2 V25 hw2 b D12 D22 d12 d22 f12 f22 ⟨HSX.out.1, HSX.out.2.1⟩ hsb (j : Int) (k : Int)).mono ?_
              rintro e V26 ⟨rfl, hV26⟩
              replace hs := hs.go hV26
              replace hwd := (hwd.below hV26).up hV26.size
              replace q0 := q0.below hV26 q0.lt
              replace qb := qb.below hV26 qb.lt
              replace hbf := (hbf.below hV26).up hV26.size
              replace hbg := (hbg.below hV26).up hV26.size
              replace hx := hx.go hV26
              replace ht := ht.go hV26
              replace hM := hM.go hV26
              replace qx := qx.below hV26 qx.lt
              replace qt := qt.below hV26 qt.lt
              replace hw2 := hw2.go hV26
              replace f12 := (f12.below hV26).up hV26.size
              replace f22 := (f22.below hV26).up hV26.size
              replace qm := qm.below hV26 qm.lt
              have B_V26 := ex_trans B_V25 hV26
              have X_V26 := ex_trans X_V25 hV26
              rw [HM.out.1, HM.out.2]
              go_wp2_with fail
              refine ⟨inEx X_V26, ?_⟩
              repeat (refine tq_quiet rfl ?_; go_big_quiet_step (fail); refine wpQuiet_nil ?_)
              have y0 : V26.cell? ⟨pm, 0, none⟩ = some (.int .i64 0) := qm.cell 0
              have y1 : V26.cell? ⟨pm, 1, none⟩ = some (.int .i64 0) := qm.cell 1
              have ly := qm.lt
              have fy := qm.frozen0
              have qn := (qm.set_ 0 (.int .i64 lo)).set_ 1 (.int .i64 hi)
              simp only [List.setIfInBounds_toArray, List.set_cons_zero, List.set_cons_succ] at qn
              have Bf := ex_set (ex_set X_V26 (p := ⟨pm, 0, none⟩) (by show W2.heap.size ≤ pm; omega) (.int .i64 lo)) (p := ⟨pm, 1, none⟩) (by show W2.heap.size ≤ pm; omega) (.int .i64 hi)
              refine tq_loud rfl ?_
              go_wp2_with fail
              refine ⟨inEx Bf, ?_⟩
              repeat (refine tq_quiet rfl ?_; go_big_quiet_step (fail); refine wpQuiet_nil ?_)
              refine tq_done (r := [_]) rfl ?_
              go_wp2_with fail
              exact hrest _ pm _ Bf qn (exFrame (by kernel_rfl))
          · have NA := ex_alloc (Below.refl V21.heap.size V21) (.cells #[.int .i64 0, .int .i64 0] 50)
            have qm : Blk (V21.alloc (.cells #[.int .i64 0, .int .i64 0] 50)) V21.heap.size 50 #[.int .i64 0, .int .i64 0] := Blk.new _ _ _
            have hpg : W2.heap.size ≤ V21.heap.size := X_V21.size
            go_wp2_with fail
            replace hs := hs.go NA
            replace hwd := (hwd.below NA).up NA.size
            replace q0 := q0.below NA q0.lt
            replace qb := qb.below NA qb.lt
            replace hbf := (hbf.below NA).up NA.size
            replace hbg := (hbg.below NA).up NA.size
            replace hx := hx.go NA
            replace ht := ht.go NA
            replace hM := hM.go NA
            replace qx := qx.below NA qx.lt
            replace qt := qt.below NA qt.lt
            replace hw2 := hw2.go NA
            have B_V27 := ex_trans B_V21 NA
            have X_V27 := ex_trans X_V21 NA
            obtain ⟨pm, hpm⟩ : ∃ p, V21.heap.size = p := ⟨_, rfl⟩
            rw [hpm] at qm hpg ⊢
            clear NA hpm
            generalize V21.alloc (.cells #[.int .i64 0, .int .i64 0] 50) = V27 at *
            refine ⟨inEx X_V27, ?_⟩
            repeat (refine tq_quiet rfl ?_; go_big_quiet_step (fail); refine wpQuiet_nil ?_)
            refine tq_loud rfl ?_
            go_wp2_with fail
            refine (Book_any b Af Ag cf cg V27 hsb ⟨hbf, hbg⟩).mono ?_
            rintro e V28 ⟨⟨D12, D22, d12, d22, rfl, f12, f22⟩, hV28⟩
            replace hs := hs.go hV28
            replace hwd := (hwd.below hV28).up hV28.size
            replace q0 := q0.below hV28 q0.lt
            replace qb := qb.below hV28 qb.lt
            replace hbf := (hbf.below hV28).up hV28.size
            replace hbg := (hbg.below hV28).up hV28.size
            replace hx := hx.go hV28
            replace ht := ht.go hV28
            replace hM := hM.go hV28
            replace qx := qx.below hV28 qx.lt
            replace qt := qt.below hV28 qt.lt
            replace hw2 := hw2.go hV28
            replace qm := qm.below hV28 qm.lt
            have B_V28 := ex_trans B_V27 hV28
            have X_V28 := ex_trans X_V27 hV28
            go_wp2_with fail
            refine ⟨inEx X_V28, ?_⟩
            repeat (refine tq_quiet rfl ?_; go_big_quiet_step (fail); refine wpQuiet_nil ?_)
            refine tq_loud rfl ?_
            go_wp2_with fail
            refine (Missing_any (s.wg L) Ar2 Am2 Aw2 cr2 cm2 cw2 V28 hw2 b D12 D22 d12 d22 f12 f22 ⟨HSX.out.1, HSX.out.2.1⟩ hsb (j : Int) (k : Int)).mono ?_
            rintro e V29 ⟨rfl, hV29⟩
            replace hs := hs.go hV29
            replace hwd := (hwd.below hV29).up hV29.size
            replace q0 := q0.below hV29 q0.lt
            replace qb := qb.below hV29 qb.lt
            replace hbf := (hbf.below hV29).up hV29.size
            replace hbg := (hbg.below hV29).up hV29.size
            replace hx := hx.go hV29
            replace ht := ht.go hV29
            replace hM := hM.go hV29
            replace qx := qx.below hV29 qx.lt
            replace qt := qt.below hV29 qt.lt
            replace hw2 := hw2.go hV29
            replace qm := qm.below hV29 qm.lt
            replace f12 := (f12.below hV29).up hV29.size
            replace f22 := (f22.below hV29).up hV29.size
            have B_V29 := ex_trans B_V28 hV29
            have X_V29 := ex_trans X_V28 hV29
            rw [HM.out.1, HM.out.2]
            go_wp2_with fail
            refine ⟨inEx X_V29, ?_⟩
            repeat (refine tq_quiet rfl ?_; go_big_quiet_step (fail); refine wpQuiet_nil ?_)
            have y0 : V29.cell? ⟨pm, 0, none⟩ = some (.int .i64 0) := qm.cell 0
            have y1 : V29.cell? ⟨pm, 1, none⟩ = some (.int .i64 0) := qm.cell 1
            have ly := qm.lt
            have fy := qm.frozen0
            have qn := (qm.set_ 0 (.int .i64 lo)).set_ 1 (.int .i64 hi)
            simp only [List.setIfInBounds_toArray, List.set_cons_zero, List.set_cons_succ] at qn
            have Bf := ex_set (ex_set X_V29 (p := ⟨pm, 0, none⟩) (by show W2.heap.size ≤ pm; omega) (.int .i64 lo)) (p := ⟨pm, 1, none⟩) (by show W2.heap.size ≤ pm; omega) (.int .i64 hi)
            refine tq_loud rfl ?_
            go_wp2_with fail
            refine ⟨inEx Bf, ?_⟩
            repeat (refine tq_quiet rfl ?_; go_big_quiet_step (fail); refine wpQuiet_nil ?_)
            refine tq_done (r := [_]) rfl ?_
            go_wp2_with fail
            exact hrest _ pm _ Bf qn (exFrame (by kernel_rfl))
        · have NA := ex_alloc (Below.refl Y13.heap.size Y13) (.cells #[.int .i64 0, .int .i64 0] 50)
          have qm : Blk (Y13.alloc (.cells #[.int .i64 0, .int .i64 0] 50)) Y13.heap.size 50 #[.int .i64 0, .int .i64 0] := Blk.new _ _ _
          have hpg : W2.heap.size ≤ Y13.heap.size := D13.size
          go_wp2_with fail
          replace hs := hs.go NA
          replace hwd := (hwd.below NA).up NA.size
          replace q0 := q0.below NA q0.lt
          replace qb := qb.below NA qb.lt
          replace hbf := (hbf.below NA).up NA.size
          replace hbg := (hbg.below NA).up NA.size
          replace hx := hx.go NA
          replace ht := ht.go NA
          replace hM := hM.go NA
          replace qx := qx.below NA qx.lt
          replace qt := qt.below NA qt.lt
          have B_V30 := ex_trans B_Y13 NA
          have X_V30 := ex_trans D13 NA
          obtain ⟨pm, hpm⟩ : ∃ p, Y13.heap.size = p := ⟨_, rfl⟩
          rw [hpm] at qm hpg ⊢
          clear NA hpm
          generalize Y13.alloc (.cells #[.int .i64 0, .int .i64 0] 50) = V30 at *
          refine ⟨inEx X_V30, ?_⟩
          repeat (refine tq_quiet rfl ?_; go_big_quiet_step (fail); refine wpQuiet_nil ?_)
          refine tq_loud rfl ?_
          go_wp2_with fail
          refine (Works_any (s.wg L) Ar Am A3 cr cm c3 V30 hx HSX.out).mono ?_
          rintro e V31 ⟨⟨⟨Ar2, Am2, Aw2, cr2, cm2, cw2, rfl, hw2⟩⟩, hV31⟩
          replace hs := hs.go hV31
          replace hwd := (hwd.below hV31).up hV31.size
          replace q0 := q0.below hV31 q0.lt
          replace qb := qb.below hV31 qb.lt
          replace hbf := (hbf.below hV31).up hV31.size
          replace hbg := (hbg.below hV31).up hV31.size
          replace hx := hx.go hV31
          replace ht := ht.go hV31
          replace hM := hM.go hV31
          replace qx := qx.below hV31 qx.lt
          replace qt := qt.below hV31 qt.lt
          replace qm := qm.below hV31 qm.lt
          have B_V31 := ex_trans B_V30 hV31
          have X_V31 := ex_trans X_V30 hV31
          go_wp2_with fail
          refine ⟨inEx X_V31, ?_⟩
          repeat (refine tq_quiet rfl ?_; go_big_quiet_step (fail); refine wpQuiet_nil ?_)
          refine tq_loud rfl ?_
          go_wp2_with fail
          refine (Book_any b Af Ag cf cg V31 hsb ⟨hbf, hbg⟩).mono ?_
          rintro e V32 ⟨⟨D12, D22, d12, d22, rfl, f12, f22⟩, hV32⟩
          replace hs := hs.go hV32
          replace hwd := (hwd.below hV32).up hV32.size
          replace q0 := q0.below hV32 q0.lt
          replace qb := qb.below hV32 qb.lt
          replace hbf := (hbf.below hV32).up hV32.size
          replace hbg := (hbg.below hV32).up hV32.size
          replace hx := hx.go hV32
          replace ht := ht.go hV32
          replace hM := hM.go hV32
          replace qx := qx.below hV32 qx.lt
          replace qt := qt.below hV32 qt.lt
          replace qm := qm.below hV32 qm.lt
          replace hw2 := hw2.go hV32
          have B_V32 := ex_trans B_V31 hV32
          have X_V32 := ex_trans X_V31 hV32
          go_wp2_with fail
          refine ⟨inEx X_V32, ?_⟩
          repeat (refine tq_quiet rfl ?_; go_big_quiet_step (fail); refine wpQuiet_nil ?_)
          refine tq_loud rfl ?_
          go_wp2_with fail
          refine (Missing_any (s.wg L) Ar2 Am2 Aw2 cr2 cm2 cw2 V32 hw2 b D12 D22 d12 d22 f12 f22 ⟨HSX.out.1, HSX.out.2.1⟩ hsb (j : Int) (k : Int)).mono ?_
          rintro e V33 ⟨rfl, hV33⟩
          replace hs := hs.go hV33
          replace hwd := (hwd.below hV33).up hV33.size
          replace q0 := q0.below hV33 q0.lt
          replace qb := qb.below hV33 qb.lt
          replace hbf := (hbf.below hV33).up hV33.size
          replace hbg := (hbg.below hV33).up hV33.size
          replace hx := hx.go hV33
          replace ht := ht.go hV33
          replace hM := hM.go hV33
          replace qx := qx.below hV33 qx.lt
          replace qt := qt.below hV33 qt.lt
          replace qm := qm.below hV33 qm.lt
          replace hw2 := hw2.go hV33
          replace f12 := (f12.below hV33).up hV33.size
          replace f22 := (f22.below hV33).up hV33.size
          have B_V33 := ex_trans B_V32 hV33
          have X_V33 := ex_trans X_V32 hV33
          rw [HM.out.1, HM.out.2]
          go_wp2_with fail
          refine ⟨inEx X_V33, ?_⟩
          repeat (refine tq_quiet rfl ?_; go_big_quiet_step (fail); refine wpQuiet_nil ?_)
          have y0 : V33.cell? ⟨pm, 0, none⟩ = some (.int .i64 0) := qm.cell 0
          have y1 : V33.cell? ⟨pm, 1, none⟩ = some (.int .i64 0) := qm.cell 1
          have ly := qm.lt
          have fy := qm.frozen0
          have qn := (qm.set_ 0 (.int .i64 lo)).set_ 1 (.int .i64 hi)
          simp only [List.setIfInBounds_toArray, List.set_cons_zero, List.set_cons_succ] at qn
          have Bf := ex_set (ex_set X_V33 (p := ⟨pm, 0, none⟩) (by show W2.heap.size ≤ pm; omega) (.int .i64 lo)) (p := ⟨pm, 1, none⟩) (by show W2.heap.size ≤ pm; omega) (.int .i64 hi)
          refine tq_loud rfl ?_
          go_wp2_with fail
          refine ⟨inEx Bf, ?_⟩
          repeat (refine tq_quiet rfl ?_; go_big_quiet_step (fail); refine wpQuiet_nil ?_)
          refine tq_done (r := [_]) rfl ?_
          go_wp2_with fail
          exact hrest _ pm _ Bf qn (exFrame (by kernel_rfl))
      · obtain rfl : j = s.rooms.length := by omega
        have hbk2 := ex_trans hbw hbw2
        go_wp2_with fail
        refine ⟨⟨⟨k + 1, by omega, hbk2, exFrame (by kernel_rfl)⟩⟩, ?_⟩
        show D - (intOf (.int .i64 ((k : Int) + 1))).toNat < D - (intOf (.int .i64 (k : Int))).toNat
        simp [intOf]
        omega
    · obtain rfl : k = D := by omega
      go_wp2_with fail
      refine (awake_any W).mono ?_
      rintro e Wz ⟨rfl, hz⟩
      go_wp2
      go_ret
      exact ⟨rfl, ex_trans B_W hz⟩
end Go.Proofs.Ythihdiilokdidaa
end

section
namespace Go.Proofs.Ythihdiilokdidaa.spillLost
open Go.ChangeShapes Go.WideShapes Go.ChangeAt Go.RowKit
set_option linter.unusedVariables false

set_option maxRecDepth 100000 in
theorem lifted (os : Os) (started : os.Started) (H : Type) (enc : TypeId × Value → H) :
    ReturnsInHanded {} Try.checked os 12 .any (Rows.spillLostSpec.pre6 enc Try.prog Try.f12 Rows.spillLostRow.domain false) (Rows.spillLostSpec.post enc Try.prog Try.f12 false true false false) := by
  refine returnsInHanded_of_change (C := Try.checked) own started (by kernel_rfl) Try.func12
    (ChangeSpec.witness6 (enc := enc) (C := Try.checked) false ⟨#[], #[.agg #[.slice none 0 0, .int .i64 0, .slice none 0 0, .slice none 0 0], .slice none 0 0, .agg #[.slice none 0 0, .slice none 0 0]], []⟩ 8 (by kernel_rfl) (by kernel_rfl) (by kernel_rfl) (by kernel_rfl)) ?_
  intro W base args ds gs before hval0 hW hcnd _
  have hval : ∀ (j : Nat) t v, Try.f12.params[j]? = some t → args[j]? = some v → Value.okWide Try.prog W .any base t v := hval0
  have hW0 := hW
  obtain ⟨p, q, hA0, hV, rfl, hfz, hnd⟩ := hW
  have hA : DataW.TrodAll enc Try.prog W 0 (fun _ => true) true Try.f12.params.toList args.toList ds p := hA0
  rw [Try.params12] at hA hval
  obtain ⟨v0, vs0, d0, ds0, p0, q0, ea0, ed0, ep0, h0, hA0⟩ := trodAll_cons hA
  obtain ⟨v1, vs1, d1, ds1, p1, q1, ea1, ed1, ep1, h1, hA1⟩ := trodAll_cons hA0
  obtain ⟨v2, vs2, d2, ds2, p2, q2, ea2, ed2, ep2, h2, hA2⟩ := trodAll_cons hA1
  obtain ⟨ea, ed, ep⟩ := trodAll_nil hA2
  have eargs : args = #[v0, v1, v2] := by rw [← Array.toArray_toList (xs := args), ea0, ea1, ea2, ea]
  have eds : ds = [d0, d1, d2] := by rw [ed0, ed1, ed2, ed]
  subst eargs eds
  obtain ⟨rfl, rfl⟩ := trodVars_none hV
  obtain ⟨s, Ar, Am, Aw, cr, cm, cw, rfl, hsl, hs⟩ := open_worksT (hval 0 _ _ rfl rfl) h0
  obtain ⟨AW, ws, cW, rfl, hwl, hw, hwb⟩ := open_words (hval 1 _ _ rfl rfl) h1
  obtain ⟨b, Af, Ag, cf, cg, rfl, hbl, hbk⟩ := open_bookT (hval 2 _ _ rfl rfl) h2
  refine (LostLaw_any s Ar Am Aw cr cm cw W hs AW cW ws hw hwb hwl b Af Ag cf cg hbk).mono fun e W' he => ?_
  obtain ⟨rfl, hb⟩ := he
  exact ⟨_, rfl, post_law rfl hW0 rfl rfl ⟨⟨by kernel_rfl, of_decide_eq_true (by kernel_rfl)⟩, ⟨by kernel_rfl, of_decide_eq_true (by kernel_rfl)⟩, ⟨by kernel_rfl, of_decide_eq_true (by kernel_rfl)⟩, trivial⟩ hb⟩

theorem over : Rows.spillLostRow.holds Try.pinned (OpenSpec.ofChange Rows.spillLostSpec) :=
  OpenClaim.holds_of_wide 12 Try.f12 rfl rfl rfl rfl rfl rfl rfl ⟨rfl, rfl, rfl, rfl, rfl⟩ rfl rfl rfl rfl rfl (by kernel_rfl) Try.func12 (by kernel_rfl)
    (of_decide_eq_true (by kernel_rfl)) (by unfold Func.isWrapper; first | (rw [if_pos (by decide +kernel)]; kernel_rfl) | (rw [if_neg (by decide +kernel)]; exact ⟨rfl, rfl⟩))
    (fun os started H enc _ => lifted os started H enc)

/-- the statement. -/
theorem proved : Rows.SpillLostSaid :=
  over
#print axioms proved
end Go.Proofs.Ythihdiilokdidaa.spillLost
end
