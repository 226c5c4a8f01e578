/- Spill's reference: Nth (walk): the truth with a number. · Spill's laws: Weighed (walk): weighings by words, true of some stocks but for those of bits. · Spill's laws: thin works and truths (plain). · Spill's laws: lives (walk). · Spill's outright laws (plain): what lives tells; ends of a range. · Spill's laws: rows of the call's own that are written in place; a day more (plain). · Spill's reference: IsTruth, Has, Agrees (walks). · Spill's reference: Has, Agrees (walks). · Spill's reference: ranges over the good numbers (plain), rows of ranges that are written in place. · Spill's reference: Wide; the laws' few (walks). -/
import Derived.Test.YthihdiilokdidaaT12
import Derived.Test.YthihdiilokdidaaT11
set_option linter.unusedVariables false
set_option linter.unusedSimpArgs false
set_option linter.unusedSectionVars false
section
namespace Go.Proofs.Ythihdiilokdidaa
open Go.RowKit
attribute [local go_sem] Ex.cell? Ex.frozen? Gx.cell?

/-- the first rooms of the truth with a number. -/
structure NthTo (s : Ws) (n0 : Nat) (l1 : List Int) (L : List (List Int)) (k : Nat) : Prop where
  n1 : l1.length = k
  n2 : L.length = k
  fst : ∀ j, j < k → gI l1 j = nthF s.wo n0 j
  len : ∀ j, j < k → (gL L j).length = s.wo.days
  vap : ∀ j d, j < k → d < s.wo.days → gI (gL L j) d = nthV s.wo n0 j d
theorem NthTo.snoc {s : Ws} {n0 : Nat} {l1 : List Int} {L : List (List Int)} {k : Nat} (h : NthTo s n0 l1 L k) {n : Int} {l : List Int} (hn : n = nthF s.wo n0 k) (hl : l.length = s.wo.days) (hv : ∀ d, d < s.wo.days → gI l d = nthV s.wo n0 k d) : NthTo s n0 (l1 ++ [n]) (L ++ [l]) (k + 1) := by
  have e1 : ∀ j, j < k → gI (l1 ++ [n]) j = gI l1 j := fun j hj => getD_l _ (by rw [h.n1]; exact hj)
  have e2 : ∀ j, j < k → gL (L ++ [l]) j = gL L j := fun j hj => getD_l _ (by rw [h.n2]; exact hj)
  have e3 : gI (l1 ++ [n]) k = n := by have := getD_r l1 n 0; rw [h.n1] at this; exact this
  have e4 : gL (L ++ [l]) k = l := by have := getD_r L l []; rw [h.n2] at this; exact this
  refine ⟨by simp [h.n1], by simp [h.n2], fun j hj => ?_, fun j hj => ?_, fun j d hj hd => ?_⟩
  · rcases Nat.lt_succ_iff_lt_or_eq.1 hj with hlt | rfl
    · rw [e1 j hlt]; exact h.fst j hlt
    · rw [e3]; exact hn
  · rcases Nat.lt_succ_iff_lt_or_eq.1 hj with hlt | rfl
    · rw [e2 j hlt]; exact h.len j hlt
    · rw [e4]; exact hl
  · rcases Nat.lt_succ_iff_lt_or_eq.1 hj with hlt | rfl
    · rw [e2 j hlt]; exact h.vap j d hlt hd
    · rw [e4]; exact hv d hd
/-- the truth with a number, as lists. -/
structure IsNth (s : Ws) (n0 : Nat) (t : Tt) : Prop where
  pt : NthTo s n0 t.fs t.vs s.rooms.length
  gl : t.gs.length = s.moves.length
  mv : ∀ i, i < s.moves.length → gI t.gs i = nthG s.wo n0 i
theorem IsNth.same {s : Ws} {n0 : Nat} {t : Tt} (h : IsNth s n0 t) : SameT s.wo (nthF s.wo n0) (nthV s.wo n0) (nthG s.wo n0) t.F t.V t.G :=
  ⟨fun r hr => (h.pt.fst r hr).symm, fun r d hr hd => (h.pt.vap r d hr hd).symm, fun i hi => (h.mv i hi).symm⟩
theorem IsNth.tru {s : Ws} {n0 : Nat} {t : Tt} (h : IsNth s n0 t) (hw : WoOk s.wo) (hd : s.days = (s.wo.days : Int)) : truT s t = true := by
  have ht := nth_tru hw n0
  refine (truT_iff hd).2 ⟨⟨h.pt.n1, h.pt.n2, h.gl⟩, h.pt.len, ⟨fun r hr => ?_, fun r d hr hdd => ?_, fun i hi => ?_⟩⟩
  · rw [← h.same.fst r hr]; exact ht.fst r hr
  · rw [← h.same.vap r d hr hdd]; exact ht.vap r d hr hdd
  · rw [← h.same.mov i hi]; exact ht.mov i hi
theorem IsNth.stk {s : Ws} {n0 : Nat} {t : Tt} (h : IsNth s n0 t) {r d : Nat} (hr : r < s.rooms.length) (hd : d < s.wo.days) : stk s.wo t.F t.V t.G r d = stkN s.wo n0 r d := (h.same.stk hr d hd).symm
/-- what stands at a place, and what is left of the number. -/
theorem place_val {w : Wo} (hw : WoOk w) {n0 k n : Nat} (hk : k < placesP w) (hn : n = remW (wdP w) n0 k) {r : Rg} (hr : rgP w k = r) : ∃ wn : Nat, 0 < wn ∧ r.hi - r.lo + 1 = (wn : Int) ∧ r.lo + (n : Int) % (wn : Int) = valP w n0 k ∧ n / wn = remW (wdP w) n0 (k + 1) ∧ wn ≤ 10000 := by
  have h2 := wdP_pos hw hk
  have h3 : wdP w k = (r.hi - r.lo + 1).toNat := by unfold wdP wdR; rw [hr]
  have h4 : wdP w k ≤ 10000 := by
    unfold wdP wdR rgP
    split
    · rename_i h
      have hq : k / (w.days + 1) < w.rooms.length := Nat.div_lt_of_lt_mul (by rw [Nat.mul_comm]; exact h)
      have := hw.rooms _ hq
      split <;> omega
    · have := hw.grams (k - w.rooms.length * (w.days + 1)) (by unfold placesP at hk; omega)
      omega
  refine ⟨wdP w k, h2, by omega, ?_, by rw [hn]; rfl, h4⟩
  unfold valP
  rw [hr, hn]
  simp
structure PkN (s : Ws) (n0 : Nat) (B : Nat) (w' : World) (e : Ending) : Prop where
  out : ∃ t : Tt, ∃ A1 A2 A3 c1 c2 c3, e = .returned (.agg #[.slice A1 t.fs.length c1, .slice A2 t.vs.length c2, .slice A3 t.gs.length c3]) ∧ IsNth s n0 t ∧ TtOwn w' B t A1 A2 A3 c2
set_option maxRecDepth 100000 in
set_option maxHeartbeats 6400000 in
theorem Nth_ref (s : Ws) (Ar Am Aw : Option Addr) (cr cm cw : Nat) (w : World) (hs : WsIn w w.heap.size s Ar Am Aw) (hw : WoOk s.wo) (hd : s.days = (s.wo.days : Int)) (n0 : Nat) (hn0 : n0 ≤ 1048576) :
    Calls Try.prog 62 #[.agg #[.slice Ar s.rooms.length cr, .int .i64 s.days, .slice Am s.moves.length cm, .slice Aw s.wgs.length cw], .int .i64 (n0 : Int)] w fun e w' => PkN s n0 w.heap.size w' e ∧ Below w.heap.size w w' := by
  obtain ⟨i1, hi1, hy0, hy1, hy2⟩ := info_parts ints_info2
  obtain ⟨i0, hi0, hz0, hz1, hz2⟩ := info_parts int_info
  have HI := Lib.hid hi0
  have HJ := Lib.hid hi1
  clear hi0 hi1
  obtain ⟨D, hD⟩ : ∃ D, s.wo.days = D := ⟨_, rfl⟩
  have hD6 : 1 ≤ D ∧ D ≤ 6 := by have := hw.days; omega
  have hr3 : 0 < s.rooms.length ∧ s.rooms.length ≤ 3 := ⟨hw.len.1, hw.len.2.1⟩
  have hm12 : s.moves.length ≤ 12 := hw.len.2.2.1
  have HD := Lib.hid hD
  have HSD : Hid (s.days = (D : Int)) := Lib.hid (by rw [hd, hD])
  clear hD hd
  have HRM : Hid (∀ r, r < s.rooms.length → 0 ≤ (gRm s.rooms r).fst.lo ∧ (gRm s.rooms r).fst.lo ≤ (gRm s.rooms r).fst.hi ∧ (gRm s.rooms r).fst.hi ≤ 2000 ∧ 0 ≤ (gRm s.rooms r).vap.lo ∧ (gRm s.rooms r).vap.lo ≤ (gRm s.rooms r).vap.hi ∧ (gRm s.rooms r).vap.hi ≤ 50) := Lib.hid hw.rooms
  have HMG : Hid (∀ i, i < s.moves.length → 0 ≤ (gMv s.moves i).g.lo ∧ (gMv s.moves i).g.lo ≤ (gMv s.moves i).g.hi ∧ (gMv s.moves i).g.hi ≤ 2000) := Lib.hid hw.grams
  have hb1 := ex_alloc (ex_alloc (ex_alloc (Below.refl w.heap.size w) (.cells #[.slice Ar s.rooms.length cr, .int .i64 s.days, .slice Am s.moves.length cm, .slice Aw s.wgs.length cw] 26)) (.cells #[.slice none 0 0, .slice none 0 0, .slice none 0 0] 31)) (.cells #[.slice none 0 0, .slice none 0 0, .slice none 0 0] 31)
  have q0 : Blk (((w.alloc (.cells #[.slice Ar s.rooms.length cr, .int .i64 s.days, .slice Am s.moves.length cm, .slice Aw s.wgs.length cw] 26)).alloc (.cells #[.slice none 0 0, .slice none 0 0, .slice none 0 0] 31)).alloc (.cells #[.slice none 0 0, .slice none 0 0, .slice none 0 0] 31)) w.heap.size 26 #[.slice Ar s.rooms.length cr, .int .i64 s.days, .slice Am s.moves.length cm, .slice Aw s.wgs.length cw] := ((Blk.new _ _ _).alloc _).alloc _
  have q1 : Blk (((w.alloc (.cells #[.slice Ar s.rooms.length cr, .int .i64 s.days, .slice Am s.moves.length cm, .slice Aw s.wgs.length cw] 26)).alloc (.cells #[.slice none 0 0, .slice none 0 0, .slice none 0 0] 31)).alloc (.cells #[.slice none 0 0, .slice none 0 0, .slice none 0 0] 31)) (w.heap.size + 1) 31 #[.slice none 0 0, .slice none 0 0, .slice none 0 0] := (Blk.new' _ _ _ (by simp)).alloc _
  have q2 : Blk (((w.alloc (.cells #[.slice Ar s.rooms.length cr, .int .i64 s.days, .slice Am s.moves.length cm, .slice Aw s.wgs.length cw] 26)).alloc (.cells #[.slice none 0 0, .slice none 0 0, .slice none 0 0] 31)).alloc (.cells #[.slice none 0 0, .slice none 0 0, .slice none 0 0] 31)) (w.heap.size + 1 + 1) 31 #[.slice none 0 0, .slice none 0 0, .slice none 0 0] := Blk.new' _ _ _ (by simp)
  go_enter Try.func62, Try.ntmps62
  go_upto_region 2 with fail
  show Code.wp _ _ _ _ (((w.alloc (.cells #[.slice Ar s.rooms.length cr, .int .i64 s.days, .slice Am s.moves.length cm, .slice Aw s.wgs.length cw] 26)).alloc (.cells #[.slice none 0 0, .slice none 0 0, .slice none 0 0] 31)).alloc (.cells #[.slice none 0 0, .slice none 0 0, .slice none 0 0] 31))
  obtain ⟨p0, hp0⟩ : ∃ p, w.heap.size = p := ⟨_, rfl⟩
  have hwp : w.heap.size ≤ p0 := by omega
  rw [hp0] at q0 q1 q2 ⊢
  generalize ((w.alloc (.cells #[.slice Ar s.rooms.length cr, .int .i64 s.days, .slice Am s.moves.length cm, .slice Aw s.wgs.length cw] 26)).alloc (.cells #[.slice none 0 0, .slice none 0 0, .slice none 0 0] 31)).alloc (.cells #[.slice none 0 0, .slice none 0 0, .slice none 0 0] 31) = W1 at *
  clear hp0
  obtain ⟨B0, hB0⟩ : ∃ b, W1.heap.size = b := ⟨_, rfl⟩
  have hbs : p0 + 1 + 1 < B0 := by have := q2.lt; omega
  have hwB : w.heap.size ≤ B0 := by omega
  have P0 : PkA s #[.slice Ar s.rooms.length cr, .int .i64 s.days, .slice Am s.moves.length cm, .slice Aw s.wgs.length cw] w p0 B0 (.slice none 0 0) [] (.slice none 0 0) [] W1 := ⟨hb1, by omega, q0, q1, q2, ⟨rfl, .inl ⟨rfl, rfl⟩⟩, NOwn.nil, fun x hx => by cases hx⟩
  clear hb1 q0 q1 q2 hB0
  have HPT : Hid (NthTo s n0 [] [] 0) := Lib.hid ⟨rfl, rfl, fun j hj => by omega, fun j hj => by omega, fun j d hj => by omega⟩
  go_wp2_with fail
  refine wp_loop (fun a W => Rel (fun a W => ∃ k : Nat, k ≤ s.rooms.length ∧ ∃ n : Nat, n ≤ 1048576 ∧ Hid (n = remW (wdP s.wo) n0 (k * (D + 1))) ∧ ∃ v1 l1 v2 X, PkA s #[.slice Ar s.rooms.length cr, .int .i64 s.days, .slice Am s.moves.length cm, .slice Aw s.wgs.length cw] w p0 B0 v1 l1 v2 X W ∧ Hid (NthTo s n0 l1 (X.map (fun x => x.2.2)) k) ∧ ∃ u : Nat → Value, a = ⟨List.toArray (u 0 :: .int .i64 (n : Int) :: .pointer (some ⟨p0, 0, none⟩) :: u 3 :: .pointer (some ⟨p0 + 1, 0, none⟩) :: .pointer (some ⟨p0 + 1 + 1, 0, none⟩) :: .int .i64 (k : Int) :: u 7 :: u 8 :: u 9 :: u 10 :: u 11 :: u 12 :: u 13 :: u 14 :: u 15 :: u 16 :: u 17 :: u 18 :: u 19 :: u 20 :: u 21 :: u 22 :: u 23 :: u 24 :: u 25 :: u 26 :: u 27 :: u 28 :: u 29 :: u 30 :: u 31 :: u 32 :: u 33 :: u 34 :: u 35 :: u 36 :: u 37 :: u 38 :: u 39 :: u 40 :: u 41 :: u 42 :: u 43 :: u 44 :: u 45 :: u 46 :: u 47 :: u 48 :: u 49 :: u 50 :: u 51 :: u 52 :: u 53 :: u 54 :: u 55 :: u 56 :: u 57 :: u 58 :: u 59 :: u 60 :: u 61 :: u 62 :: u 63 :: u 64 :: u 65 :: u 66 :: u 67 :: u 68 :: u 69 :: u 70 :: u 71 :: u 72 :: u 73 :: u 74 :: u 75 :: u 76 :: u 77 :: u 78 :: u 79 :: u 80 :: u 81 :: u 82 :: u 83 :: u 84 :: u 85 :: u 86 :: u 87 :: u 88 :: u 89 :: u 90 :: u 91 :: u 92 :: u 93 :: u 94 :: u 95 :: u 96 :: u 97 :: u 98 :: u 99 :: u 100 :: u 101 :: u 102 :: u 103 :: u 104 :: u 105 :: u 106 :: u 107 :: u 108 :: u 109 :: u 110 :: u 111 :: u 112 :: u 113 :: u 114 :: u 115 :: []), []⟩) a W) (fun a _ => s.rooms.length - (intOf (a.tmps.getD 6 undef)).toNat) ⟨⟨0, by omega, n0, hn0, Lib.hid (by simp [remW]), _, _, _, _, P0, HPT, exFrame (by kernel_rfl)⟩⟩ ?_
  clear P0 HPT W1
  rintro a W ⟨⟨k, hk, n, hnle, HN, v1, l1, v2, X, P0, HPT, u, rfl⟩⟩
  have a0 : W.cell? ⟨p0, 0, none⟩ = some (.slice Ar s.rooms.length cr) := P0.q0.cell 0
  have a1 : W.cell? ⟨p0, 1, none⟩ = some (.int .i64 s.days) := P0.q0.cell 1
  have a2 : W.cell? ⟨p0, 2, none⟩ = some (.slice Am s.moves.length cm) := P0.q0.cell 2
  have a3 : W.cell? ⟨p0, 3, none⟩ = some (.slice Aw s.wgs.length cw) := P0.q0.cell 3
  have l0 := P0.q0.lt
  rw [HSD.out] at a1
  have c0 : W.cell? ⟨p0 + 1 + 1, 0, none⟩ = some v1 := P0.q2.cell 0
  have l2 := P0.q2.lt
  by_cases hlt : k < s.rooms.length
  · have hkn : (k : Int) < (s.rooms.length : Int) := by omega
    obtain ⟨br, orr, hAr, hbr, r0, r1, r2, r3⟩ := IsRms.at_ (hs.rooms.below P0.bw) hlt
    have lbr : br < W.heap.size := by have := P0.bw.size; omega
    have hrm := HRM.out k hlt
    have HL1 : Hid (l1.length = k) := Lib.hid HPT.out.n1
    rw [hAr] at a0
    have hpl := place_lt (R := s.rooms.length) (D := D + 1) (i := k) (j := 0) hlt (by omega)
    obtain ⟨wn, hwn0, hwn, hval, hrem, hwn4⟩ := place_val hw (k := k * (D + 1)) (by unfold placesP; rw [HD.out]; show k * (D + 1) < s.rooms.length * (D + 1) + s.moves.length; omega) HN.out (r := (gRm s.rooms k).fst) (by rw [← HD.out]; exact rgP_fst hlt)
    change (gRm s.rooms k).fst.hi - (gRm s.rooms k).fst.lo + 1 = (wn : Int) at hwn
    change (gRm s.rooms k).fst.lo + (n : Int) % (wn : Int) = _ at hval
    obtain ⟨e0, he0⟩ : ∃ x, (gRm s.rooms k).fst.lo = x := ⟨_, rfl⟩
    rw [he0] at r0 hrm hwn hval
    obtain ⟨e1, he1⟩ : ∃ x, (gRm s.rooms k).fst.hi = x := ⟨_, rfl⟩
    rw [he1] at r1 hrm hwn
    obtain ⟨e2, he2⟩ : ∃ x, (gRm s.rooms k).vap.lo = x := ⟨_, rfl⟩
    rw [he2] at r2 hrm
    obtain ⟨e3, he3⟩ : ∃ x, (gRm s.rooms k).vap.hi = x := ⟨_, rfl⟩
    rw [he3] at r3 hrm
    have HE := Lib.hid (And.intro he2 he3)
    clear he0 he1 he2 he3 hpl
    obtain ⟨n2, hn2⟩ : ∃ x, n / wn = x := ⟨_, rfl⟩
    have hq : (n : Int) / (wn : Int) = (n2 : Int) := by rw [← hn2]; simp
    rw [hn2] at hrem
    have HREM := Lib.hid hrem
    have HVAL := Lib.hid hval
    have HWN := Lib.hid hwn
    have HQ := Lib.hid hq
    have hle2 : n2 ≤ 1048576 := by rw [← hn2]; exact Nat.le_trans (Nat.div_le_self _ _) hnle
    have hw1 : ¬ (wn : Int) = 0 := by omega
    have hw2 : ((wn : Int) == 0) = false := by rw [beq_eq_false_iff_ne]; exact hw1
    have hnn : (0 : Int) ≤ (n : Int) := Int.natCast_nonneg _
    have hr0 : 0 ≤ (n : Int) % (wn : Int) := Int.emod_nonneg _ hw1
    have hr1 : (n : Int) % (wn : Int) < (wn : Int) := Int.emod_lt_of_pos _ (by omega)
    have hd0 : 0 ≤ (n : Int) / (wn : Int) ∧ (n : Int) / (wn : Int) ≤ 1048576 := by rw [hq]; omega
    clear hn2 hrem hval hwn hq hwn0
    have NR := ex_alloc (Below.refl W.heap.size W) (.cells #[.int .i64 e0, .int .i64 e1, .int .i64 e2, .int .i64 e3] 76)
    have qr : Blk (W.alloc (.cells #[.int .i64 e0, .int .i64 e1, .int .i64 e2, .int .i64 e3] 76)) W.heap.size 76 #[.int .i64 e0, .int .i64 e1, .int .i64 e2, .int .i64 e3] := Blk.new _ _ _
    have hprB : B0 ≤ W.heap.size := P0.sz
    have hfr1 : v1.ownBlock ≠ some W.heap.size := fun e => by have := (own_lt P0.o1 e).2; omega
    go_upto_region 7 with fail
    rw [HWN.out]
    obtain ⟨pr, hpr⟩ : ∃ p, W.heap.size = p := ⟨_, rfl⟩
    rw [hpr] at qr hfr1 ⊢
    replace P0 := P0.below NR
    clear hpr NR a0 a1 a2 a3 l0 c0 l2 r0 r1 r2 r3 lbr hprB
    generalize W.alloc (.cells #[.int .i64 e0, .int .i64 e1, .int .i64 e2, .int .i64 e3] 76) = Z at *
    have c0 : Z.cell? ⟨p0 + 1 + 1, 0, none⟩ = some v1 := P0.q2.cell 0
    have l2 := P0.q2.lt
    have x0 : Z.cell? ⟨pr, 0, none⟩ = some (.int .i64 e0) := qr.cell 0
    have x1 : Z.cell? ⟨pr, 1, none⟩ = some (.int .i64 e1) := qr.cell 1
    have x2 : Z.cell? ⟨pr, 2, none⟩ = some (.int .i64 e2) := qr.cell 2
    have x3 : Z.cell? ⟨pr, 3, none⟩ = some (.int .i64 e3) := qr.cell 3
    have lr := qr.lt
    obtain ⟨row, hrow⟩ : ∃ row, v1.ownBlock = row := ⟨_, rfl⟩
    have hge := fun (j : Nat) (hj : v1.ownBlock = some j) => own_ge P0.o1 hj
    have hn2' : ¬ some (p0 + 1 + 1) = row := fun e => by have := hge _ (hrow.trans e.symm); omega
    have hnr : ¬ some pr = row := fun e => hfr1 (hrow.trans e.symm)
    have hown := P0.o1
    have HROW := Lib.hid hrow
    clear hrow hge
    have HP := Lib.hid P0
    refine wp_region_gx_mix row 12 [(false, 0), (false, 1), (false, 2), (false, 3), (false, 4), (false, 5), (false, 6), (false, 7), (false, 8), (true, 9), (true, 10), (false, 11)] (by kernel_rfl) (by kernel_rfl) (by intro d _ _ _ _ h; cases d <;> exact h) ?_
    repeat (refine mix_quiet rfl ?_; go_big_quiet_step (fail); refine wpQuiet_nil ?_)
    have hX0 := (Below.refl Z.heap.size Z).drew
    refine mix_loud rfl ?_
    go_wp2_with fail
    have hX3 := ex_alloc hX0 (.cells #[.int .i64 (e0 + (n : Int) % (wn : Int))] 3)
    refine ⟨inGx (grown_row hX3), ?_⟩
    repeat (refine mix_quiet rfl ?_; go_big_quiet_step (fail); refine wpQuiet_nil ?_)
    have y4 := own_below hown hX3
    have c63 : l1.length + 1 ≤ maxLen := by rw [HL1.out]; unfold maxLen; omega
    have cby : (l1.length + 1) * 8 ≤ 140737488355328 := by rw [HL1.out]; omega
    have hbase : B0 ≤ (Z.drew.alloc (.cells #[.int .i64 (e0 + (n : Int) % (wn : Int))] 3)).heap.size := by have := hX3.size; have := HP.out.sz; omega
    refine mix_loud rfl ?_
    go_wp2_with (at_builtin; refine wpList_append_lies _ rfl _ _ _ rfl (B0) 3 i0 _ 1 8 Try.underlying28 HI.out hz0 hz1 hz2 rfl (by omega) v1 _ _ rfl y4 ⟨Z.drew.heap.size, 0, none⟩ 1 1 [.int .i64 (e0 + (n : Int) % (wn : Int))] rfl rfl (World.news_of_block (heap_alloc_new Z.drew _)) (by simp [Value.oneCell']) (by omega) c63 cby hbase (Z.drew.heap.size + 1) (by simp) ?_; intro gg cap w1 hown' hgrow hat hlt')
    rw [HROW.out] at hgrow
    have hgB := (grown_row (r := row) hX3).andThen hgrow (fun j hj => .inr hj)
    refine ⟨inGx hgB, ?_⟩
    repeat (refine mix_quiet rfl ?_; go_big_quiet_step (fail); refine wpQuiet_nil ?_)
    refine mix_nil rfl ?_
    have hat' : v1.ownBlock = some gg ∨ Z.heap.size ≤ gg := hat.imp id (fun e => by have := hX0.size; omega)
    rw [← HROW.out] at hgB
    have P1 := HP.out.fst hbs hwp hgB hown' hat'
    have qc := HP.out.q2.grown hgB (by rw [HROW.out]; exact hn2')
    have qr1 := qr.grown hgB (by rw [HROW.out]; exact hnr)
    have qr2 := qr1.far (p := ⟨p0 + 1 + 1, 0, none⟩) (by show pr ≠ p0 + 1 + 1; intro e; have := (HP.out.q2); rw [← e] at this; unfold Blk at this; have h2 := qr; unfold Blk at h2; rw [this] at h2; injection h2 with h2; injection h2 with _ h2 _; exact absurd h2 (by decide)) (.slice (some ⟨gg, 0, none⟩) (l1.length + 1) cap)
    have f0 : w1.cell? ⟨p0 + 1 + 1, 0, none⟩ = some v1 := qc.cell 0
    have ff := qc.frozen0
    have lq := qc.lt
    clear hown' hgB hgrow y4 hX3 hX0 hat hat' hlt' c0 l2 x0 x1 x2 x3 lr hn2' hnr hown P0 HP qc qr qr1 hfr1
    go_upto_region 9 with fail
    rw [HQ.out]
    generalize w1.setCell ⟨p0 + 1 + 1, 0, none⟩ (.slice (some ⟨gg, 0, none⟩) (l1.length + 1) cap) = V at *
    generalize Value.slice (some ⟨gg, 0, none⟩) (l1.length + 1) cap = v3 at *
    clear f0 ff lq hbase c63 cby hw1 hw2 hnn hr0 hr1 hd0 hwn4
    obtain ⟨Bk, hBk⟩ : ∃ b, V.heap.size = b := ⟨_, rfl⟩
    have HBK := Lib.hid hBk
    have hszV := P1.sz
    have hv3 : Hid (∀ b, v3.ownBlock = some b → b < Bk) := Lib.hid (fun b hb => by have := (own_lt P1.o1 hb).2; omega)
    rw [hBk] at hszV
    have HV : Hid (∀ j, j < D → rgP s.wo (k * (D + 1) + 1 + j) = (gRm s.rooms k).vap) := Lib.hid (fun j hj => by rw [← HD.out]; exact rgP_vap hlt (by rw [HD.out]; exact hj))
    have HF0 : Hid (e0 + (n : Int) % (wn : Int) = nthF s.wo n0 k) := Lib.hid (by rw [HVAL.out]; unfold nthF; rw [HD.out])
    generalize e0 + (n : Int) % (wn : Int) = y at *
    clear hBk HVAL HWN HQ
    go_wp2_with fail
    refine wp_loop (fun a W => Rel (fun a W => ∃ j : Nat, j ≤ D ∧ Below V.heap.size V W ∧ ∃ m : Nat, m ≤ 1048576 ∧ Hid (m = remW (wdP s.wo) n0 (k * (D + 1) + 1 + j)) ∧ (∃ vl l, W.ownsRow Bk 3 1 vl l.length (l.flatMap cI1) ∧ Hid (l.length = j ∧ ∀ d, d < j → gI l d = nthV s.wo n0 k d) ∧ ∃ u : Nat → Value, a = ⟨List.toArray (u 0 :: .int .i64 (m : Int) :: .pointer (some ⟨p0, 0, none⟩) :: u 3 :: .pointer (some ⟨p0 + 1, 0, none⟩) :: .pointer (some ⟨p0 + 1 + 1, 0, none⟩) :: .int .i64 (k : Int) :: .pointer (some ⟨pr, 0, none⟩) :: u 8 :: vl :: .int .i64 (j : Int) :: u 11 :: u 12 :: u 13 :: u 14 :: u 15 :: u 16 :: u 17 :: u 18 :: u 19 :: u 20 :: u 21 :: u 22 :: u 23 :: u 24 :: u 25 :: u 26 :: u 27 :: u 28 :: u 29 :: u 30 :: u 31 :: u 32 :: u 33 :: u 34 :: u 35 :: u 36 :: u 37 :: u 38 :: u 39 :: u 40 :: u 41 :: u 42 :: u 43 :: u 44 :: u 45 :: u 46 :: u 47 :: u 48 :: u 49 :: u 50 :: u 51 :: u 52 :: u 53 :: u 54 :: u 55 :: u 56 :: u 57 :: u 58 :: u 59 :: u 60 :: u 61 :: u 62 :: u 63 :: u 64 :: u 65 :: u 66 :: u 67 :: u 68 :: u 69 :: u 70 :: u 71 :: u 72 :: u 73 :: u 74 :: u 75 :: u 76 :: u 77 :: u 78 :: u 79 :: u 80 :: u 81 :: u 82 :: u 83 :: u 84 :: u 85 :: u 86 :: u 87 :: u 88 :: u 89 :: u 90 :: u 91 :: u 92 :: u 93 :: u 94 :: u 95 :: u 96 :: u 97 :: u 98 :: u 99 :: u 100 :: u 101 :: u 102 :: u 103 :: u 104 :: u 105 :: u 106 :: u 107 :: u 108 :: u 109 :: u 110 :: u 111 :: u 112 :: u 113 :: u 114 :: u 115 :: []), []⟩)) a W) (fun a _ => D - (intOf (a.tmps.getD 10 undef)).toNat) ⟨⟨0, by omega, Below.refl _ _, n2, hle2, Lib.hid HREM.out, _, [], ⟨rfl, .inl ⟨rfl, rfl⟩⟩, Lib.hid ⟨rfl, fun d hd => by omega⟩, exFrame (by kernel_rfl)⟩⟩ ?_
    clear hle2 HREM hnle HN
    rintro a W ⟨⟨j, hj, hfk, m, hnle, HM, vl, l, ho, HL, u2, rfl⟩⟩
    have P2 := P1.below hfk
    have qr := qr2.below hfk qr2.lt
    have a0 : W.cell? ⟨p0, 0, none⟩ = some (.slice Ar s.rooms.length cr) := P2.q0.cell 0
    have a1 : W.cell? ⟨p0, 1, none⟩ = some (.int .i64 s.days) := P2.q0.cell 1
    have a2 : W.cell? ⟨p0, 2, none⟩ = some (.slice Am s.moves.length cm) := P2.q0.cell 2
    have a3 : W.cell? ⟨p0, 3, none⟩ = some (.slice Aw s.wgs.length cw) := P2.q0.cell 3
    have l0 := P2.q0.lt
    rw [HSD.out] at a1
    have HLL : Hid (l.length = j) := Lib.hid HL.out.1
    by_cases hlj : j < D
    · have hjn : (j : Int) < (D : Int) := by omega
      have hpl := place_lt (R := s.rooms.length) (D := D + 1) (i := k) (j := 1 + j) hlt (by omega)
      obtain ⟨wn, hwn0, hwn, hval, hrem, hwn4⟩ := place_val hw (k := k * (D + 1) + 1 + j) (by unfold placesP; rw [HD.out]; show k * (D + 1) + 1 + j < s.rooms.length * (D + 1) + s.moves.length; omega) HM.out (r := (gRm s.rooms k).vap) (HV.out j hlj)
      change (gRm s.rooms k).vap.hi - (gRm s.rooms k).vap.lo + 1 = (wn : Int) at hwn
      change (gRm s.rooms k).vap.lo + (m : Int) % (wn : Int) = _ at hval
      rw [HE.out.1] at hwn hval
      rw [HE.out.2] at hwn
      clear hpl
      obtain ⟨m2, hn2⟩ : ∃ x, m / wn = x := ⟨_, rfl⟩
      have hq : (m : Int) / (wn : Int) = (m2 : Int) := by rw [← hn2]; simp
      rw [hn2] at hrem
      have HREM := Lib.hid hrem
      have HVAL := Lib.hid hval
      have HWN := Lib.hid hwn
      have HQ := Lib.hid hq
      have hle2 : m2 ≤ 1048576 := by rw [← hn2]; exact Nat.le_trans (Nat.div_le_self _ _) hnle
      have hw1 : ¬ (wn : Int) = 0 := by omega
      have hw2 : ((wn : Int) == 0) = false := by rw [beq_eq_false_iff_ne]; exact hw1
      have hnn : (0 : Int) ≤ (m : Int) := Int.natCast_nonneg _
      have hr0 : 0 ≤ (m : Int) % (wn : Int) := Int.emod_nonneg _ hw1
      have hr1 : (m : Int) % (wn : Int) < (wn : Int) := Int.emod_lt_of_pos _ (by omega)
      have hd0 : 0 ≤ (m : Int) / (wn : Int) ∧ (m : Int) / (wn : Int) ≤ 1048576 := by rw [hq]; omega
      clear hn2 hrem hval hwn hq hwn0
      have x0 : W.cell? ⟨pr, 0, none⟩ = some (.int .i64 e0) := qr.cell 0
      have x1 : W.cell? ⟨pr, 1, none⟩ = some (.int .i64 e1) := qr.cell 1
      have x2 : W.cell? ⟨pr, 2, none⟩ = some (.int .i64 e2) := qr.cell 2
      have x3 : W.cell? ⟨pr, 3, none⟩ = some (.int .i64 e3) := qr.cell 3
      have lr := qr.lt
      have hprV : pr < V.heap.size := qr2.lt
      obtain ⟨row, hrow⟩ : ∃ row, vl.ownBlock = row := ⟨_, rfl⟩
      have hge := fun (j : Nat) (hj : vl.ownBlock = some j) => own_ge ho hj
      have hnr : ¬ some pr = row := fun e => by have := hge _ (hrow.trans e.symm); have := HBK.out; omega
      have hVb := fun (b : Nat) (hb : row = some b) => hge b (hrow.trans hb)
      have HVB := Lib.hid hVb
      have HROW := Lib.hid hrow
      clear hrow hge hVb hprV
      have hsW := hfk.size
      rw [HBK.out] at hsW
      go_upto_region 14 with fail
      rw [HWN.out]
      refine wp_region_gx_mix row 10 [(false, 0), (false, 1), (false, 2), (false, 3), (false, 4), (false, 5), (false, 6), (false, 7), (true, 8), (true, 9)] (by kernel_rfl) (by kernel_rfl) (by intro d _ _ _ _ h; cases d <;> exact h) ?_
      repeat (refine mix_quiet rfl ?_; go_big_quiet_step (fail); refine wpQuiet_nil ?_)
      have hX0 := (Below.refl W.heap.size W).drew
      refine mix_loud rfl ?_
      go_wp2_with fail
      have hX3 := ex_alloc hX0 (.cells #[.int .i64 (e2 + (m : Int) % (wn : Int))] 3)
      refine ⟨inGx (grown_row hX3), ?_⟩
      repeat (refine mix_quiet rfl ?_; go_big_quiet_step (fail); refine wpQuiet_nil ?_)
      have y4 := own_below ho hX3
      have c63 : l.length + 1 ≤ maxLen := by rw [HLL.out]; unfold maxLen; omega
      have cby : (l.length + 1) * 8 ≤ 140737488355328 := by rw [HLL.out]; omega
      have hbase : Bk ≤ (W.drew.alloc (.cells #[.int .i64 (e2 + (m : Int) % (wn : Int))] 3)).heap.size := by have := hX3.size; omega
      refine mix_loud rfl ?_
      go_wp2_with (at_builtin; refine wpList_append_lies _ rfl _ _ _ rfl (Bk) 3 i0 _ 1 8 Try.underlying28 HI.out hz0 hz1 hz2 rfl (by omega) vl _ _ rfl y4 ⟨W.drew.heap.size, 0, none⟩ 1 1 [.int .i64 (e2 + (m : Int) % (wn : Int))] rfl rfl (World.news_of_block (heap_alloc_new W.drew _)) (by simp [Value.oneCell']) (by omega) c63 cby hbase (W.drew.heap.size + 1) (by simp) ?_; intro gg cap w1 hown' hgrow hat hlt')
      rw [HROW.out] at hgrow
      have hgB := (grown_row (r := row) hX3).andThen hgrow (fun j hj => .inr hj)
      refine ⟨inGx hgB, ?_⟩
      repeat (refine mix_quiet rfl ?_; go_big_quiet_step (fail); refine wpQuiet_nil ?_)
      refine mix_nil rfl ?_
      have hfw : Below V.heap.size V w1 := hfk.grown hgB hfk.size (fun b hb => by have := HVB.out b hb; have := HBK.out; omega)
      have HOW := Lib.hid (own_push (f := cI1) (x := e2 + (m : Int) % (wn : Int)) rfl hown')
      have HL2 : Hid ((l ++ [e2 + (m : Int) % (wn : Int)]).length = j + 1 ∧ ∀ d, d < j + 1 → gI (l ++ [e2 + (m : Int) % (wn : Int)]) d = nthV s.wo n0 k d) := Lib.hid ⟨by simp [HLL.out], gI_snoc' (P := fun n d => n = nthV s.wo n0 k d) HLL.out HL.out.2 (by rw [HVAL.out]; unfold nthV; rw [HD.out])⟩
      clear hown' hgB hgrow y4 hX3 hX0 hat hlt' a0 a1 a2 a3 l0 x0 x1 x2 x3 lr hnr P2 qr ho
      go_upto_region 12 with fail
      rw [HQ.out]
      generalize e2 + (m : Int) % (wn : Int) = z at *
      clear hw1 hw2 hnn hr0 hr1 hd0 hwn4
      go_wp2_with fail
      refine ⟨⟨⟨j + 1, by omega, hfw, m2, hle2, Lib.hid HREM.out, _, _, HOW.out, HL2, exFrame (by kernel_rfl)⟩⟩, ?_⟩
      show D - (intOf (.int .i64 ((j : Int) + 1))).toNat < D - (intOf (.int .i64 (j : Int))).toNat
      simp [intOf]
      omega
    · obtain rfl : j = D := by omega
      obtain ⟨A5, c5, rfl, _, _, hr5⟩ := lay_ints ho
      rw [HLL.out]
      have hXl : Hid (X.length = k) := Lib.hid (by have := HPT.out.n2; simpa using this)
      have g1 : W.cell? ⟨p0 + 1 + 1, 1, none⟩ = some v2 := P2.q2.cell 1
      have l2 := P2.q2.lt
      have ff2 := P2.q2.frozen0
      have XL := ex_alloc (Below.refl W.heap.size W) (.cells #[.slice A5 j c5] 28)
      have P3 := P2.below XL
      have y4 := P3.o2.own
      have c63 : X.length + 1 ≤ maxLen := by rw [hXl.out]; unfold maxLen; omega
      have cby : (X.length + 1) * 24 ≤ 140737488355328 := by rw [hXl.out]; omega
      have hbase : B0 ≤ (W.alloc (.cells #[.slice A5 j c5] 28)).heap.size := P3.sz
      go_upto_region 16 with fail
      go_wp2_with (refine pause_at 80 rfl ?_)
      refine Paused.mk ?_
      refine wpList_append_lies _ rfl _ _ _ rfl B0 28 i1 _ 1 24 Try.underlying29 HJ.out hy0 hy1 hy2 rfl (by omega) v2 _ _ rfl y4 ⟨W.heap.size, 0, none⟩ 1 1 [.slice A5 j c5] rfl rfl (World.news_of_block (heap_alloc_new W _)) (by simp [Value.oneCell']) (by omega) c63 cby hbase (W.heap.size + 1) (by simp) ?_
      intro gg cap w1 hown' hgrow hat hlt'
      have hown2 : w1.ownsRow B0 28 1 (.slice (some ⟨gg, 0, none⟩) (X.length + 1) cap) (X.length + 1) (X.flatMap cIR ++ cIR ((A5, c5, l) : IRow)) := by rw [show cIR ((A5, c5, l) : IRow) = [.slice A5 j c5] by unfold cIR; dsimp only; rw [HLL.out]]; exact hown'
      have P4 := P3.vap hbs hwp hgrow hown2 (x := ((A5, c5, l) : IRow)) (hr5.below XL) (by omega) hv3.out
      have qc := P3.q2.grown hgrow (fun e => by have := own_ge y4 e.symm; omega)
      have f1 : w1.cell? ⟨p0 + 1 + 1, 1, none⟩ = some v2 := qc.cell 1
      have ff := qc.frozen0
      have lq := qc.lt
      have HP2 : Hid (NthTo s n0 (l1 ++ [y]) ((X ++ [((A5, c5, l) : IRow)]).map (fun x => x.2.2)) (k + 1)) := Lib.hid (by
        rw [List.map_append, List.map_singleton]
        exact HPT.out.snoc HF0.out (HLL.out.trans HD.out.symm) (fun d hd => HL.out.2 d (by rw [HD.out] at hd; exact hd)))
      have HM2 : Hid (m = remW (wdP s.wo) n0 ((k + 1) * (j + 1))) := Lib.hid (by rw [HM.out, show (k + 1) * (j + 1) = k * (j + 1) + 1 + j by rw [Nat.add_mul, Nat.one_mul]; omega])
      clear hown' hown2 hgrow hat hlt' y4 qc P1 P2 P3 a0 a1 a2 a3 l0 g1 l2 ff2 ho hr5 XL hfk qr qr2
      go_wp2_with fail
      refine ⟨⟨⟨k + 1, by omega, m, hnle, HM2, _, _, _, _, P4, HP2, exFrame (by kernel_rfl)⟩⟩, ?_⟩
      show s.rooms.length - (intOf (.int .i64 ((k : Int) + 1))).toNat < s.rooms.length - (intOf (.int .i64 (k : Int))).toNat
      simp [intOf]
      omega
  · have HK : Hid (k = s.rooms.length) := Lib.hid (by omega)
    have HN2 : Hid (n = remW (wdP s.wo) n0 (s.rooms.length * (D + 1) + 0)) := Lib.hid (by rw [HN.out, HK.out]; rfl)
    have HP := Lib.hid P0
    obtain ⟨B3, hB3⟩ : ∃ b, W.heap.size = b := ⟨_, rfl⟩
    have HB3 := Lib.hid hB3
    have hB03 := P0.sz
    rw [hB3] at hB03
    clear hB3 HN
    have q2 := P0.q2
    clear P0
    go_wp2_with fail
    refine wp_loop (fun a V => Rel (fun a V => ∃ i : Nat, i ≤ s.moves.length ∧ Fr (fun b => b = p0 + 1 + 1) W V ∧ ∃ m : Nat, m ≤ 1048576 ∧ Hid (m = remW (wdP s.wo) n0 (s.rooms.length * (D + 1) + i)) ∧ (∃ v l, Blk V (p0 + 1 + 1) 31 #[v1, v2, v] ∧ V.ownsRow B3 3 1 v l.length (l.flatMap cI1) ∧ Hid (l.length = i ∧ ∀ j, j < i → gI l j = nthG s.wo n0 j) ∧ ∃ u : Nat → Value, a = ⟨List.toArray (u 0 :: .int .i64 (m : Int) :: .pointer (some ⟨p0, 0, none⟩) :: u 3 :: .pointer (some ⟨p0 + 1, 0, none⟩) :: .pointer (some ⟨p0 + 1 + 1, 0, none⟩) :: u 6 :: u 7 :: u 8 :: u 9 :: u 10 :: .int .i64 (i : Int) :: u 12 :: u 13 :: u 14 :: u 15 :: u 16 :: u 17 :: u 18 :: u 19 :: u 20 :: u 21 :: u 22 :: u 23 :: u 24 :: u 25 :: u 26 :: u 27 :: u 28 :: u 29 :: u 30 :: u 31 :: u 32 :: u 33 :: u 34 :: u 35 :: u 36 :: u 37 :: u 38 :: u 39 :: u 40 :: u 41 :: u 42 :: u 43 :: u 44 :: u 45 :: u 46 :: u 47 :: u 48 :: u 49 :: u 50 :: u 51 :: u 52 :: u 53 :: u 54 :: u 55 :: u 56 :: u 57 :: u 58 :: u 59 :: u 60 :: u 61 :: u 62 :: u 63 :: u 64 :: u 65 :: u 66 :: u 67 :: u 68 :: u 69 :: u 70 :: u 71 :: u 72 :: u 73 :: u 74 :: u 75 :: u 76 :: u 77 :: u 78 :: u 79 :: u 80 :: u 81 :: u 82 :: u 83 :: u 84 :: u 85 :: u 86 :: u 87 :: u 88 :: u 89 :: u 90 :: u 91 :: u 92 :: u 93 :: u 94 :: u 95 :: u 96 :: u 97 :: u 98 :: u 99 :: u 100 :: u 101 :: u 102 :: u 103 :: u 104 :: u 105 :: u 106 :: u 107 :: u 108 :: u 109 :: u 110 :: u 111 :: u 112 :: u 113 :: u 114 :: u 115 :: []), []⟩)) a V) (fun a _ => s.moves.length - (intOf (a.tmps.getD 11 undef)).toNat) ⟨⟨0, by omega, Fr.refl _ _, n, hnle, HN2, _, [], q2, ⟨rfl, .inl ⟨rfl, rfl⟩⟩, Lib.hid ⟨rfl, fun j hj => by omega⟩, exFrame (by kernel_rfl)⟩⟩ ?_
    clear q2 a0 a1 a2 a3 l0 c0 l2 HN2 hnle
    rintro a V ⟨⟨i, hi, hF, m, hnle, HM, v, l, q2, ho, HL, u2, rfl⟩⟩
    have bw := hF.toBelow HP.out.bw HP.out.bw.size (fun x hx => by omega)
    have q0 := HP.out.q0.fr hF (by omega)
    have hzV := hF.size
    rw [HB3.out] at hzV
    have a0 : V.cell? ⟨p0, 0, none⟩ = some (.slice Ar s.rooms.length cr) := q0.cell 0
    have a1 : V.cell? ⟨p0, 1, none⟩ = some (.int .i64 s.days) := q0.cell 1
    have a2 : V.cell? ⟨p0, 2, none⟩ = some (.slice Am s.moves.length cm) := q0.cell 2
    have a3 : V.cell? ⟨p0, 3, none⟩ = some (.slice Aw s.wgs.length cw) := q0.cell 3
    have l0 := q0.lt
    rw [HSD.out] at a1
    have HLL : Hid (l.length = i) := Lib.hid HL.out.1
    have l2 := q2.lt
    by_cases hli : i < s.moves.length
    · have hin : (i : Int) < (s.moves.length : Int) := by omega
      obtain ⟨br, orr, hAm, hbr, _, _, _, r3, r4⟩ := IsMvs.at_ (hs.moves.below bw) hli
      rw [hAm] at a2
      have lbr : br < V.heap.size := by have := bw.size; omega
      have hmg := HMG.out i hli
      obtain ⟨wn, hwn0, hwn, hval, hrem, hwn4⟩ := place_val hw (k := s.rooms.length * (D + 1) + i) (by unfold placesP; rw [HD.out]; show s.rooms.length * (D + 1) + i < s.rooms.length * (D + 1) + s.moves.length; omega) HM.out (r := (gMv s.moves i).g) (by rw [← HD.out]; exact rgP_mov i)
      change (gMv s.moves i).g.hi - (gMv s.moves i).g.lo + 1 = (wn : Int) at hwn
      change (gMv s.moves i).g.lo + (m : Int) % (wn : Int) = _ at hval
      obtain ⟨e3, he3⟩ : ∃ x, (gMv s.moves i).g.lo = x := ⟨_, rfl⟩
      rw [he3] at r3 hmg hwn hval
      obtain ⟨e4, he4⟩ : ∃ x, (gMv s.moves i).g.hi = x := ⟨_, rfl⟩
      rw [he4] at r4 hmg hwn
      clear he3 he4
      obtain ⟨m2, hn2⟩ : ∃ x, m / wn = x := ⟨_, rfl⟩
      have hq : (m : Int) / (wn : Int) = (m2 : Int) := by rw [← hn2]; simp
      rw [hn2] at hrem
      have HREM := Lib.hid hrem
      have HVAL := Lib.hid hval
      have HWN := Lib.hid hwn
      have HQ := Lib.hid hq
      have hle2 : m2 ≤ 1048576 := by rw [← hn2]; exact Nat.le_trans (Nat.div_le_self _ _) hnle
      have hw1 : ¬ (wn : Int) = 0 := by omega
      have hw2 : ((wn : Int) == 0) = false := by rw [beq_eq_false_iff_ne]; exact hw1
      have hnn : (0 : Int) ≤ (m : Int) := Int.natCast_nonneg _
      have hr0 : 0 ≤ (m : Int) % (wn : Int) := Int.emod_nonneg _ hw1
      have hr1 : (m : Int) % (wn : Int) < (wn : Int) := Int.emod_lt_of_pos _ (by omega)
      have hd0 : 0 ≤ (m : Int) / (wn : Int) ∧ (m : Int) / (wn : Int) ≤ 1048576 := by rw [hq]; omega
      clear hn2 hrem hval hwn hq hwn0
      have NG := ex_alloc (Below.refl V.heap.size V) (.cells #[.int .i64 e3, .int .i64 e4] 52)
      have qg : Blk (V.alloc (.cells #[.int .i64 e3, .int .i64 e4] 52)) V.heap.size 52 #[.int .i64 e3, .int .i64 e4] := Blk.new _ _ _
      have hfr1 : v.ownBlock ≠ some V.heap.size := fun e => by have := (own_lt ho e).2; omega
      go_upto_region 22 with fail
      rw [HWN.out]
      have hpgV : B3 ≤ V.heap.size := hzV
      obtain ⟨pg, hpg⟩ : ∃ p, V.heap.size = p := ⟨_, rfl⟩
      rw [hpg] at qg hfr1 hpgV ⊢
      replace q2 := q2.below NG l2
      replace ho := own_below ho NG
      have bwZ := ex_trans bw NG
      have hFZ := hF.trans (Fr.below (R := fun b => b = p0 + 1 + 1) NG) (fun _ _ h => h)
      clear hpg NG a0 a1 a2 a3 l0 l2 r3 r4 lbr q0 hF
      generalize V.alloc (.cells #[.int .i64 e3, .int .i64 e4] 52) = Z at *
      have d2 : Z.cell? ⟨p0 + 1 + 1, 2, none⟩ = some v := q2.cell 2
      have l2 := q2.lt
      have x0 : Z.cell? ⟨pg, 0, none⟩ = some (.int .i64 e3) := qg.cell 0
      have x1 : Z.cell? ⟨pg, 1, none⟩ = some (.int .i64 e4) := qg.cell 1
      have lg := qg.lt
      have hzZ : B3 ≤ Z.heap.size := by omega
      obtain ⟨row, hrow⟩ : ∃ row, v.ownBlock = row := ⟨_, rfl⟩
      have hge := fun (j : Nat) (hj : v.ownBlock = some j) => own_ge ho hj
      have hn2' : ¬ some (p0 + 1 + 1) = row := fun e => by have := hge _ (hrow.trans e.symm); omega
      have hnr : ¬ some pg = row := fun e => hfr1 (hrow.trans e.symm)
      have hVb := fun (b : Nat) (hb : row = some b) => hge b (hrow.trans hb)
      have HVB := Lib.hid hVb
      have HROW := Lib.hid hrow
      clear hrow hge hVb
      refine wp_region_gx_mix row 11 [(false, 0), (false, 1), (false, 2), (false, 3), (false, 4), (false, 5), (false, 6), (false, 7), (true, 8), (true, 9), (false, 10)] (by kernel_rfl) (by kernel_rfl) (by intro d _ _ _ _ h; cases d <;> exact h) ?_
      repeat (refine mix_quiet rfl ?_; go_big_quiet_step (fail); refine wpQuiet_nil ?_)
      have hX0 := (Below.refl Z.heap.size Z).drew
      refine mix_loud rfl ?_
      go_wp2_with fail
      have hX3 := ex_alloc hX0 (.cells #[.int .i64 (e3 + (m : Int) % (wn : Int))] 3)
      refine ⟨inGx (grown_row hX3), ?_⟩
      repeat (refine mix_quiet rfl ?_; go_big_quiet_step (fail); refine wpQuiet_nil ?_)
      have y4 := own_below ho hX3
      have c63 : l.length + 1 ≤ maxLen := by rw [HLL.out]; unfold maxLen; omega
      have cby : (l.length + 1) * 8 ≤ 140737488355328 := by rw [HLL.out]; omega
      have hbase : B3 ≤ (Z.drew.alloc (.cells #[.int .i64 (e3 + (m : Int) % (wn : Int))] 3)).heap.size := by have := hX3.size; omega
      refine mix_loud rfl ?_
      go_wp2_with (at_builtin; refine wpList_append_lies _ rfl _ _ _ rfl (B3) 3 i0 _ 1 8 Try.underlying28 HI.out hz0 hz1 hz2 rfl (by omega) v _ _ rfl y4 ⟨Z.drew.heap.size, 0, none⟩ 1 1 [.int .i64 (e3 + (m : Int) % (wn : Int))] rfl rfl (World.news_of_block (heap_alloc_new Z.drew _)) (by simp [Value.oneCell']) (by omega) c63 cby hbase (Z.drew.heap.size + 1) (by simp) ?_; intro gg cap w1 hown' hgrow hat hlt')
      rw [HROW.out] at hgrow
      have hgB := (grown_row (r := row) hX3).andThen hgrow (fun j hj => .inr hj)
      refine ⟨inGx hgB, ?_⟩
      repeat (refine mix_quiet rfl ?_; go_big_quiet_step (fail); refine wpQuiet_nil ?_)
      refine mix_nil rfl ?_
      have hgF := Fr.grown (R := fun b => B3 ≤ b ∨ b = p0 + 1 + 1) hgB (fun b hb => .inl (.inl (HVB.out b hb)))
      have p2 := q2.grown hgB hn2'
      have f2 : w1.cell? ⟨p0 + 1 + 1, 2, none⟩ = some v := p2.cell 2
      have ff := p2.frozen0
      have lp2 := p2.lt
      have p2s := p2.set_ 2 (.slice (some ⟨gg, 0, none⟩) (l.length + 1) cap)
      simp only [List.setIfInBounds_toArray, List.set_cons_zero, List.set_cons_succ] at p2s
      have own8 := own_far (own_push (f := cI1) (x := e3 + (m : Int) % (wn : Int)) rfl hown') (p := ⟨p0 + 1 + 1, 2, none⟩) (by show p0 + 1 + 1 < B3; omega) (.slice (some ⟨gg, 0, none⟩) (l.length + 1) cap)
      have hfr : Fr (fun b => b = p0 + 1 + 1) W (w1.setCell ⟨p0 + 1 + 1, 2, none⟩ (.slice (some ⟨gg, 0, none⟩) (l.length + 1) cap)) := hFZ.trans (hgF.andSet (b := p0 + 1 + 1) (i := 2) (v := (.slice (some ⟨gg, 0, none⟩) (l.length + 1) cap)) (.inr rfl)) (fun x hx h => by rw [HB3.out] at hx; rcases h with h | h; omega; exact h)
      have HL3 : Hid ((l ++ [e3 + (m : Int) % (wn : Int)]).length = i + 1 ∧ ∀ j, j < i + 1 → gI (l ++ [e3 + (m : Int) % (wn : Int)]) j = nthG s.wo n0 j) := Lib.hid ⟨by simp [HLL.out], gI_snoc' (P := fun n j => n = nthG s.wo n0 j) HLL.out HL.out.2 (by rw [HVAL.out]; unfold nthG; rw [HD.out]; rfl)⟩
      clear hown' hgB hgrow y4 hX3 hX0 hat hlt' d2 l2 x0 x1 lg hn2' hnr ho q2 p2 hgF qg
      go_upto_region 19 with fail
      rw [HQ.out]
      generalize e3 + (m : Int) % (wn : Int) = z at *
      clear hw1 hw2 hnn hr0 hr1 hd0 hwn4
      go_wp2_with fail
      refine ⟨⟨⟨i + 1, by omega, hfr, m2, hle2, Lib.hid HREM.out, _, _, p2s, own8, HL3, exFrame (by kernel_rfl)⟩⟩, ?_⟩
      show s.moves.length - (intOf (.int .i64 ((i : Int) + 1))).toNat < s.moves.length - (intOf (.int .i64 (i : Int))).toNat
      simp [intOf]
      omega
    · have HI2 : Hid (i = s.moves.length) := Lib.hid (by omega)
      have q1 := HP.out.q1.fr hF (by omega)
      have o1 := own_fr HP.out.o1 hF (fun b hb e => by have := own_ge HP.out.o1 hb; omega)
      have o2 := HP.out.o2.fr hF (fun g hg _ e => by omega)
      obtain ⟨A3, c3, rfl, _, _, ro3⟩ := lay_ints ho
      obtain ⟨A1, c1, rfl, _, _, ro1⟩ := lay_ints o1
      obtain ⟨A2, c2, rA, rc, rfl, hL2⟩ := IOwn.lis o2 rfl
      have T1 : IsNth s n0 ⟨l1, X.map (fun x => x.2.2), l⟩ := ⟨HK.out ▸ HPT.out, HLL.out.trans HI2.out, fun i hi => HL.out.2 i (by rw [HI2.out]; exact hi)⟩
      obtain ⟨n1, hn1⟩ : ∃ n, l1.length = n := ⟨_, rfl⟩
      obtain ⟨n2, hn2⟩ : ∃ n, (X.map (fun x => x.2.2)).length = n := ⟨_, rfl⟩
      obtain ⟨n3, hn3⟩ : ∃ n, l.length = n := ⟨_, rfl⟩
      rw [hn1, hn2, hn3] at q2
      have HN := Lib.hid (And.intro hn1 (And.intro hn2 hn3))
      have HTP := Lib.hid T1
      have HR := Lib.hid (And.intro ro1 (And.intro hL2 ro3))
      clear hn1 hn2 hn3 T1 ro1 hL2 ro3 ho o1 o2
      have b0 : V.cell? ⟨p0 + 1 + 1, 0, none⟩ = some (.slice A1 n1 c1) := q2.cell 0
      have b1 : V.cell? ⟨p0 + 1 + 1, 1, none⟩ = some (.slice A2 n2 c2) := q2.cell 1
      have b2 : V.cell? ⟨p0 + 1 + 1, 2, none⟩ = some (.slice A3 n3 c3) := q2.cell 2
      have z0 : V.cell? ⟨p0 + 1, 0, none⟩ = some (.slice none 0 0) := q1.cell 0
      have z1 : V.cell? ⟨p0 + 1, 1, none⟩ = some (.slice none 0 0) := q1.cell 1
      have z2 : V.cell? ⟨p0 + 1, 2, none⟩ = some (.slice none 0 0) := q1.cell 2
      have l1q := q1.lt
      have ff := q1.frozen0
      have qz := ((q1.set_ 0 (.slice A1 n1 c1)).set_ 1 (.slice A2 n2 c2)).set_ 2 (.slice A3 n3 c3)
      simp only [List.setIfInBounds_toArray, List.set_cons_zero, List.set_cons_succ] at qz
      have frz : Fr (fun b => b = p0 + 1) V (((V.setCell ⟨p0 + 1, 0, none⟩ (.slice A1 n1 c1)).setCell ⟨p0 + 1, 1, none⟩ (.slice A2 n2 c2)).setCell ⟨p0 + 1, 2, none⟩ (.slice A3 n3 c3)) := (((Fr.refl (fun b => b = p0 + 1) V).andSet rfl).andSet rfl).andSet rfl
      have Bz := frz.toBelow bw bw.size (fun x hx => by omega)
      have o2 := (HP.out.o2.fr hF (fun g hg _ e => by omega)).fr frz (fun g hg _ e => by omega)
      have HTT : Hid (TtOwn (((V.setCell ⟨p0 + 1, 0, none⟩ (.slice A1 n1 c1)).setCell ⟨p0 + 1, 1, none⟩ (.slice A2 n2 c2)).setCell ⟨p0 + 1, 2, none⟩ (.slice A3 n3 c3)) w.heap.size ⟨l1, X.map (fun x => x.2.2), l⟩ A1 A2 A3 c2) := Lib.hid ⟨(HR.out.1.fr frz (fun g hg _ e => by omega)).base (by omega), ⟨X, o2.base (by omega), rfl⟩, (HR.out.2.2.fr frz (fun g hg _ e => by omega)).base (by omega)⟩
      clear o2 frz HP hF
      go_wp2
      refine bodyPost_ret (results_cell_row rfl _ _ (p0 + 1) 31 _ (0, 0) _ rfl qz rfl rfl rfl) rfl ?_
      exact ⟨⟨⟨l1, X.map (fun x => x.2.2), l⟩, A1, A2, A3, c1, c2, c3, by rw [← HN.out.1, ← HN.out.2.1, ← HN.out.2.2], HTP.out, HTT.out⟩, Bz⟩
end Go.Proofs.Ythihdiilokdidaa
end

section
namespace Go.Proofs.Ythihdiilokdidaa
open Go.RowKit
attribute [local go_sem] Ex.cell? Ex.frozen? Gx.cell?

/-- weighings that are made anew. -/
structure WgTo (s : Ws) (S : Nat → Nat → Int) (m : Nat) (L : List Wg) (i : Nat) : Prop where
  len : L.length = i
  ok : ∀ j, j < i → (gWg L j).room = (gWg s.wgs j).room ∧ (gWg L j).day = (gWg s.wgs j).day ∧ (m / 2 ^ j % 2 = 0 → inR (S (gWg s.wgs j).room.toNat (gWg s.wgs j).day.toNat) (gWg L j).g)
theorem WgTo.snoc {s : Ws} {S : Nat → Nat → Int} {m : Nat} {L : List Wg} {i : Nat} (h : WgTo s S m L i) {x : Wg} (h1 : x.room = (gWg s.wgs i).room) (h2 : x.day = (gWg s.wgs i).day) (h3 : m / 2 ^ i % 2 = 0 → inR (S (gWg s.wgs i).room.toNat (gWg s.wgs i).day.toNat) x.g) : WgTo s S m (L ++ [x]) (i + 1) where
  len := by simp [h.len]
  ok := fun j hj => by
    rcases Nat.lt_succ_iff_lt_or_eq.1 hj with hlt | rfl
    · rw [gWg_l (by rw [h.len]; exact hlt)]; exact h.ok j hlt
    · have e : gWg (L ++ [x]) j = x := by rw [← h.len]; exact gWg_r _ _
      rw [e]; exact ⟨h1, h2, h3⟩
/-- a works that Weighed tells. -/
structure WdV (s : Ws) (S : Nat → Nat → Int) (m : Nat) (Ar Am : Option Addr) (cr cm : Nat) (B : Nat) (w' : World) (e : Ending) : Prop where
  out : ∃ L A c, e = .returned (.agg #[.slice Ar s.rooms.length cr, .int .i64 s.days, .slice Am s.moves.length cm, .slice A L.length c]) ∧ WgTo s S m L s.wgs.length ∧ RowAt w' B 72 4 A L.length (fWg L)
end Go.Proofs.Ythihdiilokdidaa
end

section
namespace Go.Proofs.Ythihdiilokdidaa
theorem shortB_iff {L : List (List Int)} : shortB L = true ↔ L.length ≤ 9 ∧ ∀ k, k < L.length → (gL L k).length ≤ 9 := by
  unfold shortB
  rw [Bool.and_eq_true, decide_eq_true_eq, allTo_iff]
  constructor
  · rintro ⟨a, b⟩; exact ⟨a, fun k hk => of_decide_eq_true (b k hk)⟩
  · rintro ⟨a, b⟩; exact ⟨a, fun k hk => decide_eq_true (b k hk)⟩
structure Thn (s : Ws) (t : Tt) : Prop where
  nr : s.rooms.length ≤ 6
  nm : s.moves.length ≤ 15
  nw : s.wgs.length ≤ 11
  nf : t.fs.length ≤ 9
  ng : t.gs.length ≤ 18
  nv : t.vs.length ≤ 9
  row : ∀ k, k < t.vs.length → (gL t.vs k).length ≤ 9
theorem thinB_iff {s : Ws} {t : Tt} : thinB s t = true ↔ Thn s t := by
  unfold thinB
  simp only [Bool.and_eq_true, decide_eq_true_eq, shortB_iff]
  constructor
  · rintro ⟨a, b, c, d, e, f, g⟩; exact ⟨a, b, c, d, e, f, g⟩
  · intro h; exact ⟨h.nr, h.nm, h.nw, h.nf, h.ng, h.nv, h.row⟩
end Go.Proofs.Ythihdiilokdidaa
end

section
namespace Go.Proofs.Ythihdiilokdidaa
open Go.RowKit
attribute [local go_sem] Ex.cell? Ex.frozen? Fx.cell?

/-- a works with other weighings. -/
abbrev Ws.wg (s : Ws) (L : List Wg) : Ws := ⟨s.rooms, s.days, s.moves, L⟩
/-- a works with weighings made anew, true of a truth but for those of bits. -/
structure LivX (s : Ws) (m : Nat) (t : Tt) (L : List Wg) : Prop where
  thn : Thn s ⟨[], [], []⟩
  ck : ckWs s = 0
  tru : truT s t = true
  can : canT s t = true
  wg : WgTo s (stk s.wo t.F t.V t.G) m L s.wgs.length
  ckx : ckWs (s.wg L) = 0
/-- what lives tells. -/
structure LivV (s : Ws) (m : Nat) (Ar Am : Option Addr) (cr cm : Nat) (w' : World) (e : Ending) : Prop where
  out : (∃ A1 A2 A3 A4 A5 A6 A7 c1 c2 c3 c4 c5 c6 c7, ∃ n1 n2 n3 n4 n5 n6 n7 : Nat, ∃ d : Int, e = .returned (.tuple #[.agg #[.slice A1 n1 c1, .int .i64 d, .slice A2 n2 c2, .slice A3 n3 c3], .agg #[.slice A4 n4 c4, .slice A5 n5 c5, .slice A6 n6 c6], .slice A7 n7 c7, .bool false])) ∨
    ∃ t : Tt, ∃ L : List Wg, ∃ A3 A4 A5 A6 A7 c3 c4 c5 c6 c7 rV rcV rA rc, e = .returned (.tuple #[.agg #[.slice Ar s.rooms.length cr, .int .i64 s.days, .slice Am s.moves.length cm, .slice A3 L.length c3], .agg #[.slice A4 t.fs.length c4, .slice A5 t.vs.length c5, .slice A6 t.gs.length c6], .slice A7 s.rooms.length c7, .bool true]) ∧
      LivX s m t L ∧ SlAt w' w'.heap.size 4 A3 L.length (fWg L) ∧ TtIn w' w'.heap.size t A4 A5 A6 rV rcV ∧ MatIn w' w'.heap.size A7 s.rooms.length s.wo.days (stk s.wo t.F t.V t.G) rA rc
end Go.Proofs.Ythihdiilokdidaa
end

section
namespace Go.Proofs.Ythihdiilokdidaa

/-- the weighings that bits leave out. -/
def bitO (m : Nat) : Nat → Bool := fun i => decide (m / 2 ^ i % 2 = 1)
theorem bitO_zero : bitO 0 = off0 := by
  funext i
  unfold bitO off0
  rw [Nat.zero_div]
  rfl
section
variable {s : Ws} {m : Nat} {t : Tt} {L : List Wg}
theorem stk_wgL (s : Ws) (L : List Wg) (F : Nat → Int) (V : Nat → Nat → Int) (G : Nat → Int) (r d : Nat) : stk (s.wg L).wo F V G r d = stk s.wo F V G r d := (SameMv.wgs s.wo s.wgs L).stk F V G r d
theorem LivX.wo (h : LivX s m t L) : WoOk s.wo ∧ s.days = (s.wo.days : Int) := ckWs_iff.1 h.ck
theorem LivX.wox (h : LivX s m t L) : WoOk (s.wg L).wo ∧ (s.wg L).days = ((s.wg L).wo.days : Int) := ckWs_iff.1 h.ckx
theorem LivX.sm (h : LivX s m t L) : (s.wg L).rooms.length ≤ 1000 ∧ (s.wg L).moves.length ≤ 1000 ∧ (s.wg L).wgs.length ≤ 1000 := by
  have h1 := h.wox.1.len
  have a : (s.wg L).wo.rooms.length = (s.wg L).rooms.length := rfl
  have b : (s.wg L).wo.moves.length = (s.wg L).moves.length := rfl
  have c : (s.wg L).wo.wgs.length = (s.wg L).wgs.length := rfl
  omega
theorem LivX.tru' (h : LivX s m t L) : TruF s.wo t.F t.V t.G := ((truT_iff h.wo.2).1 h.tru).2.2
theorem LivX.good (h : LivX s m t L) : GoodF (s.wg L).wo (bitO m) t.F t.V t.G where
  tru := ⟨h.tru'.fst, h.tru'.vap, h.tru'.mov⟩
  can := fun r d hr hd => by rw [stk_wgL]; exact canT_iff.1 h.can r d hr hd
  agr := fun i hi ho => by
    have hl := h.wg.len
    have hi2 : i < s.wgs.length := by rw [← hl]; exact hi
    obtain ⟨h1, h2, h3⟩ := h.wg.ok i hi2
    have hz : m / 2 ^ i % 2 = 0 := by
      have := of_decide_eq_false ho
      omega
    have h4 := h3 hz
    show inR (stk (s.wg L).wo t.F t.V t.G (gWg L i).room.toNat (gWg L i).day.toNat) (gWg L i).g
    rw [stk_wgL, h1, h2]
    exact h4
theorem LivX.stk_in (h : LivX s 0 t L) {r d : Nat} : StkZ (s.wg L).wo off0 r d (stk s.wo t.F t.V t.G r d) := ⟨_, _, _, bitO_zero ▸ h.good, stk_wgL _ _ _ _ _ _ _⟩
theorem LivX.len (h : LivX s m t L) : L.length = s.wgs.length := h.wg.len
end
/-- the ends, and what lies just beyond them. -/
def endV (lo hi : Int) : Nat → Int
  | 0 => lo
  | 1 => hi
  | 2 => lo - 1
  | _ => hi + 1
end Go.Proofs.Ythihdiilokdidaa
end

section
namespace Go.Proofs.Ythihdiilokdidaa
open Go.RowKit
section
variable {α : Type} {f : α → List Value} {sz : Nat} {w : World} {base : Nat} {e : TypeId} {v : Value} {l : List α}
end
/-- a works with other rooms. -/
abbrev zW (s : Ws) (R : List Rm) : Ws := ⟨R, s.days, s.moves, s.wgs⟩
/-- a works with one day more. -/
abbrev Ws.more (s : Ws) : Ws := ⟨s.rooms, s.days + 1, s.moves, s.wgs⟩
/-- with one day more, and no vapour that must be. -/
structure MoreIs (s : Ws) : Prop where
  yes : stE s.more = 0
  same : ∀ r d, r < s.rooms.length → d < s.wo.days → stkR s.more.wo off0 r d = stkR s.wo off0 r d
end Go.Proofs.Ythihdiilokdidaa
end

section
namespace Go.Proofs.Ythihdiilokdidaa
open Go.RowKit
attribute [local go_sem] Ex.cell? Ex.frozen?

section
variable {s : Ws} {t : Tt} {k : Nat}
end
end Go.Proofs.Ythihdiilokdidaa
end

section
namespace Go.Proofs.Ythihdiilokdidaa
open Go.RowKit
attribute [local go_sem] Ex.cell? Ex.frozen?

/-- a number is in a list. -/
def hasB (l : List Int) (n : Int) : Bool := !allTo (fun i => !(gI l i == n)) l.length
theorem hasB_iff {l : List Int} {n : Int} : hasB l n = true ↔ n ∈ l := by
  unfold hasB
  rw [Bool.not_eq_true', ← Bool.not_eq_true, allTo_iff]
  constructor
  · intro h
    by_cases hm : n ∈ l
    · exact hm
    · exact absurd (fun k hk => by
        have hne : gI l k ≠ n := fun e => hm (by rw [← e]; simp [gI, hk])
        simpa using hne) h
  · intro hm h
    obtain ⟨k, hk, e⟩ := List.getElem_of_mem hm
    have := h k hk
    simp [gI, hk, e] at this
set_option maxRecDepth 100000 in
set_option maxHeartbeats 1600000 in
theorem Has_ref (A : Option Addr) (c : Nat) (l : List Int) (n : Int) (w : World) (hA : SlAt w w.heap.size 1 A l.length (fI l)) (hl : l.length ≤ 1000000) :
    Calls Try.prog 42 #[.slice A l.length c, .int .i64 n] w fun e w' => e = .returned (.bool (hasB l n)) ∧ Below w.heap.size w w' := by
  obtain ⟨m, hm⟩ : ∃ m, l.length = m := ⟨_, rfl⟩
  have HM := Lib.hid hm
  rw [hm] at hA hl ⊢
  clear hm
  go_enter Try.func42, Try.ntmps42
  go_wp2_with fail
  refine wp_loop (fun a W => Rel (fun a W => ∃ k : Nat, k ≤ m ∧ Below w.heap.size w W ∧ Hid (∀ j, j < k → (!(gI l j == n)) = true) ∧ ∃ u : Nat → Value, a = ⟨List.toArray (.slice A m c :: .int .i64 n :: u 2 :: u 3 :: u 4 :: .int .i64 (k : Int) :: u 6 :: u 7 :: u 8 :: u 9 :: u 10 :: u 11 :: u 12 :: u 13 :: u 14 :: u 15 :: u 16 :: u 17 :: []), []⟩) a W) (fun a _ => m - (intOf (a.tmps.getD 5 undef)).toNat) ⟨⟨0, by omega, Below.refl _ _, Lib.hid (fun j hj => by omega), exFrame (by kernel_rfl)⟩⟩ ?_
  rintro a W ⟨⟨k, hk, hb, HO, u, rfl⟩⟩
  by_cases hlt : k < m
  · obtain ⟨bl, ol, rfl, hbl, v0⟩ := IsInts.at_ (hA.below hb) hlt
    have hkn : (k : Int) < (m : Int) := by omega
    have lbl : bl < W.heap.size := by have := hb.size; omega
    obtain ⟨vv, hvv⟩ : ∃ x, gI l k = x := ⟨_, rfl⟩
    rw [hvv] at v0
    have HVV := Lib.hid hvv
    clear hvv
    by_cases he : vv = n
    · have hq : (vv == n) = true := by simp [he]
      have HR : Hid (hasB l n = true) := Lib.hid (by unfold hasB; rw [allTo_false (f := fun i => !(gI l i == n)) (show k < l.length by rw [HM.out]; exact hlt) (by rw [HVV.out, hq]; rfl)]; rfl)
      clear he
      go_wp2
      go_ret
      exact ⟨ret_bool HR.out.symm, hb⟩
    · have hq : (vv == n) = false := by simp [he]
      have HQ := Lib.hid hq
      clear he
      have HO2 : Hid (∀ j, j < k + 1 → (!(gI l j == n)) = true) := Lib.hid (fun j hj => by
        rcases Nat.lt_succ_iff_lt_or_eq.1 hj with h | h
        · exact HO.out j h
        · subst h; rw [HVV.out, HQ.out]; rfl)
      go_wp2_with fail
      refine ⟨⟨⟨k + 1, by omega, hb, HO2, exFrame (by kernel_rfl)⟩⟩, ?_⟩
      show m - (intOf (.int .i64 ((k : Int) + 1))).toNat < m - (intOf (.int .i64 (k : Int))).toNat
      simp [intOf]
      omega
  · obtain rfl : k = m := by omega
    have HR : Hid (hasB l n = false) := Lib.hid (by unfold hasB; rw [HM.out, allTo_iff.2 HO.out]; rfl)
    go_wp2
    go_ret
    exact ⟨ret_bool HR.out.symm, hb⟩
/-- stocks agree with a weighing, or it is left out. -/
def agr1 (s : Ws) (S : Nat → Nat → Int) (o : List Int) (i : Nat) : Bool := hasB o i || inB (S (gWg s.wgs i).room.toNat (gWg s.wgs i).day.toNat) (gWg s.wgs i).g.lo (gWg s.wgs i).g.hi
def agrL (s : Ws) (S : Nat → Nat → Int) (o : List Int) : Bool := allTo (agr1 s S o) s.wgs.length
set_option maxRecDepth 100000 in
set_option maxHeartbeats 6400000 in
theorem Agrees_ref (s : Ws) (Ar Am Aw : Option Addr) (cr cm cw : Nat) (w : World) (hs : WsIn w w.heap.size s Ar Am Aw) (hw : WoOk s.wo) (S : Nat → Nat → Int) (AS : Option Addr) (cS : Nat) (rA : Nat → Option Addr) (rc : Nat → Nat) (hS : MatIn w w.heap.size AS s.rooms.length s.wo.days S rA rc) (o : List Int) (Ao : Option Addr) (co : Nat) (ho : SlAt w w.heap.size 1 Ao o.length (fI o)) (hlo : o.length ≤ 1000000) :
    Calls Try.prog 57 #[.agg #[.slice Ar s.rooms.length cr, .int .i64 s.days, .slice Am s.moves.length cm, .slice Aw s.wgs.length cw], .slice AS s.rooms.length cS, .slice Ao o.length co] w fun e w' => e = .returned (.bool (agrL s S o)) ∧ Below w.heap.size w w' := by
  have hw8 : s.wgs.length ≤ 8 := hw.len.2.2.2
  have hr3 : s.rooms.length ≤ 3 := hw.len.2.1
  obtain ⟨D, hD⟩ : ∃ D, s.wo.days = D := ⟨_, rfl⟩
  have hD6 : 1 ≤ D ∧ D ≤ 6 := by have := hw.days; omega
  have hwg := hw.wgs
  rw [hD] at hS hwg
  clear hD hw
  have hSo := hS.out
  have hSr := hS.row
  clear hS
  have hwg2 : ∀ i, i < s.wgs.length → 0 ≤ (gWg s.wgs i).room ∧ (gWg s.wgs i).room < (s.rooms.length : Int) ∧ 0 ≤ (gWg s.wgs i).day ∧ (gWg s.wgs i).day < D := fun i hi => by have := hwg i hi; exact ⟨this.1, this.2.1, this.2.2.1, this.2.2.2.1⟩
  have HWG := Lib.hid hwg2
  clear hwg hwg2
  have hb1 := ex_alloc (Below.refl w.heap.size w) (.cells #[.slice Ar s.rooms.length cr, .int .i64 s.days, .slice Am s.moves.length cm, .slice Aw s.wgs.length cw] 26)
  have q0 : Blk (w.alloc (.cells #[.slice Ar s.rooms.length cr, .int .i64 s.days, .slice Am s.moves.length cm, .slice Aw s.wgs.length cw] 26)) w.heap.size 26 #[.slice Ar s.rooms.length cr, .int .i64 s.days, .slice Am s.moves.length cm, .slice Aw s.wgs.length cw] := Blk.new _ _ _
  go_enter Try.func57, Try.ntmps57
  go_wp2_with fail
  generalize w.alloc (.cells #[.slice Ar s.rooms.length cr, .int .i64 s.days, .slice Am s.moves.length cm, .slice Aw s.wgs.length cw] 26) = V at *
  refine wp_loop (fun a W => Rel (fun a W => ∃ k : Nat, k ≤ s.wgs.length ∧ Below w.heap.size w W ∧ Blk W w.heap.size 26 #[.slice Ar s.rooms.length cr, .int .i64 s.days, .slice Am s.moves.length cm, .slice Aw s.wgs.length cw] ∧ Hid (∀ j, j < k → agr1 s S o j = true) ∧ ∃ u : Nat → Value, a = ⟨List.toArray (u 0 :: .slice AS s.rooms.length cS :: .slice Ao o.length co :: .pointer (some ⟨w.heap.size, 0, none⟩) :: u 4 :: u 5 :: u 6 :: .int .i64 (k : Int) :: u 8 :: u 9 :: u 10 :: u 11 :: u 12 :: u 13 :: u 14 :: u 15 :: u 16 :: u 17 :: u 18 :: u 19 :: u 20 :: u 21 :: u 22 :: u 23 :: u 24 :: u 25 :: u 26 :: u 27 :: u 28 :: u 29 :: u 30 :: u 31 :: u 32 :: u 33 :: u 34 :: u 35 :: u 36 :: u 37 :: u 38 :: u 39 :: u 40 :: u 41 :: u 42 :: u 43 :: []), []⟩) a W) (fun a _ => s.wgs.length - (intOf (a.tmps.getD 7 undef)).toNat) ⟨⟨0, by omega, hb1, q0, Lib.hid (fun j hj => by omega), exFrame (by kernel_rfl)⟩⟩ ?_
  clear hb1 q0 V
  rintro a W ⟨⟨k, hk, hb1, q0, HO, u, rfl⟩⟩
  have l0 := q0.lt
  by_cases hlt : k < s.wgs.length
  · obtain ⟨br, orr, rfl, hbr, r0, r1, r2, r3⟩ := IsWgs.at_ (hs.wgs.below hb1) hlt
    have hkn : (k : Int) < (s.wgs.length : Int) := by omega
    have lbr : br < W.heap.size := by have := hb1.size; omega
    have a3 : W.cell? ⟨w.heap.size, 3, none⟩ = some (.slice (some ⟨br, orr, none⟩) s.wgs.length cw) := q0.cell 3
    have hwk := HWG.out k hlt
    have HA1 : Hid (agr1 s S o k = (hasB o k || inB (S (gWg s.wgs k).room.toNat (gWg s.wgs k).day.toNat) (gWg s.wgs k).g.lo (gWg s.wgs k).g.hi)) := Lib.hid rfl
    obtain ⟨e0, he0⟩ : ∃ x, (gWg s.wgs k).room = x := ⟨_, rfl⟩
    rw [he0] at r0 HA1 hwk
    clear he0
    obtain ⟨e1, he1⟩ : ∃ x, (gWg s.wgs k).day = x := ⟨_, rfl⟩
    rw [he1] at r1 HA1 hwk
    clear he1
    obtain ⟨e2, he2⟩ : ∃ x, (gWg s.wgs k).g.lo = x := ⟨_, rfl⟩
    rw [he2] at r2 HA1
    clear he2
    obtain ⟨e3, he3⟩ : ∃ x, (gWg s.wgs k).g.hi = x := ⟨_, rfl⟩
    rw [he3] at r3 HA1
    clear he3
    obtain ⟨r, rfl⟩ : ∃ r : Nat, e0 = r := ⟨e0.toNat, by omega⟩
    obtain ⟨d, rfl⟩ : ∃ d : Nat, e1 = d := ⟨e1.toNat, by omega⟩
    simp only [Int.toNat_natCast] at HA1
    have hrN : r < s.rooms.length := by omega
    have hdD : d < D := by omega
    have hrI : (r : Int) < (s.rooms.length : Int) := by omega
    have hdI : (d : Int) < (D : Int) := by omega
    clear hwk
    have qm : Blk (W.alloc (.cells #[.int .i64 (r : Int), .int .i64 (d : Int), .int .i64 e2, .int .i64 e3] 72)) W.heap.size 72 #[.int .i64 (r : Int), .int .i64 (d : Int), .int .i64 e2, .int .i64 e3] := Blk.new _ _ _
    go_upto_region 5 with fail
    have N_V := ex_alloc (Below.refl W.heap.size W) (.cells #[.int .i64 (r : Int), .int .i64 (d : Int), .int .i64 e2, .int .i64 e3] 72)
    clear a3 l0 r0 r1 r2 r3 lbr
    replace q0 := q0.below N_V q0.lt
    have B_V := ex_trans hb1 N_V
    obtain ⟨pm, hpm⟩ : ∃ p, W.heap.size = p := ⟨_, rfl⟩
    rw [hpm] at qm ⊢
    clear hpm N_V
    generalize W.alloc (.cells #[.int .i64 (r : Int), .int .i64 (d : Int), .int .i64 e2, .int .i64 e3] 72) = V at *
    have D0 := (Below.refl V.heap.size V).drew
    have BV := B_V
    refine wp_region_ext_mix 22 [(false, 0), (false, 1), (true, 2), (false, 3), (false, 4), (false, 5), (false, 6), (false, 7), (false, 8), (false, 9), (false, 10), (false, 11), (false, 12), (false, 13), (false, 14), (false, 15), (false, 16), (false, 17), (false, 18), (false, 19), (true, 20), (false, 21)] (by kernel_rfl) (by kernel_rfl) (by intro d _ _ _ _ h; cases d <;> exact h) ?_
    obtain ⟨bS, oS, rfl, hbS, xS⟩ := (hSo.below BV) (show 0 < s.rooms.length by omega)
    have y0 : V.cell? ⟨bS, oS + r, none⟩ = some (.slice (rA r) D (rc r)) := by have := xS r 0 hrN (by omega); rw [show oS + (r * 1 + 0) = oS + r by omega] at this; exact this
    obtain ⟨bR, oR, hRA, hbR, xR⟩ := ((hSr r hrN).below BV) (show 0 < D by omega)
    have y1 : V.cell? ⟨bR, oR + d, none⟩ = some (.int .i64 (S r d)) := by have := xR d 0 hdD (by omega); rw [show oR + (d * 1 + 0) = oR + d by omega] at this; exact this
    rw [hRA] at y0
    clear xS xR hRA
    have lbS : bS < V.heap.size := by have := BV.size; omega
    have lbR : bR < V.heap.size := by have := BV.size; omega
    obtain ⟨sv, hsv⟩ : ∃ x, S r d = x := ⟨_, rfl⟩
    rw [hsv] at y1 HA1
    clear hsv
    have m0 : V.cell? ⟨pm, 0, none⟩ = some (.int .i64 (r : Int)) := qm.cell 0
    have m1 : V.cell? ⟨pm, 1, none⟩ = some (.int .i64 (d : Int)) := qm.cell 1
    have m2 : V.cell? ⟨pm, 2, none⟩ = some (.int .i64 e2) := qm.cell 2
    have m3 : V.cell? ⟨pm, 3, none⟩ = some (.int .i64 e3) := qm.cell 3
    have lm := qm.lt
    repeat (refine mix_quiet rfl ?_; go_big_quiet_step (fail); refine wpQuiet_nil ?_)
    obtain ⟨Y, hY⟩ : ∃ Y, V.drew = Y := ⟨_, rfl⟩
    rw [hY] at D0 ⊢
    clear hY
    have BY := ex_trans BV D0
    have hoY := (ho.below BY).up BY.size
    refine mix_loud rfl ?_
    go_wp2_with fail
    refine (Has_ref Ao co o k Y hoY hlo).mono ?_
    rintro e Y2 ⟨rfl, hY2⟩
    have X2 := ex_trans D0 hY2
    have B2 := ex_trans BV X2
    cases hH : hasB o k
    · have HH := Lib.hid hH
      clear hH
      go_wp2_with fail
      refine ⟨inEx X2, ?_⟩
      repeat (refine mix_quiet rfl ?_; go_big_quiet_step (fail); refine wpQuiet_nil ?_)
      refine mix_loud rfl ?_
      go_wp2_with fail
      refine (In_ref _ _ _ _).mono ?_
      rintro e w' ⟨rfl, rfl⟩
      go_wp2_with fail
      refine ⟨inEx X2, ?_⟩
      repeat (refine mix_quiet rfl ?_; go_big_quiet_step (fail); refine wpQuiet_nil ?_)
      refine mix_nil (r := [_]) rfl ?_
      cases hI : inB sv e2 e3
      · have HR : Hid (agrL s S o = false) := Lib.hid (allTo_false (f := agr1 s S o) hlt (by rw [HA1.out, HH.out, hI]; rfl))
        clear hI
        go_wp2
        go_ret
        exact ⟨ret_bool HR.out.symm, B2⟩
      · have HI := Lib.hid hI
        clear hI
        have HO2 : Hid (∀ j, j < k + 1 → agr1 s S o j = true) := Lib.hid (fun j hj => by
          rcases Nat.lt_succ_iff_lt_or_eq.1 hj with h | h
          · exact HO.out j h
          · subst h; rw [HA1.out, HH.out, HI.out]; rfl)
        replace q0 := (q0.below X2 q0.lt)
        go_wp2_with fail
        refine ⟨⟨⟨k + 1, by omega, B2, q0, HO2, exFrame (by kernel_rfl)⟩⟩, ?_⟩
        show s.wgs.length - (intOf (.int .i64 ((k : Int) + 1))).toNat < s.wgs.length - (intOf (.int .i64 (k : Int))).toNat
        simp [intOf]
        omega
    · have HH := Lib.hid hH
      clear hH
      go_wp2_with fail
      refine ⟨inEx X2, ?_⟩
      repeat (refine mix_quiet rfl ?_; go_big_quiet_step (fail); refine wpQuiet_nil ?_)
      refine mix_loud rfl ?_
      go_wp2_with fail
      refine ⟨inEx X2, ?_⟩
      repeat (refine mix_quiet rfl ?_; go_big_quiet_step (fail); refine wpQuiet_nil ?_)
      refine mix_nil (r := [_]) rfl ?_
      have HO2 : Hid (∀ j, j < k + 1 → agr1 s S o j = true) := Lib.hid (fun j hj => by
        rcases Nat.lt_succ_iff_lt_or_eq.1 hj with h | h
        · exact HO.out j h
        · subst h; rw [HA1.out, HH.out]; rfl)
      replace q0 := (q0.below X2 q0.lt)
      go_wp2_with fail
      refine ⟨⟨⟨k + 1, by omega, B2, q0, HO2, exFrame (by kernel_rfl)⟩⟩, ?_⟩
      show s.wgs.length - (intOf (.int .i64 ((k : Int) + 1))).toNat < s.wgs.length - (intOf (.int .i64 (k : Int))).toNat
      simp [intOf]
      omega
  have HR : Hid (agrL s S o = true) := Lib.hid (allTo_iff.2 (fun j hj => HO.out j (by omega)))
  have a3 : W.cell? ⟨w.heap.size, 3, none⟩ = some (.slice Aw s.wgs.length cw) := q0.cell 3
  obtain rfl : k = s.wgs.length := by omega
  go_wp2
  go_ret
  exact ⟨ret_bool HR.out.symm, hb1⟩
end Go.Proofs.Ythihdiilokdidaa
end

section
namespace Go.Proofs.Ythihdiilokdidaa
open Go.RowKit
attribute [local go_sem] Ex.cell? Ex.frozen? Gx.cell?

/-- is there one below? the ranges over those below. -/
def anyTo (p : Nat → Bool) : Nat → Bool
  | 0 => false
  | n + 1 => anyTo p n || p n
def accR (p : Nat → Bool) (S : Nat → Int) : Nat → Rg
  | 0 => ⟨0, 0⟩
  | n + 1 => if p n = true then (if anyTo p n = true then ⟨min (accR p S n).lo (S n), max (accR p S n).hi (S n)⟩ else ⟨S n, S n⟩) else accR p S n
theorem anyTo_iff {p : Nat → Bool} : ∀ {n : Nat}, anyTo p n = true ↔ ∃ m, m < n ∧ p m = true
  | 0 => by simp [anyTo]
  | n + 1 => by
    simp only [anyTo, Bool.or_eq_true, anyTo_iff (n := n)]
    constructor
    · rintro (⟨m, h, hp⟩ | h)
      · exact ⟨m, by omega, hp⟩
      · exact ⟨n, by omega, h⟩
    · rintro ⟨m, h, hp⟩
      rcases Nat.lt_succ_iff_lt_or_eq.1 h with h | rfl
      · exact .inl ⟨m, h, hp⟩
      · exact .inr hp
theorem accR_ends {p : Nat → Bool} {S : Nat → Int} : ∀ {n : Nat}, anyTo p n = true → EndsOf (fun z => ∃ m, m < n ∧ p m = true ∧ S m = z) (accR p S n).lo (accR p S n).hi
  | 0, h => by simp [anyTo] at h
  | n + 1, h => by
    unfold accR
    by_cases hp : p n = true
    · rw [if_pos hp]
      by_cases ha : anyTo p n = true
      · rw [if_pos ha]
        refine (ends_snoc (z := S n) (accR_ends ha)).congr fun z => ?_
        constructor
        · rintro (⟨m, h1, h2, h3⟩ | rfl)
          · exact ⟨m, by omega, h2, h3⟩
          · exact ⟨n, by omega, hp, rfl⟩
        · rintro ⟨m, h1, h2, h3⟩
          rcases Nat.lt_succ_iff_lt_or_eq.1 h1 with h1 | rfl
          · exact .inl ⟨m, h1, h2, h3⟩
          · exact .inr h3.symm
      · rw [if_neg ha]
        have hno : ∀ m, m < n → p m = true → False := fun m hm hpm => ha (anyTo_iff.2 ⟨m, hm, hpm⟩)
        refine ⟨⟨n, by omega, hp, rfl⟩, ⟨n, by omega, hp, rfl⟩, ?_⟩
        rintro z ⟨m, h1, h2, h3⟩
        rcases Nat.lt_succ_iff_lt_or_eq.1 h1 with h1 | rfl
        · exact (hno m h1 h2).elim
        · subst h3; exact ⟨Int.le_refl _, Int.le_refl _⟩
    · rw [if_neg hp]
      have ha : anyTo p n = true := by
        rw [anyTo, Bool.or_eq_true] at h
        rcases h with h | h
        · exact h
        · exact absurd h hp
      refine (accR_ends ha).congr fun z => ?_
      constructor
      · rintro ⟨m, h1, h2, h3⟩; exact ⟨m, by omega, h2, h3⟩
      · rintro ⟨m, h1, h2, h3⟩
        rcases Nat.lt_succ_iff_lt_or_eq.1 h1 with h1 | rfl
        · exact ⟨m, h1, h2, h3⟩
        · exact absurd h2 hp
/-- the weighings that are left out, by a list. -/
theorem hasB_out (o : List Int) (i : Nat) : hasB o (i : Int) = outL o i := by
  rw [Bool.eq_iff_iff, hasB_iff]
  unfold outL
  rw [decide_eq_true_iff]
noncomputable def gdB (s : Ws) (o : List Int) (n : Nat) : Bool := truB (goodN s.wo (outL o) n)

theorem agrL_iff {s : Ws} {S : Nat → Nat → Int} {o : List Int} : agrL s S o = true ↔ ∀ i, i < s.wgs.length → outL o i = false → inR (S (gWg s.wgs i).room.toNat (gWg s.wgs i).day.toNat) (gWg s.wgs i).g := by
  unfold agrL
  rw [allTo_iff]
  constructor
  · intro h i hi ho
    have := h i hi
    unfold agr1 at this
    rw [Bool.or_eq_true, hasB_out] at this
    rcases this with h1 | h1
    · rw [h1] at ho; cases ho
    · exact inB_iff.1 h1
  · intro h i hi
    unfold agr1
    rw [Bool.or_eq_true, hasB_out]
    cases ho : outL o i
    · exact .inr (inB_iff.2 (h i hi ho))
    · exact .inl rfl
theorem good_of_nth {s : Ws} {n : Nat} {t : Tt} {o : List Int} (hw : WoOk s.wo) (h : IsNth s n t) : gdB s o n = (canT s t && agrL s (stk s.wo t.F t.V t.G) o) := by
  refine truB_eq ?_
  rw [Bool.and_eq_true, canT_iff, agrL_iff]
  have hs := h.same
  have ht := nth_tru hw n
  constructor
  · rintro ⟨h1, h2⟩
    refine SameT.good (F := t.F) (V := t.V) (G := t.G) ⟨fun r hr => (hs.fst r hr).symm, fun r d hr hd => (hs.vap r d hr hd).symm, fun i hi => (hs.mov i hi).symm⟩ hw ⟨⟨fun r hr => ?_, fun r d hr hd => ?_, fun i hi => ?_⟩, h1, h2⟩
    · rw [← hs.fst r hr]; exact ht.fst r hr
    · rw [← hs.vap r d hr hd]; exact ht.vap r d hr hd
    · rw [← hs.mov i hi]; exact ht.mov i hi
  · intro hg
    have := hs.good hw hg
    exact ⟨this.can, this.agr⟩
/-- of few truths: there is a good one, and its ranges, by number. -/
theorem any_good {s : Ws} {o : List Int} (hw : WoOk s.wo) {n : Nat} (hn : n = prodW (wdP s.wo) (placesP s.wo)) : anyTo (gdB s o) n = truB (Good s.wo (outL o)) := by
  refine (truB_eq ?_).symm
  rw [anyTo_iff, good_iff hw, hn]
  exact exists_congr fun m => and_congr_right fun _ => truB_iff
theorem acc_stk {s : Ws} {o : List Int} (hw : WoOk s.wo) {n : Nat} (hn : n = prodW (wdP s.wo) (placesP s.wo)) (hg : Good s.wo (outL o)) {r d : Nat} (hr : r < s.rooms.length) (hd : d < s.wo.days) : accR (gdB s o) (fun m => stkN s.wo m r d) n = stkR s.wo (outL o) r d := by
  have ha : anyTo (gdB s o) n = true := by rw [any_good hw hn]; exact truB_iff.2 hg
  have he := (accR_ends (S := fun m => stkN s.wo m r d) ha).congr (Z' := StkZ s.wo (outL o) r d) fun z => by
    rw [stkZ_iff hw (outL o) hr hd, hn]
    exact exists_congr fun m => and_congr_right fun _ => and_congr truB_iff Iff.rfl
  unfold stkR
  rw [rngOf_eq he]

/-- rows of ranges that the call has made, a block each. -/
def rgV (D : Nat) (f : Nat → Rg) : Nat → Value := fun x => .int .i64 (if x % 2 = 0 then (f (x / 2)).lo else (f (x / 2)).hi)
structure ROws (W : World) (B : Nat) (v : Value) (g : Nat → Nat) (m D : Nat) (f : Nat → Nat → Rg) : Prop where
  own : W.ownsRow B 53 1 v m ((List.range m).map fun i => .slice (some ⟨g i, 0, none⟩) D D)
  row : ∀ i, i < m → B ≤ g i ∧ VArr W (g i) 52 (D * 2) (rgV D (f i))
  inj : ∀ i j, i < m → j < m → g i = g j → i = j
section
variable {W W' : World} {B m D : Nat} {v : Value} {g : Nat → Nat} {f : Nat → Nat → Rg}
theorem ROws.nil : ROws W B (.slice none 0 0) g 0 D f := ⟨⟨by simp, .inl ⟨rfl, rfl⟩⟩, fun i hi => by omega, fun i j hi => by omega⟩
theorem ROws.below (h : ROws W B v g m D f) (hb : Below W.heap.size W W') : ROws W' B v g m D f := ⟨own_below h.own hb, fun i hi => ⟨(h.row i hi).1, (h.row i hi).2.below hb⟩, h.inj⟩
theorem ROws.fr {R : Nat → Prop} (h : ROws W B v g m D f) (hf : Fr R W W') (hn : ∀ b, B ≤ b → ¬ R b) : ROws W' B v g m D f :=
  ⟨own_fr h.own hf (fun b hb => hn b (own_ge h.own hb)), fun i hi => ⟨(h.row i hi).1, (h.row i hi).2.fr hf (hn _ (h.row i hi).1)⟩, h.inj⟩
theorem ROws.ext {f' : Nat → Nat → Rg} (h : ROws W B v g m D f) (he : ∀ i d, i < m → d < D → f i d = f' i d) : ROws W B v g m D f' :=
  ⟨h.own, fun i hi => ⟨(h.row i hi).1, (h.row i hi).2.ext fun x hx => by unfold rgV; rw [he i (x / 2) hi (by omega)]⟩, h.inj⟩
/-- where a row lies, and its cells. -/
theorem ROws.at_ (h : ROws W B v g m D f) {i : Nat} (hi : i < m) : ∃ b cap, v = .slice (some ⟨b, 0, none⟩) m cap ∧ B ≤ b ∧ b < W.heap.size ∧ W.cell? ⟨b, i, none⟩ = some (.slice (some ⟨g i, 0, none⟩) D D) := by
  obtain ⟨b, cap, e, hb, hl, _, _, hc, _⟩ := own_cell h.own (by omega)
  refine ⟨b, cap, e, hb, hl, ?_⟩
  rw [hc i (by simpa using hi)]
  simp [hi]
theorem ROws.cell (h : ROws W B v g m D f) {i d : Nat} (hi : i < m) (hd : d < D) : W.cell? ⟨g i, d * 2, none⟩ = some (.int .i64 (f i d).lo) ∧ W.cell? ⟨g i, d * 2 + 1, none⟩ = some (.int .i64 (f i d).hi) := by
  have h1 := (h.row i hi).2.cell (i := d * 2) (by omega)
  have h2 := (h.row i hi).2.cell (i := d * 2 + 1) (by omega)
  refine ⟨?_, ?_⟩
  · rw [h1]; unfold rgV; rw [if_pos (by omega), show d * 2 / 2 = d by omega]
  · rw [h2]; unfold rgV; rw [if_neg (by omega), show (d * 2 + 1) / 2 = d by omega]
theorem ROws.frz (h : ROws W B v g m D f) {i : Nat} (hi : i < m) (k : Nat) : W.frozen? ⟨g i, k, none⟩ = false := (h.row i hi).2.frozen k
/-- a range is written. -/
def updR (f : Nat → Nat → Rg) (i d : Nat) (r : Rg) : Nat → Nat → Rg := fun i' d' => if i' = i ∧ d' = d then r else f i' d'
theorem ROws.put (h : ROws W B v g m D f) {i d : Nat} (hi : i < m) (hd : d < D) (a b : Int) : ROws ((W.setCell ⟨g i, d * 2, none⟩ (.int .i64 a)).setCell ⟨g i, d * 2 + 1, none⟩ (.int .i64 b)) B v g m D (updR f i d ⟨a, b⟩) := by
  obtain ⟨cs, hq, _⟩ := (h.row i hi).2
  have hF : Fr (fun x => x = g i) W ((W.setCell ⟨g i, d * 2, none⟩ (.int .i64 a)).setCell ⟨g i, d * 2 + 1, none⟩ (.int .i64 b)) := (Fr.set (R := fun x => x = g i) W (g i) (d * 2) (.int .i64 a) rfl).andSet rfl
  refine ⟨own_fr h.own hF (fun x hx e => own_blkne h.own hq (by decide) (by rw [hx, show x = g i from e])), fun j hj => ⟨(h.row j hj).1, ?_⟩, h.inj⟩
  by_cases hji : j = i
  · subst hji
    refine (((h.row j hj).2.set (.int .i64 a) (show d * 2 < D * 2 by omega)).set (.int .i64 b) (show d * 2 + 1 < D * 2 by omega)).ext fun x hx => ?_
    show (if x = d * 2 + 1 then Value.int .i64 b else if x = d * 2 then Value.int .i64 a else rgV D (f j) x) = rgV D (updR f j d ⟨a, b⟩ j) x
    unfold rgV updR
    by_cases h1 : x = d * 2 + 1
    · rw [if_pos h1, if_neg (by omega), if_pos ⟨rfl, by omega⟩]
    · rw [if_neg h1]
      by_cases h2 : x = d * 2
      · rw [if_pos h2, if_pos (by omega), if_pos ⟨rfl, by omega⟩]
      · rw [if_neg h2, if_neg (show ¬ (j = j ∧ x / 2 = d) by omega)]
  · have hne : g j ≠ g i := fun e => hji (h.inj j i hj hi e)
    refine ((h.row j hj).2.fr hF hne).ext fun x hx => ?_
    unfold rgV updR
    rw [if_neg (show ¬ (j = i ∧ x / 2 = d) from fun e => hji e.1)]
/-- a row more. -/
theorem ROws.push {v' : Value} {gn : Nat} {f' : Nat → Nat → Rg} (h : ROws W B v g m D f) (hg : W.grownBy W' v.ownBlock) (ho : W'.ownsRow B 53 1 v' (m + 1) (((List.range m).map fun i => .slice (some ⟨g i, 0, none⟩) D D) ++ [.slice (some ⟨gn, 0, none⟩) D D]))
    (hn : VArr W gn 52 (D * 2) (rgV D (f' m))) (hB : B ≤ gn) (hne : ∀ i, i < m → g i ≠ gn) (hf : ∀ i d, i < m → d < D → f i d = f' i d) : ROws W' B v' (fun i => if i = m then gn else g i) (m + 1) D f' := by
  have key : ∀ {b : Nat} {k : Nat → Value}, VArr W b 52 (D * 2) k → VArr W' b 52 (D * 2) k := fun {b k} hb => by
    obtain ⟨cs, h1, h2, h3⟩ := hb
    exact ⟨cs, h1.grown hg (fun e => own_blkne h.own h1 (by decide) e.symm), h2, h3⟩
  refine ⟨?_, fun i hi => ?_, fun i j hi hj e => ?_⟩
  · rw [List.range_succ, List.map_append, List.map_singleton]
    rw [show (List.range m).map (fun i => Value.slice (some ⟨if i = m then gn else g i, 0, none⟩) D D) = (List.range m).map fun i => Value.slice (some ⟨g i, 0, none⟩) D D from List.map_congr_left fun i hi => by rw [if_neg (by have := List.mem_range.1 hi; omega)]]
    rw [if_pos rfl]
    exact ho
  · by_cases him : i = m
    · subst him
      show B ≤ (if i = i then gn else g i) ∧ VArr W' (if i = i then gn else g i) _ _ _
      rw [if_pos rfl]
      exact ⟨hB, key hn⟩
    · show B ≤ (if i = m then gn else g i) ∧ VArr W' (if i = m then gn else g i) _ _ _
      rw [if_neg him]
      have hi' : i < m := by omega
      exact ⟨(h.row i hi').1, (key (h.row i hi').2).ext fun x hx => by unfold rgV; rw [hf i (x / 2) hi' (by omega)]⟩
  · by_cases him : i = m <;> by_cases hjm : j = m <;> simp only [him, hjm, if_true, if_false] at e
    · omega
    · exact (hne j (by omega) e.symm).elim
    · exact (hne i (by omega) e).elim
    · exact h.inj i j (by omega) (by omega) e
/-- as arguments of later calls. -/
theorem ROws.lays (h : ROws W B v g m D f) : ∃ A c, v = .slice A m c ∧ RgsIn W W.heap.size A m D f (fun i => some ⟨g i, 0, none⟩) (fun _ => D) := by
  have hrow : ∀ k, k < m → SlAt W W.heap.size 2 (some ⟨g k, 0, none⟩) D (fRg (f k)) := fun k hk _ => ⟨g k, 0, rfl, (h.row k hk).2.lt, fun d j hd hj => by
    have := h.cell hk hd
    match j, hj with
    | 0, _ => rw [Nat.zero_add]; exact this.1
    | 1, _ => rw [Nat.zero_add]; exact this.2⟩
  by_cases hm : m = 0
  · subst hm
    rcases h.own.2 with ⟨rfl, _⟩ | ⟨b, cap, cur, rfl, _⟩
    · exact ⟨none, 0, rfl, fun hn => by omega, fun k hk => by omega⟩
    · exact ⟨_, _, rfl, fun hn => by omega, fun k hk => by omega⟩
  · obtain ⟨b, cap, rfl, hb, hl, _, _, hc, _⟩ := own_cell h.own (by omega)
    refine ⟨_, _, rfl, fun _ => ⟨b, 0, rfl, hl, fun k j hk hj => ?_⟩, hrow⟩
    have hj0 : j = 0 := by omega
    subst hj0
    rw [show 0 + (k * 1 + 0) = k by omega, hc k (by simpa using hk)]
    simp [hk]
end
end Go.Proofs.Ythihdiilokdidaa
end

section
namespace Go.Proofs.Ythihdiilokdidaa
open Go.RowKit
attribute [local go_sem] Ex.cell? Ex.frozen?

theorem min_step {n w : Nat} {x : Int} (hx : x = (w : Int)) : min (1048576 : Int) ((n : Int) * x) = ((min 1048576 (n * w) : Nat) : Int) := by
  subst hx
  rw [← Int.natCast_mul]
  generalize n * w = z
  omega
theorem mul_in {n : Nat} {x : Int} (hn : n ≤ 1048576) (hx : 0 ≤ x ∧ x ≤ 10000) : IntKind.i64.wrap ((n : Int) * x) = (n : Int) * x := by
  refine IntWalk.i64_in _ ?_
  have h1 : 0 ≤ (n : Int) * x := Int.mul_nonneg (by omega) hx.1
  have h2 : (n : Int) * x ≤ 1048576 * 10000 := Int.mul_le_mul (by omega) hx.2 hx.1 (by omega)
  omega
/-- a place more. -/
theorem wide_step {w : Wo} (hw : WoOk w) {k n : Nat} (hk : k < placesP w) (hn : n = wideTo (wdP w) k) {r : Rg} (hr : rgP w k = r) : n ≤ 1048576 ∧ 0 ≤ r.hi - r.lo + 1 ∧ r.hi - r.lo + 1 ≤ 10000 ∧ ∃ n' : Nat, min (1048576 : Int) ((n : Int) * (r.hi - r.lo + 1)) = (n' : Int) ∧ n' = wideTo (wdP w) (k + 1) := by
  have h1 := wideTo_bd (wd := wdP w) (K := k) (fun j hj => wdP_pos hw (by omega))
  have h2 := wdP_pos hw hk
  have h3 : wdP w k = (r.hi - r.lo + 1).toNat := by unfold wdP wdR; rw [hr]
  have h4 : r.hi - r.lo + 1 ≤ 10000 := by
    rw [← hr]
    unfold rgP
    split
    · rename_i h
      have hq : k / (w.days + 1) < w.rooms.length := Nat.div_lt_of_lt_mul (by rw [Nat.mul_comm]; exact h)
      have := hw.rooms _ hq
      split <;> omega
    · have := hw.grams (k - w.rooms.length * (w.days + 1)) (by unfold placesP at hk; omega)
      omega
  refine ⟨by omega, by omega, h4, min 1048576 (n * wdP w k), min_step (by omega), ?_⟩
  rw [wideTo, hn]
set_option maxRecDepth 100000 in
set_option maxHeartbeats 3200000 in
theorem Wide_ref (s : Ws) (Ar Am Aw : Option Addr) (cr cm cw : Nat) (w : World) (hs : WsIn w w.heap.size s Ar Am Aw) (hw : WoOk s.wo) (hd : s.days = (s.wo.days : Int)) :
    Calls Try.prog 37 #[.agg #[.slice Ar s.rooms.length cr, .int .i64 s.days, .slice Am s.moves.length cm, .slice Aw s.wgs.length cw]] w fun e w' => e = .returned (.int .i64 ((wideTo (wdP s.wo) (placesP s.wo) : Nat) : Int)) ∧ Below w.heap.size w w' := by
  have hD6 : 1 ≤ s.wo.days ∧ s.wo.days ≤ 6 := hw.days
  have hr3 : s.rooms.length ≤ 3 := hw.len.2.1
  have hm12 : s.moves.length ≤ 12 := hw.len.2.2.1
  have HDs := Lib.hid hd
  obtain ⟨D, hD⟩ : ∃ D, s.wo.days = D := ⟨_, rfl⟩
  have HD := Lib.hid hD
  have HSD : Hid (s.days = (D : Int)) := Lib.hid (by rw [hd, hD])
  rw [hD] at hD6
  clear hD hd
  have hb1 := ex_alloc (Below.refl w.heap.size w) (.cells #[.slice Ar s.rooms.length cr, .int .i64 s.days, .slice Am s.moves.length cm, .slice Aw s.wgs.length cw] 26)
  have q0 : Blk (w.alloc (.cells #[.slice Ar s.rooms.length cr, .int .i64 s.days, .slice Am s.moves.length cm, .slice Aw s.wgs.length cw] 26)) w.heap.size 26 #[.slice Ar s.rooms.length cr, .int .i64 s.days, .slice Am s.moves.length cm, .slice Aw s.wgs.length cw] := Blk.new _ _ _
  go_enter Try.func37, Try.ntmps37
  go_wp2_with fail
  generalize w.alloc (.cells #[.slice Ar s.rooms.length cr, .int .i64 s.days, .slice Am s.moves.length cm, .slice Aw s.wgs.length cw] 26) = V at *
  refine wp_loop (fun a W => Rel (fun a W => ∃ k : Nat, k ≤ s.rooms.length ∧ Below w.heap.size w W ∧ Blk W w.heap.size 26 #[.slice Ar s.rooms.length cr, .int .i64 s.days, .slice Am s.moves.length cm, .slice Aw s.wgs.length cw] ∧ ∃ n : Nat, Hid (n = wideTo (wdP s.wo) (k * (D + 1))) ∧ ∃ u : Nat → Value, a = ⟨List.toArray (u 0 :: .pointer (some ⟨w.heap.size, 0, none⟩) :: u 2 :: .int .i64 (n : Int) :: .int .i64 (k : Int) :: u 5 :: u 6 :: u 7 :: u 8 :: u 9 :: u 10 :: u 11 :: u 12 :: u 13 :: u 14 :: u 15 :: u 16 :: u 17 :: u 18 :: u 19 :: u 20 :: u 21 :: u 22 :: u 23 :: u 24 :: u 25 :: u 26 :: u 27 :: u 28 :: u 29 :: u 30 :: u 31 :: u 32 :: u 33 :: u 34 :: u 35 :: u 36 :: u 37 :: u 38 :: u 39 :: u 40 :: u 41 :: u 42 :: u 43 :: u 44 :: u 45 :: u 46 :: u 47 :: u 48 :: u 49 :: u 50 :: u 51 :: u 52 :: u 53 :: u 54 :: u 55 :: u 56 :: u 57 :: u 58 :: u 59 :: u 60 :: u 61 :: u 62 :: u 63 :: u 64 :: u 65 :: u 66 :: u 67 :: u 68 :: u 69 :: u 70 :: u 71 :: u 72 :: u 73 :: u 74 :: []), []⟩) a W) (fun a _ => s.rooms.length - (intOf (a.tmps.getD 4 undef)).toNat) ⟨⟨0, by omega, hb1, q0, 1, Lib.hid (by simp [wideTo]), exFrame (by kernel_rfl)⟩⟩ ?_
  clear hb1 q0 V
  rintro a W ⟨⟨k, hk, hb, q0, n, HN, u, rfl⟩⟩
  have a0 : W.cell? ⟨w.heap.size, 0, none⟩ = some (.slice Ar s.rooms.length cr) := q0.cell 0
  have a1 : W.cell? ⟨w.heap.size, 1, none⟩ = some (.int .i64 s.days) := q0.cell 1
  have a2 : W.cell? ⟨w.heap.size, 2, none⟩ = some (.slice Am s.moves.length cm) := q0.cell 2
  have a3 : W.cell? ⟨w.heap.size, 3, none⟩ = some (.slice Aw s.wgs.length cw) := q0.cell 3
  have l0 := q0.lt
  rw [HSD.out] at a1
  by_cases hlt : k < s.rooms.length
  · have hkn : (k : Int) < (s.rooms.length : Int) := by omega
    obtain ⟨br, orr, hAr, hbr, r0, r1, r2, r3⟩ := IsRms.at_ (hs.rooms.below hb) hlt
    rw [hAr] at a0
    have lbr : br < W.heap.size := by have := hb.size; omega
    have hpl := place_lt (R := s.rooms.length) (D := D + 1) (i := k) (j := 0) hlt (by omega)
    obtain ⟨hn1, hx1, hx2, n', hmn, hn'⟩ := wide_step hw (k := k * (D + 1)) (by unfold placesP; rw [HD.out]; show k * (D + 1) < s.rooms.length * (D + 1) + s.moves.length; omega) HN.out (r := (gRm s.rooms k).fst) (by rw [← HD.out]; exact rgP_fst hlt)
    have HV : Hid (∀ j, j < D → rgP s.wo (k * (D + 1) + 1 + j) = (gRm s.rooms k).vap) := Lib.hid (fun j hj => by rw [← HD.out]; exact rgP_vap hlt (by rw [HD.out]; exact hj))
    obtain ⟨e0, he0⟩ : ∃ x, (gRm s.rooms k).fst.lo = x := ⟨_, rfl⟩
    rw [he0] at r0
    obtain ⟨e1, he1⟩ : ∃ x, (gRm s.rooms k).fst.hi = x := ⟨_, rfl⟩
    rw [he1] at r1
    obtain ⟨e2, he2⟩ : ∃ x, (gRm s.rooms k).vap.lo = x := ⟨_, rfl⟩
    rw [he2] at r2
    obtain ⟨e3, he3⟩ : ∃ x, (gRm s.rooms k).vap.hi = x := ⟨_, rfl⟩
    rw [he3] at r3
    rw [he1, he0] at hx1 hx2 hmn
    have HE2 := Lib.hid he2
    have HE3 := Lib.hid he3
    have HN' := Lib.hid hn'
    have hmu := mul_in hn1 ⟨hx1, hx2⟩
    have HMN := Lib.hid hmn
    clear he0 he1 he2 he3 hn' hmn hpl
    have NR := ex_alloc (Below.refl W.heap.size W) (.cells #[.int .i64 e0, .int .i64 e1, .int .i64 e2, .int .i64 e3] 76)
    have qr : Blk (W.alloc (.cells #[.int .i64 e0, .int .i64 e1, .int .i64 e2, .int .i64 e3] 76)) W.heap.size 76 #[.int .i64 e0, .int .i64 e1, .int .i64 e2, .int .i64 e3] := Blk.new _ _ _
    go_upto_region 7 with fail
    rw [HMN.out]
    clear hmu HMN hx1 hx2 hn1
    replace q0 := q0.below NR q0.lt
    have hb2 := ex_trans hb NR
    obtain ⟨pr, hpr⟩ : ∃ p, W.heap.size = p := ⟨_, rfl⟩
    rw [hpr] at qr ⊢
    clear hpr NR a0 a1 a2 a3 l0 r0 r1 r2 r3 lbr
    generalize W.alloc (.cells #[.int .i64 e0, .int .i64 e1, .int .i64 e2, .int .i64 e3] 76) = V at *
    go_wp2_with fail
    refine wp_loop (fun a W2 => Rel (fun a W2 => ∃ j : Nat, j ≤ D ∧ Below w.heap.size w W2 ∧ Blk W2 w.heap.size 26 #[.slice Ar s.rooms.length cr, .int .i64 s.days, .slice Am s.moves.length cm, .slice Aw s.wgs.length cw] ∧ Blk W2 pr 76 #[.int .i64 e0, .int .i64 e1, .int .i64 e2, .int .i64 e3] ∧ ∃ m : Nat, Hid (m = wideTo (wdP s.wo) (k * (D + 1) + 1 + j)) ∧ ∃ u : Nat → Value, a = ⟨List.toArray (u 0 :: .pointer (some ⟨w.heap.size, 0, none⟩) :: u 2 :: .int .i64 (m : Int) :: .int .i64 (k : Int) :: .pointer (some ⟨pr, 0, none⟩) :: .int .i64 (j : Int) :: u 7 :: u 8 :: u 9 :: u 10 :: u 11 :: u 12 :: u 13 :: u 14 :: u 15 :: u 16 :: u 17 :: u 18 :: u 19 :: u 20 :: u 21 :: u 22 :: u 23 :: u 24 :: u 25 :: u 26 :: u 27 :: u 28 :: u 29 :: u 30 :: u 31 :: u 32 :: u 33 :: u 34 :: u 35 :: u 36 :: u 37 :: u 38 :: u 39 :: u 40 :: u 41 :: u 42 :: u 43 :: u 44 :: u 45 :: u 46 :: u 47 :: u 48 :: u 49 :: u 50 :: u 51 :: u 52 :: u 53 :: u 54 :: u 55 :: u 56 :: u 57 :: u 58 :: u 59 :: u 60 :: u 61 :: u 62 :: u 63 :: u 64 :: u 65 :: u 66 :: u 67 :: u 68 :: u 69 :: u 70 :: u 71 :: u 72 :: u 73 :: u 74 :: []), []⟩) a W2) (fun a _ => D - (intOf (a.tmps.getD 6 undef)).toNat) ⟨⟨0, by omega, hb2, q0, qr, n', Lib.hid HN'.out, exFrame (by kernel_rfl)⟩⟩ ?_
    clear hb2 q0 qr V
    rintro a W2 ⟨⟨j, hj, hb2, q0, qr, m, HM, u2, rfl⟩⟩
    have a0 : W2.cell? ⟨w.heap.size, 0, none⟩ = some (.slice Ar s.rooms.length cr) := q0.cell 0
    have a1 : W2.cell? ⟨w.heap.size, 1, none⟩ = some (.int .i64 s.days) := q0.cell 1
    have a2 : W2.cell? ⟨w.heap.size, 2, none⟩ = some (.slice Am s.moves.length cm) := q0.cell 2
    have a3 : W2.cell? ⟨w.heap.size, 3, none⟩ = some (.slice Aw s.wgs.length cw) := q0.cell 3
    have l0 := q0.lt
    rw [HSD.out] at a1
    by_cases hlj : j < D
    · have x0 : W2.cell? ⟨pr, 0, none⟩ = some (.int .i64 e0) := qr.cell 0
      have x1 : W2.cell? ⟨pr, 1, none⟩ = some (.int .i64 e1) := qr.cell 1
      have x2 : W2.cell? ⟨pr, 2, none⟩ = some (.int .i64 e2) := qr.cell 2
      have x3 : W2.cell? ⟨pr, 3, none⟩ = some (.int .i64 e3) := qr.cell 3
      have lr := qr.lt
      have hjn : (j : Int) < (D : Int) := by omega
      have hpl := place_lt (R := s.rooms.length) (D := D + 1) (i := k) (j := 1 + j) hlt (by omega)
      obtain ⟨hn1, hx1, hx2, n2, hmn, hn2⟩ := wide_step hw (k := k * (D + 1) + 1 + j) (by unfold placesP; rw [HD.out]; show k * (D + 1) + 1 + j < s.rooms.length * (D + 1) + s.moves.length; omega) HM.out (r := (gRm s.rooms k).vap) (HV.out j hlj)
      rw [HE2.out, HE3.out] at hx1 hx2 hmn
      have hmu := mul_in hn1 ⟨hx1, hx2⟩
      have HN2 := Lib.hid hn2
      have HMN := Lib.hid hmn
      clear hn2 hmn hpl
      go_upto_region 9 with fail
      rw [HMN.out]
      clear hmu HMN hx1 hx2 hn1 x0 x1 x2 x3 lr a0 a1 a2 a3 l0
      go_wp2_with fail
      refine ⟨⟨⟨j + 1, by omega, hb2, q0, qr, n2, Lib.hid HN2.out, exFrame (by kernel_rfl)⟩⟩, ?_⟩
      show D - (intOf (.int .i64 ((j : Int) + 1))).toNat < D - (intOf (.int .i64 (j : Int))).toNat
      simp [intOf]
      omega
    · obtain rfl : j = D := by omega
      have HN3 : Hid (m = wideTo (wdP s.wo) ((k + 1) * (j + 1))) := Lib.hid (by rw [HM.out, show (k + 1) * (j + 1) = k * (j + 1) + 1 + j by rw [Nat.add_mul, Nat.one_mul]; omega])
      go_wp2_with fail
      refine ⟨⟨⟨k + 1, by omega, hb2, q0, m, HN3, exFrame (by kernel_rfl)⟩⟩, ?_⟩
      show s.rooms.length - (intOf (.int .i64 ((k : Int) + 1))).toNat < s.rooms.length - (intOf (.int .i64 (k : Int))).toNat
      simp [intOf]
      omega
  have hkn : ¬ (k : Int) < (s.rooms.length : Int) := by omega
  have hke : k = s.rooms.length := by omega
  have HN2 : Hid (n = wideTo (wdP s.wo) (s.rooms.length * (D + 1) + 0)) := Lib.hid (by rw [Nat.add_zero, ← hke]; exact HN.out)
  clear HN hke
  go_wp2_with fail
  refine wp_loop (fun a W2 => Rel (fun a W2 => ∃ i : Nat, i ≤ s.moves.length ∧ Below w.heap.size w W2 ∧ Blk W2 w.heap.size 26 #[.slice Ar s.rooms.length cr, .int .i64 s.days, .slice Am s.moves.length cm, .slice Aw s.wgs.length cw] ∧ ∃ m : Nat, Hid (m = wideTo (wdP s.wo) (s.rooms.length * (D + 1) + i)) ∧ ∃ u : Nat → Value, a = ⟨List.toArray (u 0 :: .pointer (some ⟨w.heap.size, 0, none⟩) :: u 2 :: .int .i64 (m : Int) :: u 4 :: u 5 :: u 6 :: .int .i64 (i : Int) :: u 8 :: u 9 :: u 10 :: u 11 :: u 12 :: u 13 :: u 14 :: u 15 :: u 16 :: u 17 :: u 18 :: u 19 :: u 20 :: u 21 :: u 22 :: u 23 :: u 24 :: u 25 :: u 26 :: u 27 :: u 28 :: u 29 :: u 30 :: u 31 :: u 32 :: u 33 :: u 34 :: u 35 :: u 36 :: u 37 :: u 38 :: u 39 :: u 40 :: u 41 :: u 42 :: u 43 :: u 44 :: u 45 :: u 46 :: u 47 :: u 48 :: u 49 :: u 50 :: u 51 :: u 52 :: u 53 :: u 54 :: u 55 :: u 56 :: u 57 :: u 58 :: u 59 :: u 60 :: u 61 :: u 62 :: u 63 :: u 64 :: u 65 :: u 66 :: u 67 :: u 68 :: u 69 :: u 70 :: u 71 :: u 72 :: u 73 :: u 74 :: []), []⟩) a W2) (fun a _ => s.moves.length - (intOf (a.tmps.getD 7 undef)).toNat) ⟨⟨0, by omega, hb, q0, n, HN2, exFrame (by kernel_rfl)⟩⟩ ?_
  clear hb q0 a0 a1 a2 a3 l0 W
  rintro a W ⟨⟨i, hi, hb, q0, m, HM, u2, rfl⟩⟩
  have a0 : W.cell? ⟨w.heap.size, 0, none⟩ = some (.slice Ar s.rooms.length cr) := q0.cell 0
  have a1 : W.cell? ⟨w.heap.size, 1, none⟩ = some (.int .i64 s.days) := q0.cell 1
  have a2 : W.cell? ⟨w.heap.size, 2, none⟩ = some (.slice Am s.moves.length cm) := q0.cell 2
  have a3 : W.cell? ⟨w.heap.size, 3, none⟩ = some (.slice Aw s.wgs.length cw) := q0.cell 3
  have l0 := q0.lt
  rw [HSD.out] at a1
  by_cases hli : i < s.moves.length
  · have hin : (i : Int) < (s.moves.length : Int) := by omega
    obtain ⟨br, orr, hAm, hbr, _, _, _, r3, r4⟩ := IsMvs.at_ (hs.moves.below hb) hli
    rw [hAm] at a2
    have lbr : br < W.heap.size := by have := hb.size; omega
    obtain ⟨hn1, hx1, hx2, n2, hmn, hn2⟩ := wide_step hw (k := s.rooms.length * (D + 1) + i) (by unfold placesP; rw [HD.out]; show s.rooms.length * (D + 1) + i < s.rooms.length * (D + 1) + s.moves.length; omega) HM.out (r := (gMv s.moves i).g) (by rw [← HD.out]; exact rgP_mov i)
    obtain ⟨e3, he3⟩ : ∃ x, (gMv s.moves i).g.lo = x := ⟨_, rfl⟩
    rw [he3] at r3
    obtain ⟨e4, he4⟩ : ∃ x, (gMv s.moves i).g.hi = x := ⟨_, rfl⟩
    rw [he4] at r4
    rw [he4, he3] at hx1 hx2 hmn
    have hmu := mul_in hn1 ⟨hx1, hx2⟩
    have HN2 := Lib.hid hn2
    have HMN := Lib.hid hmn
    clear hn2 hmn he3 he4
    go_upto_region 14 with fail
    have D0 := (Below.refl W.heap.size W).drew
    refine wp_region_ext_mix 19 [(false, 0), (false, 1), (false, 2), (false, 3), (false, 4), (false, 5), (false, 6), (false, 7), (false, 8), (false, 9), (false, 10), (false, 11), (false, 12), (false, 13), (false, 14), (false, 15), (false, 16), (false, 17), (true, 18)] (by kernel_rfl) (by kernel_rfl) (by intro d _ _ _ _ h; cases d <;> exact h) ?_
    repeat (refine mix_quiet rfl ?_; go_big_quiet_step (fail); refine wpQuiet_nil ?_)
    refine mix_loud rfl ?_
    go_wp2_with fail
    refine ⟨inEx D0, ?_⟩
    repeat (refine mix_quiet rfl ?_; go_big_quiet_step (fail); refine wpQuiet_nil ?_)
    refine mix_nil (r := [_]) rfl ?_
    rw [HMN.out]
    have hb2 := ex_trans hb D0
    replace q0 := q0.below D0 q0.lt
    clear hmu HMN hx1 hx2 hn1 r3 r4 a0 a1 a2 a3 l0
    go_wp2_with fail
    refine ⟨⟨⟨i + 1, by omega, hb2, q0, n2, Lib.hid HN2.out, exFrame (by kernel_rfl)⟩⟩, ?_⟩
    show s.moves.length - (intOf (.int .i64 ((i : Int) + 1))).toNat < s.moves.length - (intOf (.int .i64 (i : Int))).toNat
    simp [intOf]
    omega
  have hin : ¬ (i : Int) < (s.moves.length : Int) := by omega
  have HR : Hid (m = wideTo (wdP s.wo) (placesP s.wo)) := Lib.hid (by rw [HM.out]; unfold placesP; rw [HD.out, show i = s.moves.length by omega]; rfl)
  go_wp2
  go_ret
  exact ⟨ret_int (by rw [HR.out]), hb⟩
/-- a works is not valid, or has few truths. -/
noncomputable def fewB (s : Ws) : Bool := truB (ckWs s = 0 → wideTo (wdP s.wo) (placesP s.wo) ≤ 1500)
set_option maxRecDepth 100000 in
set_option maxHeartbeats 1600000 in
theorem few_any (s : Ws) (Ar Am Aw : Option Addr) (cr cm cw : Nat) (w : World) (hs : WsIn w w.heap.size s Ar Am Aw) :
    Calls Try.prog 16 #[.agg #[.slice Ar s.rooms.length cr, .int .i64 s.days, .slice Am s.moves.length cm, .slice Aw s.wgs.length cw]] w fun e w' => e = .returned (.bool (fewB s)) ∧ Below w.heap.size w w' := by
  have hb1 := ex_alloc (Below.refl w.heap.size w) (.cells #[.slice Ar s.rooms.length cr, .int .i64 s.days, .slice Am s.moves.length cm, .slice Aw s.wgs.length cw] 26)
  have q0 : Blk (w.alloc (.cells #[.slice Ar s.rooms.length cr, .int .i64 s.days, .slice Am s.moves.length cm, .slice Aw s.wgs.length cw] 26)) w.heap.size 26 #[.slice Ar s.rooms.length cr, .int .i64 s.days, .slice Am s.moves.length cm, .slice Aw s.wgs.length cw] := Blk.new _ _ _
  go_enter Try.func16, Try.ntmps16
  go_upto_region 1 with fail
  generalize w.alloc (.cells #[.slice Ar s.rooms.length cr, .int .i64 s.days, .slice Am s.moves.length cm, .slice Aw s.wgs.length cw] 26) = V at *
  have a0 : V.cell? ⟨w.heap.size, 0, none⟩ = some (.slice Ar s.rooms.length cr) := q0.cell 0
  have a1 : V.cell? ⟨w.heap.size, 1, none⟩ = some (.int .i64 s.days) := q0.cell 1
  have a2 : V.cell? ⟨w.heap.size, 2, none⟩ = some (.slice Am s.moves.length cm) := q0.cell 2
  have a3 : V.cell? ⟨w.heap.size, 3, none⟩ = some (.slice Aw s.wgs.length cw) := q0.cell 3
  have l0 := q0.lt
  go_wp2_with fail
  refine (fault_any s Ar Am Aw cr cm cw V (hs.go hb1)).mono ?_
  rintro e V1 ⟨rfl, h1⟩
  have hb2 := ex_trans hb1 h1
  replace q0 := q0.below h1 q0.lt
  clear a0 a1 a2 a3 l0
  have a0 : V1.cell? ⟨w.heap.size, 0, none⟩ = some (.slice Ar s.rooms.length cr) := q0.cell 0
  have a1 : V1.cell? ⟨w.heap.size, 1, none⟩ = some (.int .i64 s.days) := q0.cell 1
  have a2 : V1.cell? ⟨w.heap.size, 2, none⟩ = some (.slice Am s.moves.length cm) := q0.cell 2
  have a3 : V1.cell? ⟨w.heap.size, 3, none⟩ = some (.slice Aw s.wgs.length cw) := q0.cell 3
  have l0 := q0.lt
  by_cases hck : ckWs s = 0
  rotate_left
  · have HR : Hid (fewB s = true) := Lib.hid (truB_iff.2 (fun e => absurd e hck))
    have e1 : (ckWs s != 0) = true := by simp [hck]
    have e0 : (ckWs s == 0) = false := by simp [hck]
    generalize ckWs s = cc at *
    clear hck
    go_wp2
    go_ret
    exact ⟨ret_bool HR.out.symm, hb2⟩
  have HWD := Lib.hid (ckWs_iff.1 hck)
  have HR : Hid (fewB s = truB (wideTo (wdP s.wo) (placesP s.wo) ≤ 1500)) := Lib.hid (congrArg truB (propext ⟨fun h => h hck, fun h _ => h⟩))
  rw [hck]
  clear hck
  go_wp2_with fail
  refine (Wide_ref s Ar Am Aw cr cm cw V1 (hs.go hb2) HWD.out.1 HWD.out.2).mono ?_
  rintro e V2 ⟨rfl, h2⟩
  have hb3 := ex_trans hb2 h2
  obtain ⟨wd, hwd⟩ : ∃ x, wideTo (wdP s.wo) (placesP s.wo) = x := ⟨_, rfl⟩
  rw [hwd] at HR ⊢
  clear hwd
  by_cases h : wd ≤ 1500
  · have h' : (wd : Int) ≤ 1500 := by omega
    have HR2 : Hid (fewB s = true) := Lib.hid (by rw [HR.out, truB_iff.2 h])
    clear h
    go_wp2
    go_ret
    exact ⟨ret_bool HR2.out.symm, hb3⟩
  · have h' : ¬ (wd : Int) ≤ 1500 := by omega
    have HR2 : Hid (fewB s = false) := Lib.hid (by rw [HR.out, truB_false h])
    clear h
    go_wp2
    go_ret
    exact ⟨ret_bool ((decide_eq_false (by omega)).trans HR2.out.symm), hb3⟩
end Go.Proofs.Ythihdiilokdidaa
end
