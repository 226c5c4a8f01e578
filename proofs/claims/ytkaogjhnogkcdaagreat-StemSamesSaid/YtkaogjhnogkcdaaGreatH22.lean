/- Stem: Play (walk). · The reference's Agree (walk). · The reference's Zeros (plain): how far a day's loops have come. · The reference's leads: can a sink become another one? (walk). -/
import Derived.Test.YtkaogjhnogkcdaaGreatH15
import Derived.Test.YtkaogjhnogkcdaaGreatH13
set_option linter.unusedVariables false
set_option linter.unusedSimpArgs false
set_option linter.unusedSectionVars false
section
namespace Go.Proofs.YtkaogjhnogkcdaaGreat
open Go.RowKit
attribute [local go_sem] Ex.cell? Ex.frozen?

def playE (t : Tb) (r : Rd) (x : Tx) : Int := if ckTube t ≠ 0 then ckTube t else if (rdOk 16 r && txOk t r x) = true then 0 else 2
def Tx.ki (x : Tx) : Ki := ⟨x.k, x.lag, x.sq⟩
def playW (r : Rd) (x : Tx) : Int := woP r x.ki x.air x.rate x.off - x.zero
def playV (t : Tb) (r : Rd) (x : Tx) : Int := if playE t r x = 0 then playW r x else 0
theorem play_ck {t : Tb} {r : Rd} {x : Tx} (h : ckTube t ≠ 0) : playE t r x = ckTube t ∧ playV t r x = 0 := by
 have e : playE t r x = ckTube t := if_pos h
 exact ⟨e, by unfold playV; rw [e, if_neg h]⟩
theorem play_no {t : Tb} {r : Rd} {x : Tx} (h : ckTube t = 0) (h2 : (rdOk 16 r && txOk t r x) = false) : playE t r x = 2 ∧ playV t r x = 0 := by
 have e : playE t r x = 2 := by unfold playE; rw [if_neg (by simp [h]), h2]; rfl
 exact ⟨e, by unfold playV; rw [e]; rfl⟩
theorem play_ok {t : Tb} {r : Rd} {x : Tx} (h : ckTube t = 0) (h2 : (rdOk 16 r && txOk t r x) = true) : playE t r x = 0 ∧ playV t r x = playW r x := by
 have e : playE t r x = 0 := by unfold playE; rw [if_neg (by simp [h]), h2]; rfl
 exact ⟨e, by unfold playV; rw [e]; rfl⟩
structure TxBd (t : Tb) (r : Rd) (x : Tx) : Prop where
 ki : KiIn t x.ki
 air : r.air.lo ≤ x.air ∧ x.air ≤ r.air.hi
 rate : r.rate.lo ≤ x.rate ∧ x.rate ≤ r.rate.hi
 off : -r.err ≤ x.off ∧ x.off ≤ r.err
 zero : -2000 ≤ x.zero ∧ x.zero ≤ 2000
theorem txOk_iff {t : Tb} {r : Rd} {x : Tx} : txOk t r x = true ↔ TxBd t r x := by
 unfold txOk
 simp only [Bool.and_eq_true, inB_iff]
 exact ⟨fun ⟨a, b, c, d, e, f, g⟩ => ⟨⟨a, b, c⟩, d, e, f, g⟩, fun h => ⟨h.ki.k, h.ki.lag, h.ki.sq, h.air, h.rate, h.off, h.zero⟩⟩
set_option maxRecDepth 100000 in
set_option maxHeartbeats 6400000 in
theorem Play_stem (t : Tb) (Ab Ad : Option Addr) (cb cd : Nat) (r : Rd) (x : Tx) (w : World) (hg : GlIn w w.heap.size t.g Ab Ad) (he : -9223372036854775808 < r.err) (he2 : r.err ≤ 9223372036854775807) :
  Calls Tryz.prog 39 #[.agg #[.int .i64 t.g.base, .slice Ab t.g.bands.length cb, .slice Ad t.g.depths.length cd, .int .i64 t.g.blo, .int .i64 t.g.bhi, .int .i64 t.k.lo, .int .i64 t.k.hi, .int .i64 t.lag.lo, .int .i64 t.lag.hi, .int .i64 t.sq.lo, .int .i64 t.sq.hi, .int .i64 t.term], .agg #[.int .i64 r.day, .int .i64 r.shown, .int .i64 r.err, .int .i64 r.bare, .int .i64 r.air.lo, .int .i64 r.air.hi, .int .i64 r.rate.lo, .int .i64 r.rate.hi, .int .i64 r.deep, .bool r.broken], .agg #[.int .i64 x.zero, .int .i64 x.k, .int .i64 x.lag, .int .i64 x.sq, .int .i64 x.air, .int .i64 x.rate, .int .i64 x.off]] w fun e w' => e = .returned (.tuple #[.int .i64 (playV t r x), .int .i64 (playE t r x)]) ∧ Below w.heap.size w w' := by
 by_cases hc : ckTube t = 0
 ·
  have HC := Lib.hid hc
  clear hc
  cases t0 : rdOk 16 r
  ·
   have HR := Lib.hid (play_no (r := r) (x := x) HC.out (by rw [t0]; rfl))
   have T0 := Lib.hid t0
   clear t0
   go_enter Tryz.func39, Tryz.ntmps39
   go_upto_region 1 with fail
   show Code.wp _ _ _ _ _
   refine box3 (K := fun V => Code.wp _ _ _ _ V) ?_
   intro V hb1 q1 q2 q3
   replace hg := hg.go hb1
   obtain ⟨pq1, hpq1⟩ : ∃ p, w.heap.size = p := ⟨_, rfl⟩
   obtain ⟨pq2, hpq2⟩ : ∃ p, w.heap.size + 1 = p := ⟨_, rfl⟩
   obtain ⟨pq3, hpq3⟩ : ∃ p, w.heap.size + 1 + 1 = p := ⟨_, rfl⟩
   rw [hpq3] at q3 ⊢
   rw [hpq2] at q2 ⊢
   rw [hpq1] at q1 ⊢
   have hp1 : w.heap.size ≤ pq1 := by omega
   have hp2 : w.heap.size ≤ pq2 := by omega
   have hp3 : w.heap.size ≤ pq3 := by omega
   clear hpq1 hpq2 hpq3
   go_wp2_with (refine pause_at 9 rfl ?_)
   refine Paused.mk ?_
   refine wpList_load_row rfl 45 _ rfl _ rfl 45 _ (0, 0) _ (q1) Tryz.underlying45 rfl (by kernel_rfl) ?_
   go_wp2_with fail
   refine (CheckTube_any t Ab Ad cb cd _ hg).mono ?_
   rintro e V1 ⟨rfl, hV1⟩
   replace q1 := q1.below hV1 q1.lt
   replace q2 := q2.below hV1 q2.lt
   replace q3 := q3.below hV1 q3.lt
   replace hg := hg.go hV1
   have B_V1 := ex_trans hb1 hV1
   rw [HC.out]
   go_wp2_with (refine pause_at 14 rfl ?_)
   refine Paused.mk ?_
   refine wpList_load_row rfl 52 _ rfl _ rfl 52 _ (0, 0) _ (q2) Tryz.underlying52 rfl (by kernel_rfl) ?_
   go_wp2_with fail
   refine (reading_any 16 r _ (by omega)).mono ?_
   rintro e V2 ⟨rfl, hV2⟩
   replace q1 := q1.below hV2 q1.lt
   replace q2 := q2.below hV2 q2.lt
   replace q3 := q3.below hV2 q3.lt
   replace hg := hg.go hV2
   have B_V2 := ex_trans B_V1 hV2
   rw [T0.out]
   go_wp2
   go_ret2
   rw [HR.out.1, HR.out.2]
   exact ⟨rfl, B_V2⟩
  ·
   cases t1 : inB x.k t.k.lo t.k.hi
   ·
    have HR := Lib.hid (play_no (r := r) (x := x) HC.out (by unfold txOk; rw [t0, t1]; rfl))
    have T0 := Lib.hid t0
    have T1 := Lib.hid t1
    clear t0 t1
    go_enter Tryz.func39, Tryz.ntmps39
    go_upto_region 1 with fail
    show Code.wp _ _ _ _ _
    refine box3 (K := fun V => Code.wp _ _ _ _ V) ?_
    intro V hb1 q1 q2 q3
    replace hg := hg.go hb1
    obtain ⟨pq1, hpq1⟩ : ∃ p, w.heap.size = p := ⟨_, rfl⟩
    obtain ⟨pq2, hpq2⟩ : ∃ p, w.heap.size + 1 = p := ⟨_, rfl⟩
    obtain ⟨pq3, hpq3⟩ : ∃ p, w.heap.size + 1 + 1 = p := ⟨_, rfl⟩
    rw [hpq3] at q3 ⊢
    rw [hpq2] at q2 ⊢
    rw [hpq1] at q1 ⊢
    have hp1 : w.heap.size ≤ pq1 := by omega
    have hp2 : w.heap.size ≤ pq2 := by omega
    have hp3 : w.heap.size ≤ pq3 := by omega
    clear hpq1 hpq2 hpq3
    go_wp2_with (refine pause_at 9 rfl ?_)
    refine Paused.mk ?_
    refine wpList_load_row rfl 45 _ rfl _ rfl 45 _ (0, 0) _ (q1) Tryz.underlying45 rfl (by kernel_rfl) ?_
    go_wp2_with fail
    refine (CheckTube_any t Ab Ad cb cd _ hg).mono ?_
    rintro e V3 ⟨rfl, hV3⟩
    replace q1 := q1.below hV3 q1.lt
    replace q2 := q2.below hV3 q2.lt
    replace q3 := q3.below hV3 q3.lt
    replace hg := hg.go hV3
    have B_V3 := ex_trans hb1 hV3
    rw [HC.out]
    go_wp2_with (refine pause_at 14 rfl ?_)
    refine Paused.mk ?_
    refine wpList_load_row rfl 52 _ rfl _ rfl 52 _ (0, 0) _ (q2) Tryz.underlying52 rfl (by kernel_rfl) ?_
    go_wp2_with fail
    refine (reading_any 16 r _ (by omega)).mono ?_
    rintro e V4 ⟨rfl, hV4⟩
    replace q1 := q1.below hV4 q1.lt
    replace q2 := q2.below hV4 q2.lt
    replace q3 := q3.below hV4 q3.lt
    replace hg := hg.go hV4
    have B_V4 := ex_trans B_V3 hV4
    rw [T0.out]
    have a5 : V4.cell? ⟨pq1, 5, none⟩ = some (.int .i64 t.k.lo) := q1.cell 5
    have a6 : V4.cell? ⟨pq1, 6, none⟩ = some (.int .i64 t.k.hi) := q1.cell 6
    have la := q1.lt
    have c1 : V4.cell? ⟨pq3, 1, none⟩ = some (.int .i64 x.k) := q3.cell 1
    have lc := q3.lt
    go_wp2_with fail
    refine (sm_has _ _ _ _).mono ?_
    rintro e V5 ⟨rfl, hV5⟩
    replace q1 := q1.below hV5 q1.lt
    replace q2 := q2.below hV5 q2.lt
    replace q3 := q3.below hV5 q3.lt
    replace hg := hg.go hV5
    have B_V5 := ex_trans B_V4 hV5
    clear a5 a6 la
    clear c1 lc
    rw [T1.out]
    go_wp2
    go_ret2
    rw [HR.out.1, HR.out.2]
    exact ⟨rfl, B_V5⟩
   ·
    cases t2 : inB x.lag t.lag.lo t.lag.hi
    ·
     have HR := Lib.hid (play_no (r := r) (x := x) HC.out (by unfold txOk; rw [t0, t1, t2]; rfl))
     have T0 := Lib.hid t0
     have T1 := Lib.hid t1
     have T2 := Lib.hid t2
     clear t0 t1 t2
     go_enter Tryz.func39, Tryz.ntmps39
     go_upto_region 1 with fail
     show Code.wp _ _ _ _ _
     refine box3 (K := fun V => Code.wp _ _ _ _ V) ?_
     intro V hb1 q1 q2 q3
     replace hg := hg.go hb1
     obtain ⟨pq1, hpq1⟩ : ∃ p, w.heap.size = p := ⟨_, rfl⟩
     obtain ⟨pq2, hpq2⟩ : ∃ p, w.heap.size + 1 = p := ⟨_, rfl⟩
     obtain ⟨pq3, hpq3⟩ : ∃ p, w.heap.size + 1 + 1 = p := ⟨_, rfl⟩
     rw [hpq3] at q3 ⊢
     rw [hpq2] at q2 ⊢
     rw [hpq1] at q1 ⊢
     have hp1 : w.heap.size ≤ pq1 := by omega
     have hp2 : w.heap.size ≤ pq2 := by omega
     have hp3 : w.heap.size ≤ pq3 := by omega
     clear hpq1 hpq2 hpq3
     go_wp2_with (refine pause_at 9 rfl ?_)
     refine Paused.mk ?_
     refine wpList_load_row rfl 45 _ rfl _ rfl 45 _ (0, 0) _ (q1) Tryz.underlying45 rfl (by kernel_rfl) ?_
     go_wp2_with fail
     refine (CheckTube_any t Ab Ad cb cd _ hg).mono ?_
     rintro e V6 ⟨rfl, hV6⟩
     replace q1 := q1.below hV6 q1.lt
     replace q2 := q2.below hV6 q2.lt
     replace q3 := q3.below hV6 q3.lt
     replace hg := hg.go hV6
     have B_V6 := ex_trans hb1 hV6
     rw [HC.out]
     go_wp2_with (refine pause_at 14 rfl ?_)
     refine Paused.mk ?_
     refine wpList_load_row rfl 52 _ rfl _ rfl 52 _ (0, 0) _ (q2) Tryz.underlying52 rfl (by kernel_rfl) ?_
     go_wp2_with fail
     refine (reading_any 16 r _ (by omega)).mono ?_
     rintro e V7 ⟨rfl, hV7⟩
     replace q1 := q1.below hV7 q1.lt
     replace q2 := q2.below hV7 q2.lt
     replace q3 := q3.below hV7 q3.lt
     replace hg := hg.go hV7
     have B_V7 := ex_trans B_V6 hV7
     rw [T0.out]
     have a5 : V7.cell? ⟨pq1, 5, none⟩ = some (.int .i64 t.k.lo) := q1.cell 5
     have a6 : V7.cell? ⟨pq1, 6, none⟩ = some (.int .i64 t.k.hi) := q1.cell 6
     have la := q1.lt
     have c1 : V7.cell? ⟨pq3, 1, none⟩ = some (.int .i64 x.k) := q3.cell 1
     have lc := q3.lt
     go_wp2_with fail
     refine (sm_has _ _ _ _).mono ?_
     rintro e V8 ⟨rfl, hV8⟩
     replace q1 := q1.below hV8 q1.lt
     replace q2 := q2.below hV8 q2.lt
     replace q3 := q3.below hV8 q3.lt
     replace hg := hg.go hV8
     have B_V8 := ex_trans B_V7 hV8
     clear a5 a6 la
     clear c1 lc
     rw [T1.out]
     have a7 : V8.cell? ⟨pq1, 7, none⟩ = some (.int .i64 t.lag.lo) := q1.cell 7
     have a8 : V8.cell? ⟨pq1, 8, none⟩ = some (.int .i64 t.lag.hi) := q1.cell 8
     have la := q1.lt
     have c2 : V8.cell? ⟨pq3, 2, none⟩ = some (.int .i64 x.lag) := q3.cell 2
     have lc := q3.lt
     go_wp2_with fail
     refine (sm_has _ _ _ _).mono ?_
     rintro e V9 ⟨rfl, hV9⟩
     replace q1 := q1.below hV9 q1.lt
     replace q2 := q2.below hV9 q2.lt
     replace q3 := q3.below hV9 q3.lt
     replace hg := hg.go hV9
     have B_V9 := ex_trans B_V8 hV9
     clear c2 lc
     clear a7 a8 la
     rw [T2.out]
     go_wp2
     go_ret2
     rw [HR.out.1, HR.out.2]
     exact ⟨rfl, B_V9⟩
    ·
     cases t3 : inB x.sq t.sq.lo t.sq.hi
     ·
      have HR := Lib.hid (play_no (r := r) (x := x) HC.out (by unfold txOk; rw [t0, t1, t2, t3]; rfl))
      have T0 := Lib.hid t0
      have T1 := Lib.hid t1
      have T2 := Lib.hid t2
      have T3 := Lib.hid t3
      clear t0 t1 t2 t3
      go_enter Tryz.func39, Tryz.ntmps39
      go_upto_region 1 with fail
      show Code.wp _ _ _ _ _
      refine box3 (K := fun V => Code.wp _ _ _ _ V) ?_
      intro V hb1 q1 q2 q3
      replace hg := hg.go hb1
      obtain ⟨pq1, hpq1⟩ : ∃ p, w.heap.size = p := ⟨_, rfl⟩
      obtain ⟨pq2, hpq2⟩ : ∃ p, w.heap.size + 1 = p := ⟨_, rfl⟩
      obtain ⟨pq3, hpq3⟩ : ∃ p, w.heap.size + 1 + 1 = p := ⟨_, rfl⟩
      rw [hpq3] at q3 ⊢
      rw [hpq2] at q2 ⊢
      rw [hpq1] at q1 ⊢
      have hp1 : w.heap.size ≤ pq1 := by omega
      have hp2 : w.heap.size ≤ pq2 := by omega
      have hp3 : w.heap.size ≤ pq3 := by omega
      clear hpq1 hpq2 hpq3
      go_wp2_with (refine pause_at 9 rfl ?_)
      refine Paused.mk ?_
      refine wpList_load_row rfl 45 _ rfl _ rfl 45 _ (0, 0) _ (q1) Tryz.underlying45 rfl (by kernel_rfl) ?_
      go_wp2_with fail
      refine (CheckTube_any t Ab Ad cb cd _ hg).mono ?_
      rintro e V10 ⟨rfl, hV10⟩
      replace q1 := q1.below hV10 q1.lt
      replace q2 := q2.below hV10 q2.lt
      replace q3 := q3.below hV10 q3.lt
      replace hg := hg.go hV10
      have B_V10 := ex_trans hb1 hV10
      rw [HC.out]
      go_wp2_with (refine pause_at 14 rfl ?_)
      refine Paused.mk ?_
      refine wpList_load_row rfl 52 _ rfl _ rfl 52 _ (0, 0) _ (q2) Tryz.underlying52 rfl (by kernel_rfl) ?_
      go_wp2_with fail
      refine (reading_any 16 r _ (by omega)).mono ?_
      rintro e V11 ⟨rfl, hV11⟩
      replace q1 := q1.below hV11 q1.lt
      replace q2 := q2.below hV11 q2.lt
      replace q3 := q3.below hV11 q3.lt
      replace hg := hg.go hV11
      have B_V11 := ex_trans B_V10 hV11
      rw [T0.out]
      have a5 : V11.cell? ⟨pq1, 5, none⟩ = some (.int .i64 t.k.lo) := q1.cell 5
      have a6 : V11.cell? ⟨pq1, 6, none⟩ = some (.int .i64 t.k.hi) := q1.cell 6
      have la := q1.lt
      have c1 : V11.cell? ⟨pq3, 1, none⟩ = some (.int .i64 x.k) := q3.cell 1
      have lc := q3.lt
      go_wp2_with fail
      refine (sm_has _ _ _ _).mono ?_
      rintro e V12 ⟨rfl, hV12⟩
      replace q1 := q1.below hV12 q1.lt
      replace q2 := q2.below hV12 q2.lt
      replace q3 := q3.below hV12 q3.lt
      replace hg := hg.go hV12
      have B_V12 := ex_trans B_V11 hV12
      clear a5 a6 la
      clear c1 lc
      rw [T1.out]
      have a7 : V12.cell? ⟨pq1, 7, none⟩ = some (.int .i64 t.lag.lo) := q1.cell 7
      have a8 : V12.cell? ⟨pq1, 8, none⟩ = some (.int .i64 t.lag.hi) := q1.cell 8
      have la := q1.lt
      have c2 : V12.cell? ⟨pq3, 2, none⟩ = some (.int .i64 x.lag) := q3.cell 2
      have lc := q3.lt
      go_wp2_with fail
      refine (sm_has _ _ _ _).mono ?_
      rintro e V13 ⟨rfl, hV13⟩
      replace q1 := q1.below hV13 q1.lt
      replace q2 := q2.below hV13 q2.lt
      replace q3 := q3.below hV13 q3.lt
      replace hg := hg.go hV13
      have B_V13 := ex_trans B_V12 hV13
      clear c2 lc
      clear a7 a8 la
      rw [T2.out]
      have a9 : V13.cell? ⟨pq1, 9, none⟩ = some (.int .i64 t.sq.lo) := q1.cell 9
      have a10 : V13.cell? ⟨pq1, 10, none⟩ = some (.int .i64 t.sq.hi) := q1.cell 10
      have la := q1.lt
      have c3 : V13.cell? ⟨pq3, 3, none⟩ = some (.int .i64 x.sq) := q3.cell 3
      have lc := q3.lt
      go_wp2_with fail
      refine (sm_has _ _ _ _).mono ?_
      rintro e V14 ⟨rfl, hV14⟩
      replace q1 := q1.below hV14 q1.lt
      replace q2 := q2.below hV14 q2.lt
      replace q3 := q3.below hV14 q3.lt
      replace hg := hg.go hV14
      have B_V14 := ex_trans B_V13 hV14
      clear a9 a10 la
      clear c3 lc
      rw [T3.out]
      go_wp2
      go_ret2
      rw [HR.out.1, HR.out.2]
      exact ⟨rfl, B_V14⟩
     ·
      cases t4 : inB x.air r.air.lo r.air.hi
      ·
       have HR := Lib.hid (play_no (r := r) (x := x) HC.out (by unfold txOk; rw [t0, t1, t2, t3, t4]; rfl))
       have T0 := Lib.hid t0
       have T1 := Lib.hid t1
       have T2 := Lib.hid t2
       have T3 := Lib.hid t3
       have T4 := Lib.hid t4
       clear t0 t1 t2 t3 t4
       go_enter Tryz.func39, Tryz.ntmps39
       go_upto_region 1 with fail
       show Code.wp _ _ _ _ _
       refine box3 (K := fun V => Code.wp _ _ _ _ V) ?_
       intro V hb1 q1 q2 q3
       replace hg := hg.go hb1
       obtain ⟨pq1, hpq1⟩ : ∃ p, w.heap.size = p := ⟨_, rfl⟩
       obtain ⟨pq2, hpq2⟩ : ∃ p, w.heap.size + 1 = p := ⟨_, rfl⟩
       obtain ⟨pq3, hpq3⟩ : ∃ p, w.heap.size + 1 + 1 = p := ⟨_, rfl⟩
       rw [hpq3] at q3 ⊢
       rw [hpq2] at q2 ⊢
       rw [hpq1] at q1 ⊢
       have hp1 : w.heap.size ≤ pq1 := by omega
       have hp2 : w.heap.size ≤ pq2 := by omega
       have hp3 : w.heap.size ≤ pq3 := by omega
       clear hpq1 hpq2 hpq3
       go_wp2_with (refine pause_at 9 rfl ?_)
       refine Paused.mk ?_
       refine wpList_load_row rfl 45 _ rfl _ rfl 45 _ (0, 0) _ (q1) Tryz.underlying45 rfl (by kernel_rfl) ?_
       go_wp2_with fail
       refine (CheckTube_any t Ab Ad cb cd _ hg).mono ?_
       rintro e V15 ⟨rfl, hV15⟩
       replace q1 := q1.below hV15 q1.lt
       replace q2 := q2.below hV15 q2.lt
       replace q3 := q3.below hV15 q3.lt
       replace hg := hg.go hV15
       have B_V15 := ex_trans hb1 hV15
       rw [HC.out]
       go_wp2_with (refine pause_at 14 rfl ?_)
       refine Paused.mk ?_
       refine wpList_load_row rfl 52 _ rfl _ rfl 52 _ (0, 0) _ (q2) Tryz.underlying52 rfl (by kernel_rfl) ?_
       go_wp2_with fail
       refine (reading_any 16 r _ (by omega)).mono ?_
       rintro e V16 ⟨rfl, hV16⟩
       replace q1 := q1.below hV16 q1.lt
       replace q2 := q2.below hV16 q2.lt
       replace q3 := q3.below hV16 q3.lt
       replace hg := hg.go hV16
       have B_V16 := ex_trans B_V15 hV16
       rw [T0.out]
       have a5 : V16.cell? ⟨pq1, 5, none⟩ = some (.int .i64 t.k.lo) := q1.cell 5
       have a6 : V16.cell? ⟨pq1, 6, none⟩ = some (.int .i64 t.k.hi) := q1.cell 6
       have la := q1.lt
       have c1 : V16.cell? ⟨pq3, 1, none⟩ = some (.int .i64 x.k) := q3.cell 1
       have lc := q3.lt
       go_wp2_with fail
       refine (sm_has _ _ _ _).mono ?_
       rintro e V17 ⟨rfl, hV17⟩
       replace q1 := q1.below hV17 q1.lt
       replace q2 := q2.below hV17 q2.lt
       replace q3 := q3.below hV17 q3.lt
       replace hg := hg.go hV17
       have B_V17 := ex_trans B_V16 hV17
       clear a5 a6 la
       clear c1 lc
       rw [T1.out]
       have a7 : V17.cell? ⟨pq1, 7, none⟩ = some (.int .i64 t.lag.lo) := q1.cell 7
       have a8 : V17.cell? ⟨pq1, 8, none⟩ = some (.int .i64 t.lag.hi) := q1.cell 8
       have la := q1.lt
       have c2 : V17.cell? ⟨pq3, 2, none⟩ = some (.int .i64 x.lag) := q3.cell 2
       have lc := q3.lt
       go_wp2_with fail
       refine (sm_has _ _ _ _).mono ?_
       rintro e V18 ⟨rfl, hV18⟩
       replace q1 := q1.below hV18 q1.lt
       replace q2 := q2.below hV18 q2.lt
       replace q3 := q3.below hV18 q3.lt
       replace hg := hg.go hV18
       have B_V18 := ex_trans B_V17 hV18
       clear c2 lc
       clear a7 a8 la
       rw [T2.out]
       have a9 : V18.cell? ⟨pq1, 9, none⟩ = some (.int .i64 t.sq.lo) := q1.cell 9
       have a10 : V18.cell? ⟨pq1, 10, none⟩ = some (.int .i64 t.sq.hi) := q1.cell 10
       have la := q1.lt
       have c3 : V18.cell? ⟨pq3, 3, none⟩ = some (.int .i64 x.sq) := q3.cell 3
       have lc := q3.lt
       go_wp2_with fail
       refine (sm_has _ _ _ _).mono ?_
       rintro e V19 ⟨rfl, hV19⟩
       replace q1 := q1.below hV19 q1.lt
       replace q2 := q2.below hV19 q2.lt
       replace q3 := q3.below hV19 q3.lt
       replace hg := hg.go hV19
       have B_V19 := ex_trans B_V18 hV19
       clear a9 a10 la
       clear c3 lc
       rw [T3.out]
       have b4 : V19.cell? ⟨pq2, 4, none⟩ = some (.int .i64 r.air.lo) := q2.cell 4
       have b5 : V19.cell? ⟨pq2, 5, none⟩ = some (.int .i64 r.air.hi) := q2.cell 5
       have lb := q2.lt
       have c4 : V19.cell? ⟨pq3, 4, none⟩ = some (.int .i64 x.air) := q3.cell 4
       have lc := q3.lt
       go_wp2_with fail
       refine (sm_has _ _ _ _).mono ?_
       rintro e V20 ⟨rfl, hV20⟩
       replace q1 := q1.below hV20 q1.lt
       replace q2 := q2.below hV20 q2.lt
       replace q3 := q3.below hV20 q3.lt
       replace hg := hg.go hV20
       have B_V20 := ex_trans B_V19 hV20
       clear b4 b5 lb
       clear c4 lc
       rw [T4.out]
       go_wp2
       go_ret2
       rw [HR.out.1, HR.out.2]
       exact ⟨rfl, B_V20⟩
      ·
       cases t5 : inB x.rate r.rate.lo r.rate.hi
       ·
        have HR := Lib.hid (play_no (r := r) (x := x) HC.out (by unfold txOk; rw [t0, t1, t2, t3, t4, t5]; rfl))
        have T0 := Lib.hid t0
        have T1 := Lib.hid t1
        have T2 := Lib.hid t2
        have T3 := Lib.hid t3
        have T4 := Lib.hid t4
        have T5 := Lib.hid t5
        clear t0 t1 t2 t3 t4 t5
        go_enter Tryz.func39, Tryz.ntmps39
        go_upto_region 1 with fail
        show Code.wp _ _ _ _ _
        refine box3 (K := fun V => Code.wp _ _ _ _ V) ?_
        intro V hb1 q1 q2 q3
        replace hg := hg.go hb1
        obtain ⟨pq1, hpq1⟩ : ∃ p, w.heap.size = p := ⟨_, rfl⟩
        obtain ⟨pq2, hpq2⟩ : ∃ p, w.heap.size + 1 = p := ⟨_, rfl⟩
        obtain ⟨pq3, hpq3⟩ : ∃ p, w.heap.size + 1 + 1 = p := ⟨_, rfl⟩
        rw [hpq3] at q3 ⊢
        rw [hpq2] at q2 ⊢
        rw [hpq1] at q1 ⊢
        have hp1 : w.heap.size ≤ pq1 := by omega
        have hp2 : w.heap.size ≤ pq2 := by omega
        have hp3 : w.heap.size ≤ pq3 := by omega
        clear hpq1 hpq2 hpq3
        go_wp2_with (refine pause_at 9 rfl ?_)
        refine Paused.mk ?_
        refine wpList_load_row rfl 45 _ rfl _ rfl 45 _ (0, 0) _ (q1) Tryz.underlying45 rfl (by kernel_rfl) ?_
        go_wp2_with fail
        refine (CheckTube_any t Ab Ad cb cd _ hg).mono ?_
        rintro e V21 ⟨rfl, hV21⟩
        replace q1 := q1.below hV21 q1.lt
        replace q2 := q2.below hV21 q2.lt
        replace q3 := q3.below hV21 q3.lt
        replace hg := hg.go hV21
        have B_V21 := ex_trans hb1 hV21
        rw [HC.out]
        go_wp2_with (refine pause_at 14 rfl ?_)
        refine Paused.mk ?_
        refine wpList_load_row rfl 52 _ rfl _ rfl 52 _ (0, 0) _ (q2) Tryz.underlying52 rfl (by kernel_rfl) ?_
        go_wp2_with fail
        refine (reading_any 16 r _ (by omega)).mono ?_
        rintro e V22 ⟨rfl, hV22⟩
        replace q1 := q1.below hV22 q1.lt
        replace q2 := q2.below hV22 q2.lt
        replace q3 := q3.below hV22 q3.lt
        replace hg := hg.go hV22
        have B_V22 := ex_trans B_V21 hV22
        rw [T0.out]
        have a5 : V22.cell? ⟨pq1, 5, none⟩ = some (.int .i64 t.k.lo) := q1.cell 5
        have a6 : V22.cell? ⟨pq1, 6, none⟩ = some (.int .i64 t.k.hi) := q1.cell 6
        have la := q1.lt
        have c1 : V22.cell? ⟨pq3, 1, none⟩ = some (.int .i64 x.k) := q3.cell 1
        have lc := q3.lt
        go_wp2_with fail
        refine (sm_has _ _ _ _).mono ?_
        rintro e V23 ⟨rfl, hV23⟩
        replace q1 := q1.below hV23 q1.lt
        replace q2 := q2.below hV23 q2.lt
        replace q3 := q3.below hV23 q3.lt
        replace hg := hg.go hV23
        have B_V23 := ex_trans B_V22 hV23
        clear a5 a6 la
        clear c1 lc
        rw [T1.out]
        have a7 : V23.cell? ⟨pq1, 7, none⟩ = some (.int .i64 t.lag.lo) := q1.cell 7
        have a8 : V23.cell? ⟨pq1, 8, none⟩ = some (.int .i64 t.lag.hi) := q1.cell 8
        have la := q1.lt
        have c2 : V23.cell? ⟨pq3, 2, none⟩ = some (.int .i64 x.lag) := q3.cell 2
        have lc := q3.lt
        go_wp2_with fail
        refine (sm_has _ _ _ _).mono ?_
        rintro e V24 ⟨rfl, hV24⟩
        replace q1 := q1.below hV24 q1.lt
        replace q2 := q2.below hV24 q2.lt
        replace q3 := q3.below hV24 q3.lt
        replace hg := hg.go hV24
        have B_V24 := ex_trans B_V23 hV24
        clear c2 lc
        clear a7 a8 la
        rw [T2.out]
        have a9 : V24.cell? ⟨pq1, 9, none⟩ = some (.int .i64 t.sq.lo) := q1.cell 9
        have a10 : V24.cell? ⟨pq1, 10, none⟩ = some (.int .i64 t.sq.hi) := q1.cell 10
        have la := q1.lt
        have c3 : V24.cell? ⟨pq3, 3, none⟩ = some (.int .i64 x.sq) := q3.cell 3
        have lc := q3.lt
        go_wp2_with fail
        refine (sm_has _ _ _ _).mono ?_
        rintro e V25 ⟨rfl, hV25⟩
        replace q1 := q1.below hV25 q1.lt
        replace q2 := q2.below hV25 q2.lt
        replace q3 := q3.below hV25 q3.lt
        replace hg := hg.go hV25
        have B_V25 := ex_trans B_V24 hV25
        clear a9 a10 la
        clear c3 lc
        rw [T3.out]
        have b4 : V25.cell? ⟨pq2, 4, none⟩ = some (.int .i64 r.air.lo) := q2.cell 4
        have b5 : V25.cell? ⟨pq2, 5, none⟩ = some (.int .i64 r.air.hi) := q2.cell 5
        have lb := q2.lt
        have c4 : V25.cell? ⟨pq3, 4, none⟩ = some (.int .i64 x.air) := q3.cell 4
        have lc := q3.lt
        go_wp2_with fail
        refine (sm_has _ _ _ _).mono ?_
        rintro e V26 ⟨rfl, hV26⟩
        replace q1 := q1.below hV26 q1.lt
        replace q2 := q2.below hV26 q2.lt
        replace q3 := q3.below hV26 q3.lt
        replace hg := hg.go hV26
        have B_V26 := ex_trans B_V25 hV26
        clear b4 b5 lb
        clear c4 lc
        rw [T4.out]
        have b6 : V26.cell? ⟨pq2, 6, none⟩ = some (.int .i64 r.rate.lo) := q2.cell 6
        have b7 : V26.cell? ⟨pq2, 7, none⟩ = some (.int .i64 r.rate.hi) := q2.cell 7
        have lb := q2.lt
        have c5 : V26.cell? ⟨pq3, 5, none⟩ = some (.int .i64 x.rate) := q3.cell 5
        have lc := q3.lt
        go_wp2_with fail
        refine (sm_has _ _ _ _).mono ?_
        rintro e V27 ⟨rfl, hV27⟩
        replace q1 := q1.below hV27 q1.lt
        replace q2 := q2.below hV27 q2.lt
        replace q3 := q3.below hV27 q3.lt
        replace hg := hg.go hV27
        have B_V27 := ex_trans B_V26 hV27
        clear c5 lc
        clear b6 b7 lb
        rw [T5.out]
        go_wp2
        go_ret2
        rw [HR.out.1, HR.out.2]
        exact ⟨rfl, B_V27⟩
       ·
        cases t6 : inB x.off (-r.err) r.err
        ·
         have HR := Lib.hid (play_no (r := r) (x := x) HC.out (by unfold txOk; rw [t0, t1, t2, t3, t4, t5, t6]; rfl))
         have T0 := Lib.hid t0
         have T1 := Lib.hid t1
         have T2 := Lib.hid t2
         have T3 := Lib.hid t3
         have T4 := Lib.hid t4
         have T5 := Lib.hid t5
         have T6 := Lib.hid t6
         clear t0 t1 t2 t3 t4 t5 t6
         go_enter Tryz.func39, Tryz.ntmps39
         go_upto_region 1 with fail
         show Code.wp _ _ _ _ _
         refine box3 (K := fun V => Code.wp _ _ _ _ V) ?_
         intro V hb1 q1 q2 q3
         replace hg := hg.go hb1
         obtain ⟨pq1, hpq1⟩ : ∃ p, w.heap.size = p := ⟨_, rfl⟩
         obtain ⟨pq2, hpq2⟩ : ∃ p, w.heap.size + 1 = p := ⟨_, rfl⟩
         obtain ⟨pq3, hpq3⟩ : ∃ p, w.heap.size + 1 + 1 = p := ⟨_, rfl⟩
         rw [hpq3] at q3 ⊢
         rw [hpq2] at q2 ⊢
         rw [hpq1] at q1 ⊢
         have hp1 : w.heap.size ≤ pq1 := by omega
         have hp2 : w.heap.size ≤ pq2 := by omega
         have hp3 : w.heap.size ≤ pq3 := by omega
         clear hpq1 hpq2 hpq3
         go_wp2_with (refine pause_at 9 rfl ?_)
         refine Paused.mk ?_
         refine wpList_load_row rfl 45 _ rfl _ rfl 45 _ (0, 0) _ (q1) Tryz.underlying45 rfl (by kernel_rfl) ?_
         go_wp2_with fail
         refine (CheckTube_any t Ab Ad cb cd _ hg).mono ?_
         rintro e V28 ⟨rfl, hV28⟩
         replace q1 := q1.below hV28 q1.lt
         replace q2 := q2.below hV28 q2.lt
         replace q3 := q3.below hV28 q3.lt
         replace hg := hg.go hV28
         have B_V28 := ex_trans hb1 hV28
         rw [HC.out]
         go_wp2_with (refine pause_at 14 rfl ?_)
         refine Paused.mk ?_
         refine wpList_load_row rfl 52 _ rfl _ rfl 52 _ (0, 0) _ (q2) Tryz.underlying52 rfl (by kernel_rfl) ?_
         go_wp2_with fail
         refine (reading_any 16 r _ (by omega)).mono ?_
         rintro e V29 ⟨rfl, hV29⟩
         replace q1 := q1.below hV29 q1.lt
         replace q2 := q2.below hV29 q2.lt
         replace q3 := q3.below hV29 q3.lt
         replace hg := hg.go hV29
         have B_V29 := ex_trans B_V28 hV29
         rw [T0.out]
         have a5 : V29.cell? ⟨pq1, 5, none⟩ = some (.int .i64 t.k.lo) := q1.cell 5
         have a6 : V29.cell? ⟨pq1, 6, none⟩ = some (.int .i64 t.k.hi) := q1.cell 6
         have la := q1.lt
         have c1 : V29.cell? ⟨pq3, 1, none⟩ = some (.int .i64 x.k) := q3.cell 1
         have lc := q3.lt
         go_wp2_with fail
         refine (sm_has _ _ _ _).mono ?_
         rintro e V30 ⟨rfl, hV30⟩
         replace q1 := q1.below hV30 q1.lt
         replace q2 := q2.below hV30 q2.lt
         replace q3 := q3.below hV30 q3.lt
         replace hg := hg.go hV30
         have B_V30 := ex_trans B_V29 hV30
         clear a5 a6 la
         clear c1 lc
         rw [T1.out]
         have a7 : V30.cell? ⟨pq1, 7, none⟩ = some (.int .i64 t.lag.lo) := q1.cell 7
         have a8 : V30.cell? ⟨pq1, 8, none⟩ = some (.int .i64 t.lag.hi) := q1.cell 8
         have la := q1.lt
         have c2 : V30.cell? ⟨pq3, 2, none⟩ = some (.int .i64 x.lag) := q3.cell 2
         have lc := q3.lt
         go_wp2_with fail
         refine (sm_has _ _ _ _).mono ?_
         rintro e V31 ⟨rfl, hV31⟩
         replace q1 := q1.below hV31 q1.lt
         replace q2 := q2.below hV31 q2.lt
         replace q3 := q3.below hV31 q3.lt
         replace hg := hg.go hV31
         have B_V31 := ex_trans B_V30 hV31
         clear c2 lc
         clear a7 a8 la
         rw [T2.out]
         have a9 : V31.cell? ⟨pq1, 9, none⟩ = some (.int .i64 t.sq.lo) := q1.cell 9
         have a10 : V31.cell? ⟨pq1, 10, none⟩ = some (.int .i64 t.sq.hi) := q1.cell 10
         have la := q1.lt
         have c3 : V31.cell? ⟨pq3, 3, none⟩ = some (.int .i64 x.sq) := q3.cell 3
         have lc := q3.lt
         go_wp2_with fail
         refine (sm_has _ _ _ _).mono ?_
         rintro e V32 ⟨rfl, hV32⟩
         replace q1 := q1.below hV32 q1.lt
         replace q2 := q2.below hV32 q2.lt
         replace q3 := q3.below hV32 q3.lt
         replace hg := hg.go hV32
         have B_V32 := ex_trans B_V31 hV32
         clear a9 a10 la
         clear c3 lc
         rw [T3.out]
         have b4 : V32.cell? ⟨pq2, 4, none⟩ = some (.int .i64 r.air.lo) := q2.cell 4
         have b5 : V32.cell? ⟨pq2, 5, none⟩ = some (.int .i64 r.air.hi) := q2.cell 5
         have lb := q2.lt
         have c4 : V32.cell? ⟨pq3, 4, none⟩ = some (.int .i64 x.air) := q3.cell 4
         have lc := q3.lt
         go_wp2_with fail
         refine (sm_has _ _ _ _).mono ?_
         rintro e V33 ⟨rfl, hV33⟩
         replace q1 := q1.below hV33 q1.lt
         replace q2 := q2.below hV33 q2.lt
         replace q3 := q3.below hV33 q3.lt
         replace hg := hg.go hV33
         have B_V33 := ex_trans B_V32 hV33
         clear b4 b5 lb
         clear c4 lc
         rw [T4.out]
         have b6 : V33.cell? ⟨pq2, 6, none⟩ = some (.int .i64 r.rate.lo) := q2.cell 6
         have b7 : V33.cell? ⟨pq2, 7, none⟩ = some (.int .i64 r.rate.hi) := q2.cell 7
         have lb := q2.lt
         have c5 : V33.cell? ⟨pq3, 5, none⟩ = some (.int .i64 x.rate) := q3.cell 5
         have lc := q3.lt
         go_wp2_with fail
         refine (sm_has _ _ _ _).mono ?_
         rintro e V34 ⟨rfl, hV34⟩
         replace q1 := q1.below hV34 q1.lt
         replace q2 := q2.below hV34 q2.lt
         replace q3 := q3.below hV34 q3.lt
         replace hg := hg.go hV34
         have B_V34 := ex_trans B_V33 hV34
         clear c5 lc
         clear b6 b7 lb
         rw [T5.out]
         have b2 : V34.cell? ⟨pq2, 2, none⟩ = some (.int .i64 r.err) := q2.cell 2
         have lb := q2.lt
         have c6 : V34.cell? ⟨pq3, 6, none⟩ = some (.int .i64 x.off) := q3.cell 6
         have lc := q3.lt
         go_wp2_with fail
         refine (sm_within _ _ _ _).mono ?_
         rintro e w' ⟨rfl, rfl⟩
         clear b2 lb
         clear c6 lc
         rw [T6.out]
         go_wp2
         go_ret2
         rw [HR.out.1, HR.out.2]
         exact ⟨rfl, B_V34⟩
        ·
         cases t7 : inB x.zero (-2000) 2000
         ·
          have HR := Lib.hid (play_no (r := r) (x := x) HC.out (by unfold txOk; rw [t0, t1, t2, t3, t4, t5, t6, t7]; rfl))
          have T0 := Lib.hid t0
          have T1 := Lib.hid t1
          have T2 := Lib.hid t2
          have T3 := Lib.hid t3
          have T4 := Lib.hid t4
          have T5 := Lib.hid t5
          have T6 := Lib.hid t6
          have T7 := Lib.hid t7
          clear t0 t1 t2 t3 t4 t5 t6 t7
          go_enter Tryz.func39, Tryz.ntmps39
          go_upto_region 1 with fail
          show Code.wp _ _ _ _ _
          refine box3 (K := fun V => Code.wp _ _ _ _ V) ?_
          intro V hb1 q1 q2 q3
          replace hg := hg.go hb1
          obtain ⟨pq1, hpq1⟩ : ∃ p, w.heap.size = p := ⟨_, rfl⟩
          obtain ⟨pq2, hpq2⟩ : ∃ p, w.heap.size + 1 = p := ⟨_, rfl⟩
          obtain ⟨pq3, hpq3⟩ : ∃ p, w.heap.size + 1 + 1 = p := ⟨_, rfl⟩
          rw [hpq3] at q3 ⊢
          rw [hpq2] at q2 ⊢
          rw [hpq1] at q1 ⊢
          have hp1 : w.heap.size ≤ pq1 := by omega
          have hp2 : w.heap.size ≤ pq2 := by omega
          have hp3 : w.heap.size ≤ pq3 := by omega
          clear hpq1 hpq2 hpq3
          go_wp2_with (refine pause_at 9 rfl ?_)
          refine Paused.mk ?_
          refine wpList_load_row rfl 45 _ rfl _ rfl 45 _ (0, 0) _ (q1) Tryz.underlying45 rfl (by kernel_rfl) ?_
          go_wp2_with fail
          refine (CheckTube_any t Ab Ad cb cd _ hg).mono ?_
          rintro e V35 ⟨rfl, hV35⟩
          replace q1 := q1.below hV35 q1.lt
          replace q2 := q2.below hV35 q2.lt
          replace q3 := q3.below hV35 q3.lt
          replace hg := hg.go hV35
          have B_V35 := ex_trans hb1 hV35
          rw [HC.out]
          go_wp2_with (refine pause_at 14 rfl ?_)
          refine Paused.mk ?_
          refine wpList_load_row rfl 52 _ rfl _ rfl 52 _ (0, 0) _ (q2) Tryz.underlying52 rfl (by kernel_rfl) ?_
          go_wp2_with fail
          refine (reading_any 16 r _ (by omega)).mono ?_
          rintro e V36 ⟨rfl, hV36⟩
          replace q1 := q1.below hV36 q1.lt
          replace q2 := q2.below hV36 q2.lt
          replace q3 := q3.below hV36 q3.lt
          replace hg := hg.go hV36
          have B_V36 := ex_trans B_V35 hV36
          rw [T0.out]
          have a5 : V36.cell? ⟨pq1, 5, none⟩ = some (.int .i64 t.k.lo) := q1.cell 5
          have a6 : V36.cell? ⟨pq1, 6, none⟩ = some (.int .i64 t.k.hi) := q1.cell 6
          have la := q1.lt
          have c1 : V36.cell? ⟨pq3, 1, none⟩ = some (.int .i64 x.k) := q3.cell 1
          have lc := q3.lt
          go_wp2_with fail
          refine (sm_has _ _ _ _).mono ?_
          rintro e V37 ⟨rfl, hV37⟩
          replace q1 := q1.below hV37 q1.lt
          replace q2 := q2.below hV37 q2.lt
          replace q3 := q3.below hV37 q3.lt
          replace hg := hg.go hV37
          have B_V37 := ex_trans B_V36 hV37
          clear a5 a6 la
          clear c1 lc
          rw [T1.out]
          have a7 : V37.cell? ⟨pq1, 7, none⟩ = some (.int .i64 t.lag.lo) := q1.cell 7
          have a8 : V37.cell? ⟨pq1, 8, none⟩ = some (.int .i64 t.lag.hi) := q1.cell 8
          have la := q1.lt
          have c2 : V37.cell? ⟨pq3, 2, none⟩ = some (.int .i64 x.lag) := q3.cell 2
          have lc := q3.lt
          go_wp2_with fail
          refine (sm_has _ _ _ _).mono ?_
          rintro e V38 ⟨rfl, hV38⟩
          replace q1 := q1.below hV38 q1.lt
          replace q2 := q2.below hV38 q2.lt
          replace q3 := q3.below hV38 q3.lt
          replace hg := hg.go hV38
          have B_V38 := ex_trans B_V37 hV38
          clear c2 lc
          clear a7 a8 la
          rw [T2.out]
          have a9 : V38.cell? ⟨pq1, 9, none⟩ = some (.int .i64 t.sq.lo) := q1.cell 9
          have a10 : V38.cell? ⟨pq1, 10, none⟩ = some (.int .i64 t.sq.hi) := q1.cell 10
          have la := q1.lt
          have c3 : V38.cell? ⟨pq3, 3, none⟩ = some (.int .i64 x.sq) := q3.cell 3
          have lc := q3.lt
          go_wp2_with fail
          refine (sm_has _ _ _ _).mono ?_
          rintro e V39 ⟨rfl, hV39⟩
          replace q1 := q1.below hV39 q1.lt
          replace q2 := q2.below hV39 q2.lt
          replace q3 := q3.below hV39 q3.lt
          replace hg := hg.go hV39
          have B_V39 := ex_trans B_V38 hV39
          clear a9 a10 la
          clear c3 lc
          rw [T3.out]
          have b4 : V39.cell? ⟨pq2, 4, none⟩ = some (.int .i64 r.air.lo) := q2.cell 4
          have b5 : V39.cell? ⟨pq2, 5, none⟩ = some (.int .i64 r.air.hi) := q2.cell 5
          have lb := q2.lt
          have c4 : V39.cell? ⟨pq3, 4, none⟩ = some (.int .i64 x.air) := q3.cell 4
          have lc := q3.lt
          go_wp2_with fail
          refine (sm_has _ _ _ _).mono ?_
          rintro e V40 ⟨rfl, hV40⟩
          replace q1 := q1.below hV40 q1.lt
          replace q2 := q2.below hV40 q2.lt
          replace q3 := q3.below hV40 q3.lt
          replace hg := hg.go hV40
          have B_V40 := ex_trans B_V39 hV40
          clear b4 b5 lb
          clear c4 lc
          rw [T4.out]
          have b6 : V40.cell? ⟨pq2, 6, none⟩ = some (.int .i64 r.rate.lo) := q2.cell 6
          have b7 : V40.cell? ⟨pq2, 7, none⟩ = some (.int .i64 r.rate.hi) := q2.cell 7
          have lb := q2.lt
          have c5 : V40.cell? ⟨pq3, 5, none⟩ = some (.int .i64 x.rate) := q3.cell 5
          have lc := q3.lt
          go_wp2_with fail
          refine (sm_has _ _ _ _).mono ?_
          rintro e V41 ⟨rfl, hV41⟩
          replace q1 := q1.below hV41 q1.lt
          replace q2 := q2.below hV41 q2.lt
          replace q3 := q3.below hV41 q3.lt
          replace hg := hg.go hV41
          have B_V41 := ex_trans B_V40 hV41
          clear c5 lc
          clear b6 b7 lb
          rw [T5.out]
          have b2 : V41.cell? ⟨pq2, 2, none⟩ = some (.int .i64 r.err) := q2.cell 2
          have lb := q2.lt
          have c6 : V41.cell? ⟨pq3, 6, none⟩ = some (.int .i64 x.off) := q3.cell 6
          have lc := q3.lt
          go_wp2_with fail
          refine (sm_within _ _ _ _).mono ?_
          rintro e w' ⟨rfl, rfl⟩
          clear b2 lb
          clear c6 lc
          rw [T6.out]
          have c0 : V41.cell? ⟨pq3, 0, none⟩ = some (.int .i64 x.zero) := q3.cell 0
          have lc := q3.lt
          go_wp2_with fail
          refine (sm_within _ _ _ _).mono ?_
          rintro e w' ⟨rfl, rfl⟩
          clear c0 lc
          rw [T7.out]
          go_wp2
          go_ret2
          rw [HR.out.1, HR.out.2]
          exact ⟨rfl, B_V41⟩
         ·
          have HT : Hid ((rdOk 16 r && txOk t r x) = true) := Lib.hid (by unfold txOk; rw [t0, t1, t2, t3, t4, t5, t6, t7]; rfl)
          have HR := Lib.hid (play_ok HC.out HT.out)
          have HRD := Lib.hid (rdOk_iff.1 t0).2
          have T0 := Lib.hid t0
          have T1 := Lib.hid t1
          have T2 := Lib.hid t2
          have T3 := Lib.hid t3
          have T4 := Lib.hid t4
          have T5 := Lib.hid t5
          have T6 := Lib.hid t6
          have T7 := Lib.hid t7
          clear t0 t1 t2 t3 t4 t5 t6 t7
          go_enter Tryz.func39, Tryz.ntmps39
          go_upto_region 1 with fail
          show Code.wp _ _ _ _ _
          refine box3 (K := fun V => Code.wp _ _ _ _ V) ?_
          intro V hb1 q1 q2 q3
          replace hg := hg.go hb1
          obtain ⟨pq1, hpq1⟩ : ∃ p, w.heap.size = p := ⟨_, rfl⟩
          obtain ⟨pq2, hpq2⟩ : ∃ p, w.heap.size + 1 = p := ⟨_, rfl⟩
          obtain ⟨pq3, hpq3⟩ : ∃ p, w.heap.size + 1 + 1 = p := ⟨_, rfl⟩
          rw [hpq3] at q3 ⊢
          rw [hpq2] at q2 ⊢
          rw [hpq1] at q1 ⊢
          have hp1 : w.heap.size ≤ pq1 := by omega
          have hp2 : w.heap.size ≤ pq2 := by omega
          have hp3 : w.heap.size ≤ pq3 := by omega
          clear hpq1 hpq2 hpq3
          go_wp2_with (refine pause_at 9 rfl ?_)
          refine Paused.mk ?_
          refine wpList_load_row rfl 45 _ rfl _ rfl 45 _ (0, 0) _ (q1) Tryz.underlying45 rfl (by kernel_rfl) ?_
          go_wp2_with fail
          refine (CheckTube_any t Ab Ad cb cd _ hg).mono ?_
          rintro e V42 ⟨rfl, hV42⟩
          replace q1 := q1.below hV42 q1.lt
          replace q2 := q2.below hV42 q2.lt
          replace q3 := q3.below hV42 q3.lt
          replace hg := hg.go hV42
          have B_V42 := ex_trans hb1 hV42
          rw [HC.out]
          go_wp2_with (refine pause_at 14 rfl ?_)
          refine Paused.mk ?_
          refine wpList_load_row rfl 52 _ rfl _ rfl 52 _ (0, 0) _ (q2) Tryz.underlying52 rfl (by kernel_rfl) ?_
          go_wp2_with fail
          refine (reading_any 16 r _ (by omega)).mono ?_
          rintro e V43 ⟨rfl, hV43⟩
          replace q1 := q1.below hV43 q1.lt
          replace q2 := q2.below hV43 q2.lt
          replace q3 := q3.below hV43 q3.lt
          replace hg := hg.go hV43
          have B_V43 := ex_trans B_V42 hV43
          rw [T0.out]
          have a5 : V43.cell? ⟨pq1, 5, none⟩ = some (.int .i64 t.k.lo) := q1.cell 5
          have a6 : V43.cell? ⟨pq1, 6, none⟩ = some (.int .i64 t.k.hi) := q1.cell 6
          have la := q1.lt
          have c1 : V43.cell? ⟨pq3, 1, none⟩ = some (.int .i64 x.k) := q3.cell 1
          have lc := q3.lt
          go_wp2_with fail
          refine (sm_has _ _ _ _).mono ?_
          rintro e V44 ⟨rfl, hV44⟩
          replace q1 := q1.below hV44 q1.lt
          replace q2 := q2.below hV44 q2.lt
          replace q3 := q3.below hV44 q3.lt
          replace hg := hg.go hV44
          have B_V44 := ex_trans B_V43 hV44
          clear a5 a6 la
          clear c1 lc
          rw [T1.out]
          have a7 : V44.cell? ⟨pq1, 7, none⟩ = some (.int .i64 t.lag.lo) := q1.cell 7
          have a8 : V44.cell? ⟨pq1, 8, none⟩ = some (.int .i64 t.lag.hi) := q1.cell 8
          have la := q1.lt
          have c2 : V44.cell? ⟨pq3, 2, none⟩ = some (.int .i64 x.lag) := q3.cell 2
          have lc := q3.lt
          go_wp2_with fail
          refine (sm_has _ _ _ _).mono ?_
          rintro e V45 ⟨rfl, hV45⟩
          replace q1 := q1.below hV45 q1.lt
          replace q2 := q2.below hV45 q2.lt
          replace q3 := q3.below hV45 q3.lt
          replace hg := hg.go hV45
          have B_V45 := ex_trans B_V44 hV45
          clear c2 lc
          clear a7 a8 la
          rw [T2.out]
          have a9 : V45.cell? ⟨pq1, 9, none⟩ = some (.int .i64 t.sq.lo) := q1.cell 9
          have a10 : V45.cell? ⟨pq1, 10, none⟩ = some (.int .i64 t.sq.hi) := q1.cell 10
          have la := q1.lt
          have c3 : V45.cell? ⟨pq3, 3, none⟩ = some (.int .i64 x.sq) := q3.cell 3
          have lc := q3.lt
          go_wp2_with fail
          refine (sm_has _ _ _ _).mono ?_
          rintro e V46 ⟨rfl, hV46⟩
          replace q1 := q1.below hV46 q1.lt
          replace q2 := q2.below hV46 q2.lt
          replace q3 := q3.below hV46 q3.lt
          replace hg := hg.go hV46
          have B_V46 := ex_trans B_V45 hV46
          clear a9 a10 la
          clear c3 lc
          rw [T3.out]
          have b4 : V46.cell? ⟨pq2, 4, none⟩ = some (.int .i64 r.air.lo) := q2.cell 4
          have b5 : V46.cell? ⟨pq2, 5, none⟩ = some (.int .i64 r.air.hi) := q2.cell 5
          have lb := q2.lt
          have c4 : V46.cell? ⟨pq3, 4, none⟩ = some (.int .i64 x.air) := q3.cell 4
          have lc := q3.lt
          go_wp2_with fail
          refine (sm_has _ _ _ _).mono ?_
          rintro e V47 ⟨rfl, hV47⟩
          replace q1 := q1.below hV47 q1.lt
          replace q2 := q2.below hV47 q2.lt
          replace q3 := q3.below hV47 q3.lt
          replace hg := hg.go hV47
          have B_V47 := ex_trans B_V46 hV47
          clear b4 b5 lb
          clear c4 lc
          rw [T4.out]
          have b6 : V47.cell? ⟨pq2, 6, none⟩ = some (.int .i64 r.rate.lo) := q2.cell 6
          have b7 : V47.cell? ⟨pq2, 7, none⟩ = some (.int .i64 r.rate.hi) := q2.cell 7
          have lb := q2.lt
          have c5 : V47.cell? ⟨pq3, 5, none⟩ = some (.int .i64 x.rate) := q3.cell 5
          have lc := q3.lt
          go_wp2_with fail
          refine (sm_has _ _ _ _).mono ?_
          rintro e V48 ⟨rfl, hV48⟩
          replace q1 := q1.below hV48 q1.lt
          replace q2 := q2.below hV48 q2.lt
          replace q3 := q3.below hV48 q3.lt
          replace hg := hg.go hV48
          have B_V48 := ex_trans B_V47 hV48
          clear c5 lc
          clear b6 b7 lb
          rw [T5.out]
          have b2 : V48.cell? ⟨pq2, 2, none⟩ = some (.int .i64 r.err) := q2.cell 2
          have lb := q2.lt
          have c6 : V48.cell? ⟨pq3, 6, none⟩ = some (.int .i64 x.off) := q3.cell 6
          have lc := q3.lt
          go_wp2_with fail
          refine (sm_within _ _ _ _).mono ?_
          rintro e w' ⟨rfl, rfl⟩
          clear b2 lb
          clear c6 lc
          rw [T6.out]
          have c0 : V48.cell? ⟨pq3, 0, none⟩ = some (.int .i64 x.zero) := q3.cell 0
          have lc := q3.lt
          go_wp2_with fail
          refine (sm_within _ _ _ _).mono ?_
          rintro e w' ⟨rfl, rfl⟩
          clear c0 lc
          rw [T7.out]
          have ht := ck_bd HC.out
          have hx := txOk_iff.1 (by have h := HT.out; rw [Bool.and_eq_true] at h; exact h.2)
          have hq := hx.ki.bd ht
          have ha : -100 ≤ x.air ∧ x.air ≤ 100 := by have := hx.air; have := HRD.out.air; omega
          have hra : -20 ≤ x.rate ∧ x.rate ≤ 20 := by have := hx.rate; have := HRD.out.rate; omega
          have ho : -20 ≤ x.off ∧ x.off ≤ 20 := by have := hx.off; have := HRD.out.err; omega
          have hwb := woP_bd hq HRD.out ha hra ho
          have hz := hx.zero
          clear ht hx
          have c0 : V48.cell? ⟨pq3, 0, none⟩ = some (.int .i64 x.zero) := q3.cell 0
          have c1 : V48.cell? ⟨pq3, 1, none⟩ = some (.int .i64 x.k) := q3.cell 1
          have c2 : V48.cell? ⟨pq3, 2, none⟩ = some (.int .i64 x.lag) := q3.cell 2
          have c3 : V48.cell? ⟨pq3, 3, none⟩ = some (.int .i64 x.sq) := q3.cell 3
          have c4 : V48.cell? ⟨pq3, 4, none⟩ = some (.int .i64 x.air) := q3.cell 4
          have c5 : V48.cell? ⟨pq3, 5, none⟩ = some (.int .i64 x.rate) := q3.cell 5
          have c6 : V48.cell? ⟨pq3, 6, none⟩ = some (.int .i64 x.off) := q3.cell 6
          have lc := q3.lt
          go_wp2_with fail
          refine wp_region_ext (by kernel_rfl) (by kernel_rfl) ?_
          refine wpQuiet_load_row rfl 45 _ rfl _ rfl 45 _ (0, 0) _ q1.ex Tryz.underlying45 rfl (by kernel_rfl) ?_
          simp only [Act.put, List.setIfInBounds_toArray, List.set_cons_zero, List.set_cons_succ]
          refine wpQuiet_load_row rfl 52 _ rfl _ rfl 52 _ (0, 0) _ q2.ex Tryz.underlying52 rfl (by kernel_rfl) ?_
          simp only [Act.put, List.setIfInBounds_toArray, List.set_cons_zero, List.set_cons_succ]
          repeat (go_big_quiet_step ((go_at_call 88; exact Calls.ext_of (without_any t Ab Ad cb cd r x.ki _ _ _ _ HRD.out hq ha hra ho))))
          refine wpQuiet_nil ?_; intro _ hw'; obtain ⟨X, rfl⟩ := hw'
          go_wp2
          go_ret2
          rw [HR.out.1, HR.out.2]
          exact ⟨rfl, ex_trans B_V48 X.h⟩
 ·
  have HR := Lib.hid (play_ck (r := r) (x := x) hc)
  have e1 : (ckTube t != 0) = true := by simp [hc]
  clear hc
  go_enter Tryz.func39, Tryz.ntmps39
  go_upto_region 1 with fail
  show Code.wp _ _ _ _ _
  refine box3 (K := fun V => Code.wp _ _ _ _ V) ?_
  intro V hb1 q1 q2 q3
  replace hg := hg.go hb1
  obtain ⟨pq1, hpq1⟩ : ∃ p, w.heap.size = p := ⟨_, rfl⟩
  obtain ⟨pq2, hpq2⟩ : ∃ p, w.heap.size + 1 = p := ⟨_, rfl⟩
  obtain ⟨pq3, hpq3⟩ : ∃ p, w.heap.size + 1 + 1 = p := ⟨_, rfl⟩
  rw [hpq3] at q3 ⊢
  rw [hpq2] at q2 ⊢
  rw [hpq1] at q1 ⊢
  have hp1 : w.heap.size ≤ pq1 := by omega
  have hp2 : w.heap.size ≤ pq2 := by omega
  have hp3 : w.heap.size ≤ pq3 := by omega
  clear hpq1 hpq2 hpq3
  go_wp2_with (refine pause_at 9 rfl ?_)
  refine Paused.mk ?_
  refine wpList_load_row rfl 45 _ rfl _ rfl 45 _ (0, 0) _ (q1) Tryz.underlying45 rfl (by kernel_rfl) ?_
  go_wp2_with fail
  refine (CheckTube_any t Ab Ad cb cd _ hg).mono ?_
  rintro e V49 ⟨rfl, hV49⟩
  replace q1 := q1.below hV49 q1.lt
  replace q2 := q2.below hV49 q2.lt
  replace q3 := q3.below hV49 q3.lt
  replace hg := hg.go hV49
  have B_V49 := ex_trans hb1 hV49
  go_wp2
  go_ret2
  rw [HR.out.1, HR.out.2]
  exact ⟨rfl, B_V49⟩

end Go.Proofs.YtkaogjhnogkcdaaGreat
end

section
namespace Go.Proofs.YtkaogjhnogkcdaaGreat
open Go.RowKit
attribute [local go_sem] Ex.cell? Ex.frozen?

theorem agree_known {g : Gl} {h : List Rg} {l : List Ic} {o : Nat → Bool} (hok : Ok g h) {M : Nat → Nat → Nat → Bool} (hk : Known g h l o M h.length) (hn : ∀ r s, r < 52 → s < 31 → M h.length r s = false) : agreeB g h l o = false := by
  cases ha : agreeB g h l o
  · rfl
  · obtain ⟨σ, p, f⟩ := (agree_iff hok).1 ha
    have hb := path_bd hok p (d := h.length) (Nat.le_refl _)
    have hnh := hok.nh
    have hc : Can g h l o h.length (σ h.length) := (can_iff hok (Nat.le_refl _)).2 ⟨σ, p, f, rfl⟩
    generalize σ h.length = t at *
    obtain ⟨a, b⟩ := t
    simp only at hb
    have hm := (hk h.length a.toNat b.toNat (Nat.le_refl _) (by omega) (by omega)).2 (by rw [Int.toNat_of_nonneg (by omega), Int.toNat_of_nonneg (by omega)]; exact hc)
    rw [hn a.toNat b.toNat (by omega) (by omega)] at hm
    cases hm

set_option maxRecDepth 100000 in
set_option maxHeartbeats 3200000 in
theorem AgreeR_any (g : Gl) (Ab Ad Ah Ai Ao : Option Addr) (cb cd ch ci co : Nat) (h : List Rg) (l : List Ic) (out : List Int) (w : World) (hg : GlIn w w.heap.size g Ab Ad) (hh : SlAt w w.heap.size 2 Ah h.length (fR h)) (hi : SlAt w w.heap.size 3 Ai l.length (fC l)) (ho : SlAt w w.heap.size 1 Ao out.length (fI out))
    (hok : Ok g h) (hbd : IcesBd l) (hl : l.length ≤ 1000000) (hol : out.length ≤ 1000000) :
    Calls Tryz.prog 62 #[.agg #[.int .i64 g.base, .slice Ab g.bands.length cb, .slice Ad g.depths.length cd, .int .i64 g.blo, .int .i64 g.bhi], .slice Ah h.length ch, .slice Ai l.length ci, .slice Ao out.length co] w fun e w' => e = .returned (.bool (agreeB g h l (fun j => hasB out (j : Int)))) ∧ Below w.heap.size w w' := by
  have hb1 := ex_alloc (Below.refl w.heap.size w) (.cells #[.int .i64 g.base, .slice Ab g.bands.length cb, .slice Ad g.depths.length cd, .int .i64 g.blo, .int .i64 g.bhi] 27)
  have hnh := hok.nh
  have HK := Lib.hid hok
  go_enter Tryz.func62, Tryz.ntmps62
  go_wp2_with fail
  refine (Ahead_any g _ _ _ _ _ _ _ _ _ _ h l out _ ((hg.below hb1).up hb1.size) ((hh.below hb1).up hb1.size) ((hi.below hb1).up hb1.size) ((ho.below hb1).up hb1.size) hok hbd hl hol).mono ?_
  rintro e w2 ⟨⟨q, M, rfl, hm, hk⟩, hb2⟩
  have HKN := Lib.hid hk
  have hB := ex_trans hb1 hb2
  clear hk hok
  go_wp2_with fail
  refine wp_loop (fun a W => Rel (fun a W => ∃ r : Nat, r ≤ 52 ∧ W = w2 ∧ Hid (∀ r' s', r' < r → s' < 31 → M h.length r' s' = false) ∧ ∃ u : Nat → Value, a = ⟨List.toArray (u 0 :: .slice Ah h.length ch :: u 2 :: u 3 :: u 4 :: u 5 :: u 6 :: u 7 :: u 8 :: .pointer (some ⟨q, 0, none⟩) :: .int .i64 (r : Int) :: u 11 :: u 12 :: u 13 :: u 14 :: u 15 :: u 16 :: u 17 :: u 18 :: u 19 :: u 20 :: u 21 :: u 22 :: u 23 :: u 24 :: u 25 :: u 26 :: u 27 :: u 28 :: u 29 :: u 30 :: u 31 :: u 32 :: u 33 :: u 34 :: []), []⟩) a W)
    (fun a _ => 52 - (intOf (a.tmps.getD 10 undef)).toNat) ⟨⟨0, by omega, rfl, Lib.hid (fun r' s' h1 => by omega), exFrame (by kernel_rfl)⟩⟩ ?_
  rintro a W ⟨⟨r, hr, rfl, HR, u, rfl⟩⟩
  by_cases hr52 : r < 52
  · go_wp2_with fail
    refine wp_loop (fun a W' => Rel (fun a W' => ∃ s : Nat, s ≤ 31 ∧ W' = W ∧ Hid (∀ s', s' < s → M h.length r s' = false) ∧ ∃ u : Nat → Value, a = ⟨List.toArray (u 0 :: .slice Ah h.length ch :: u 2 :: u 3 :: u 4 :: u 5 :: u 6 :: u 7 :: u 8 :: .pointer (some ⟨q, 0, none⟩) :: .int .i64 (r : Int) :: .int .i64 (s : Int) :: u 12 :: u 13 :: u 14 :: u 15 :: u 16 :: u 17 :: u 18 :: u 19 :: u 20 :: u 21 :: u 22 :: u 23 :: u 24 :: u 25 :: u 26 :: u 27 :: u 28 :: u 29 :: u 30 :: u 31 :: u 32 :: u 33 :: u 34 :: []), []⟩) a W')
      (fun a _ => 31 - (intOf (a.tmps.getD 11 undef)).toNat) ⟨⟨0, by omega, rfl, Lib.hid (fun s' h1 => by omega), exFrame (by kernel_rfl)⟩⟩ ?_
    rintro a W' ⟨⟨s, hs, rfl, HS, u, rfl⟩⟩
    by_cases hs31 : s < 31
    · have hd17 : h.length < 17 := by omega
      have mc := hm.cell hd17 hr52 hs31
      have lm := hm.lt
      cases hM : M h.length r s
      · rw [hM] at mc
        have HS2 := Lib.hid (show ∀ s', s' < s + 1 → M h.length r s' = false from fun s' h1 => by
          rcases Nat.lt_succ_iff_lt_or_eq.1 h1 with h2 | h2
          · exact HS.out s' h2
          · subst h2; exact hM)
        clear hM
        go_wp2_with fail
        refine ⟨⟨⟨s + 1, by omega, rfl, HS2, exFrame (by kernel_rfl)⟩⟩, ?_⟩
        show 31 - (intOf (.int .i64 ((s : Int) + 1))).toNat < 31 - (intOf (.int .i64 (s : Int))).toNat
        simp [intOf]
        omega
      · rw [hM] at mc
        have HA : Hid (agreeB g h l (fun j => hasB out (j : Int)) = true) := Lib.hid (agreeB_iff.2 ⟨_, (HKN.out h.length r s (Nat.le_refl _) hr52 hs31).1 hM⟩)
        clear hM
        go_wp2
        go_ret
        exact ⟨by rw [HA.out]; rfl, hB⟩
    · have hsE : s = 31 := by omega
      subst hsE
      have HR2 := Lib.hid (show ∀ r' s', r' < r + 1 → s' < 31 → M h.length r' s' = false from fun r' s' h1 h2 => by
        rcases Nat.lt_succ_iff_lt_or_eq.1 h1 with h3 | h3
        · exact HR.out r' s' h3 h2
        · subst h3; exact HS.out s' h2)
      go_wp2_with fail
      refine ⟨⟨⟨r + 1, by omega, rfl, HR2, exFrame (by kernel_rfl)⟩⟩, ?_⟩
      show 52 - (intOf (.int .i64 ((r : Int) + 1))).toNat < 52 - (intOf (.int .i64 (r : Int))).toNat
      simp [intOf]
      omega
  · have hrE : r = 52 := by omega
    subst hrE
    have HA : Hid (agreeB g h l (fun j => hasB out (j : Int)) = false) := Lib.hid (agree_known HK.out HKN.out HR.out)
    go_wp2
    go_ret
    exact ⟨by rw [HA.out]; rfl, hB⟩
end Go.Proofs.YtkaogjhnogkcdaaGreat
end

section
namespace Go.Proofs.YtkaogjhnogkcdaaGreat

noncomputable def leadsB (blo bhi : Int) (D : List Int) (f t : Int) : Bool := @decide (∃ b, (blo ≤ b ∧ b ≤ bhi) ∧ ∃ k, k < D.length ∧ mx3 (f - b) 0 (gI D k) = t) (Classical.propDecidable _)
theorem leadsB_iff {blo bhi : Int} {D : List Int} {f t : Int} : leadsB blo bhi D f t = true ↔ ∃ b, (blo ≤ b ∧ b ≤ bhi) ∧ ∃ k, k < D.length ∧ mx3 (f - b) 0 (gI D k) = t := by
  unfold leadsB; letI := Classical.propDecidable (∃ b, (blo ≤ b ∧ b ≤ bhi) ∧ ∃ k, k < D.length ∧ mx3 (f - b) 0 (gI D k) = t)
  rw [decide_eq_true_iff]

section
variable (g : Gl) (h : List Rg) (l : List Ic) (o : Nat → Bool) (D : List Int) (M : Nat → Nat → Nat → Bool)
def Gone (G : Nat → Nat → Nat → Bool) (e : Nat) : Prop := ∀ e' r s : Nat, e ≤ e' → e' ≤ h.length → r < 52 → s < 31 → (G e' r s = true ↔ Goes g h l o (h.length - e') e' ((r : Int), (s : Int)))
def Void (G : Nat → Nat → Nat → Bool) (e : Nat) : Prop := ∀ e' r s : Nat, e' < e → G e' r s = false
def Lead (G : Nat → Nat → Nat → Bool) (e r s : Nat) (c : Int) (f : Nat) : Prop := M e ((r : Int) - c).toNat f = true → leadsB g.blo g.bhi D (f : Int) (s : Int) = true → G e ((r : Int) - c).toNat f = true
structure QQ (e n m : Nat) (c : Int) (f : Nat) (G : Nat → Nat → Nat → Bool) : Prop where
  known : Gone g h l o G (e + 1)
  blank : Void G e
  sound : ∀ r s : Nat, G e r s = true → Goes g h l o (h.length - e) e ((r : Int), (s : Int))
  p2 : ∀ r s : Nat, r < n → s < 31 → G (e + 1) r s = true → ∀ c : Int, (creep g e).lo ≤ c → c ≤ (creep g e).hi → c ≤ r → ∀ f, f < 31 → Lead g D M G e r s c f
  p3 : ∀ s : Nat, s < m → G (e + 1) n s = true → ∀ c : Int, (creep g e).lo ≤ c → c ≤ (creep g e).hi → c ≤ n → ∀ f, f < 31 → Lead g D M G e n s c f
  p4 : ∀ c' : Int, (creep g e).lo ≤ c' → c' < c → ∀ f, f < 31 → Lead g D M G e n m c' f
  p5 : ∀ f', f' < f → Lead g D M G e n m c f'
end
section
variable {g : Gl} {h : List Rg} {l : List Ic} {o : Nat → Bool} {D : List Int} {M : Nat → Nat → Nat → Bool} {e n m f : Nat} {c : Int} {G : Nat → Nat → Nat → Bool}
theorem upd_off {e x y e' r s : Nat} (he : e' ≠ e) : upd G e x y e' r s = G e' r s := by unfold upd; rw [if_neg (fun h => he h.1)]
theorem Lead.mono {r s : Nat} {G' : Nat → Nat → Nat → Bool} (h : Lead g D M G e r s c f) (hm : ∀ x y, G e x y = true → G' e x y = true) : Lead g D M G' e r s c f := fun h1 h2 => hm _ _ (h h1 h2)
theorem QQ.start (hk : Gone g h l o G (e + 1)) (hb : Void G (e + 1)) : QQ g h l o D M e 0 0 (creep g e).lo 0 G :=
  ⟨hk, fun e' r s he => hb e' r s (by omega), fun r s hm => by rw [hb e r s (by omega)] at hm; exact absurd hm (by simp), fun r s hr => by omega, fun s hs => by omega, fun c' h1 h2 => by omega, fun f' hf => by omega⟩
theorem QQ.no (p : QQ g h l o D M e n m c f G) (hf : ¬ (M e ((n : Int) - c).toNat f = true ∧ leadsB g.blo g.bhi D (f : Int) (m : Int) = true)) : QQ g h l o D M e n m c (f + 1) G :=
  ⟨p.known, p.blank, p.sound, p.p2, p.p3, p.p4, fun f' hf' => by
    rcases Nat.lt_succ_iff_lt_or_eq.1 hf' with h1 | h1
    · exact p.p5 f' h1
    · subst h1; intro a b; exact absurd ⟨a, b⟩ hf⟩
theorem QQ.yes (p : QQ g h l o D M e n m c f G) {x : Nat} (hx : x = ((n : Int) - c).toNat) (hg : Goes g h l o (h.length - e) e ((x : Int), (f : Int))) : QQ g h l o D M e n m c (f + 1) (upd G e x f) := by
  have hm : ∀ r s, G e r s = true → upd G e x f e r s = true := fun r s h => upd_mono h
  refine ⟨fun e' r s he h1 hr hs => by rw [upd_off (by omega)]; exact p.known e' r s he h1 hr hs, fun e' r s he => by rw [upd_off (by omega)]; exact p.blank e' r s he, fun r s h => ?_, fun r s hr hs hM => ?_, fun s hs hM => ?_, fun c' h1 h2 k' hk' => (p.p4 c' h1 h2 k' hk').mono hm, fun k' hk' => ?_⟩
  · rw [upd_iff] at h
    rcases h with ⟨_, rfl, rfl⟩ | h
    · exact hg
    · exact p.sound r s h
  · rw [upd_off (by omega)] at hM
    exact fun c' h1 h2 h3 k' hk' => (p.p2 r s hr hs hM c' h1 h2 h3 k' hk').mono hm
  · rw [upd_off (by omega)] at hM
    exact fun c' h1 h2 h3 k' hk' => (p.p3 s hs hM c' h1 h2 h3 k' hk').mono hm
  · rcases Nat.lt_succ_iff_lt_or_eq.1 hk' with h1 | h1
    · exact (p.p5 k' h1).mono hm
    · subst h1; intro _ _; rw [← hx]; exact upd_self
theorem QQ.creep (p : QQ g h l o D M e n m c 31 G) : QQ g h l o D M e n m (c + 1) 0 G :=
  ⟨p.known, p.blank, p.sound, p.p2, p.p3, fun c' h1 h2 f hf => by
    rcases Int.lt_or_eq_of_le (show c' ≤ c by omega) with h5 | h5
    · exact p.p4 c' h1 h5 f hf
    · subst h5; exact p.p5 f hf, fun f hf => by omega⟩
theorem QQ.sink (p : QQ g h l o D M e n m c 0 G) (hc : (Go.Proofs.YtkaogjhnogkcdaaGreat.creep g e).hi < c ∨ (n : Int) < c ∨ G (e + 1) n m = false) : QQ g h l o D M e n (m + 1) (Go.Proofs.YtkaogjhnogkcdaaGreat.creep g e).lo 0 G :=
  ⟨p.known, p.blank, p.sound, p.p2, fun s hs hM c' h1 h2 h3 f hf => by
    rcases Nat.lt_succ_iff_lt_or_eq.1 hs with h5 | h5
    · exact p.p3 s h5 hM c' h1 h2 h3 f hf
    · subst h5
      rcases hc with hc | hc | hc
      · exact p.p4 c' h1 (by omega) f hf
      · exact p.p4 c' h1 (by omega) f hf
      · rw [hc] at hM; exact absurd hM (by simp), fun c' h1 h2 => by omega, fun f hf => by omega⟩
theorem QQ.rise (p : QQ g h l o D M e n 31 c f G) : QQ g h l o D M e (n + 1) 0 (Go.Proofs.YtkaogjhnogkcdaaGreat.creep g e).lo 0 G :=
  ⟨p.known, p.blank, p.sound, fun r s hr hs hM => by
    rcases Nat.lt_succ_iff_lt_or_eq.1 hr with h5 | h5
    · exact p.p2 r s h5 hs hM
    · subst h5; exact p.p3 s hs hM, fun s hs => by omega, fun c' h1 h2 => by omega, fun f hf => by omega⟩
theorem lead_goes (hok : Ok g h) (he : e < h.length) (hD : ∀ y : Int, (∃ k, k < D.length ∧ gI D k = y) ↔ ∃ x, ((gR h e).lo ≤ x ∧ x ≤ (gR h e).hi) ∧ y = sinks g x) (hM : Known g h l o M h.length) (hk : Gone g h l o G (e + 1))
    (hn : n < 52) (hm : m < 31) (hG : G (e + 1) n m = true) (hc : (Go.Proofs.YtkaogjhnogkcdaaGreat.creep g e).lo ≤ c ∧ c ≤ (Go.Proofs.YtkaogjhnogkcdaaGreat.creep g e).hi) (hcn : c ≤ n) (hf : f < 31) {x : Nat} (hx : (x : Int) = (n : Int) - c) (hMx : M e x f = true) (hl : leadsB g.blo g.bhi D (f : Int) (m : Int) = true) : Goes g h l o (h.length - e) e ((x : Int), (f : Int)) := by
  obtain ⟨b, hb, k, hk1, hk2⟩ := leadsB_iff.1 hl
  obtain ⟨y, hy, hy2⟩ := (hD _).1 ⟨k, hk1, rfl⟩
  have hcr := hok.creep e
  have e1 : h.length - e = h.length - (e + 1) + 1 := by omega
  rw [e1]
  refine ⟨(hM e x f (by omega) (by omega) hf).1 hMx, ((n : Int), (m : Int)), (mem_nextL hok he).2 ⟨y, b, c, hy, hb, hc, ?_⟩, (hk (e + 1) n m (Nat.le_refl _) (by omega) hn hm).1 hG⟩
  simp only [Prod.mk.injEq]
  exact ⟨by omega, by rw [← hy2, hk2]⟩
theorem goes_bd (hok : Ok g h) {k d : Nat} (hd : d + k ≤ h.length) {t : St} (ht : Goes g h l o k d t) : (0 ≤ t.1 ∧ t.1 ≤ 3 * d) ∧ (0 ≤ t.2 ∧ t.2 ≤ 30) := by
  obtain ⟨σ, p, _, e1⟩ := (can_iff hok (by omega)).1 (goes_can ht)
  have hb := path_bd hok p (d := d) (Nat.le_refl _)
  rw [e1] at hb
  exact hb
theorem QQ.day (hok : Ok g h) (he : e < h.length) (hD : ∀ y : Int, (∃ k, k < D.length ∧ gI D k = y) ↔ ∃ x, ((gR h e).lo ≤ x ∧ x ≤ (gR h e).hi) ∧ y = sinks g x) (hM : Known g h l o M h.length) (p : QQ g h l o D M e 52 0 c f G) : Gone g h l o G e ∧ Void G e := by
  have hnh := hok.nh
  refine ⟨fun e' r s h1 h2 hr hs => ?_, p.blank⟩
  rcases Nat.eq_or_lt_of_le h1 with rfl | hlt
  rotate_left
  · exact p.known e' r s (by omega) h2 hr hs
  refine ⟨p.sound r s, fun hg => ?_⟩
  have e1 : h.length - e = h.length - (e + 1) + 1 := by omega
  rw [e1] at hg
  obtain ⟨h3, ⟨a1, a2⟩, h4, h5⟩ := hg
  have hb := goes_bd hok (by omega) h5
  simp only at hb
  obtain ⟨y, b, c', hy, hb', hc', ht⟩ := (mem_nextL hok he).1 h4
  simp only [Prod.mk.injEq] at ht
  obtain ⟨t1, t2⟩ := ht
  have hcr := hok.creep e
  obtain ⟨k, hk1, hk2⟩ := (hD _).2 ⟨y, hy, rfl⟩
  have hG : G (e + 1) a1.toNat a2.toNat = true := (p.known (e + 1) a1.toNat a2.toNat (Nat.le_refl _) (by omega) (by omega) (by omega)).2 (by rw [Int.toNat_of_nonneg (by omega), Int.toNat_of_nonneg (by omega)]; exact h5)
  have hl := p.p2 a1.toNat a2.toNat (by omega) (by omega) hG c' hc'.1 hc'.2 (by omega) s hs
  unfold Lead at hl
  have e2 : (((a1.toNat : Nat) : Int) - c').toNat = r := by omega
  rw [e2] at hl
  refine hl ((hM e r s (by omega) hr hs).2 h3) (leadsB_iff.2 ⟨b, hb', k, hk1, ?_⟩)
  rw [hk2, Int.toNat_of_nonneg (by omega), t2]
end

def Seen (S : Nat → Nat → Bool) (n m r s : Nat) : Prop := ((r < n ∧ s < 31) ∨ (r = n ∧ s < m)) ∧ S r s = true
def ZR (g : Gl) (S : Nat → Nat → Bool) (n m : Nat) (is : Bool) (lo hi : Int) : Prop :=
  ((∀ r s, ¬ Seen S n m r s) ∧ lo = 5000 ∧ hi = -5000) ∨ (is = true ∧ EndsOf (fun z => ∃ r s : Nat, Seen S n m r s ∧ z = g.base + (r : Int) - (s : Int)) lo hi)
section
variable {g : Gl} {S : Nat → Nat → Bool} {n m : Nat} {is : Bool} {lo hi : Int}
theorem ZR.start : ZR g S 0 0 is 5000 (-5000) := .inl ⟨fun r s h => by rcases h.1 with h1 | h1 <;> omega, rfl, rfl⟩
theorem ZR.of {n' m' : Nat} (h : ∀ r s, Seen S n m r s ↔ Seen S n' m' r s) (p : ZR g S n m is lo hi) : ZR g S n' m' is lo hi := by
  rcases p with ⟨h1, h2⟩ | ⟨h1, h2, h3, h4⟩
  · exact .inl ⟨fun r s k => h1 r s ((h r s).2 k), h2⟩
  · refine .inr ⟨h1, ?_, ?_, fun z hz => h4 z ?_⟩
    · obtain ⟨r, s, k, e⟩ := h2; exact ⟨r, s, (h r s).1 k, e⟩
    · obtain ⟨r, s, k, e⟩ := h3; exact ⟨r, s, (h r s).1 k, e⟩
    · obtain ⟨r, s, k, e⟩ := hz; exact ⟨r, s, (h r s).2 k, e⟩
theorem ZR.skip (p : ZR g S n m is lo hi) (h : S n m = false) : ZR g S n (m + 1) is lo hi := p.of (fun r s => by
  unfold Seen
  constructor
  · rintro ⟨h1 | h1, h2⟩
    · exact ⟨.inl h1, h2⟩
    · exact ⟨.inr ⟨h1.1, by omega⟩, h2⟩
  · rintro ⟨h1 | h1, h2⟩
    · exact ⟨.inl h1, h2⟩
    · refine ⟨.inr ⟨h1.1, ?_⟩, h2⟩
      rcases Nat.lt_succ_iff_lt_or_eq.1 h1.2 with h3 | h3
      · exact h3
      · rw [h1.1, h3, h] at h2; cases h2)
theorem ZR.rise (p : ZR g S n 31 is lo hi) : ZR g S (n + 1) 0 is lo hi := p.of (fun r s => by
  unfold Seen
  refine and_congr_left fun _ => ?_
  omega)
theorem ZR.add (p : ZR g S n m is lo hi) (h : S n m = true) (hz : -5000 ≤ g.base + (n : Int) - (m : Int) ∧ g.base + (n : Int) - (m : Int) ≤ 5000) : ZR g S n (m + 1) true (min lo (g.base + (n : Int) - (m : Int))) (max hi (g.base + (n : Int) - (m : Int))) := by
  have hs : Seen S n (m + 1) n m := ⟨.inr ⟨rfl, by omega⟩, h⟩
  have hm : ∀ r s, Seen S n m r s → Seen S n (m + 1) r s := fun r s k => ⟨k.1.imp id (fun k => ⟨k.1, by omega⟩), k.2⟩
  have hi' : ∀ r s, Seen S n (m + 1) r s → Seen S n m r s ∨ (r = n ∧ s = m) := fun r s k => by
    rcases k.1 with h1 | h1
    · exact .inl ⟨.inl h1, k.2⟩
    · rcases Nat.lt_succ_iff_lt_or_eq.1 h1.2 with h3 | h3
      · exact .inl ⟨.inr ⟨h1.1, h3⟩, k.2⟩
      · exact .inr ⟨h1.1, h3⟩
  rcases p with ⟨h1, rfl, rfl⟩ | ⟨_, h2, h3, h4⟩
  · rw [Int.min_eq_right hz.2, Int.max_eq_right hz.1]
    refine .inr ⟨rfl, ⟨n, m, hs, rfl⟩, ⟨n, m, hs, rfl⟩, ?_⟩
    rintro z ⟨r, s, k, rfl⟩
    rcases hi' r s k with k | ⟨rfl, rfl⟩
    · exact absurd k (h1 r s)
    · omega
  · refine .inr ⟨rfl, ?_, ?_, ?_⟩
    · rcases Int.le_total lo (g.base + (n : Int) - (m : Int)) with h5 | h5
      · rw [Int.min_eq_left h5]; obtain ⟨r, s, k, e⟩ := h2; exact ⟨r, s, hm r s k, e⟩
      · rw [Int.min_eq_right h5]; exact ⟨n, m, hs, rfl⟩
    · rcases Int.le_total hi (g.base + (n : Int) - (m : Int)) with h5 | h5
      · rw [Int.max_eq_right h5]; exact ⟨n, m, hs, rfl⟩
      · rw [Int.max_eq_left h5]; obtain ⟨r, s, k, e⟩ := h3; exact ⟨r, s, hm r s k, e⟩
    · rintro z ⟨r, s, k, rfl⟩
      rcases hi' r s k with k | ⟨rfl, rfl⟩
      · have := h4 _ ⟨r, s, k, rfl⟩; omega
      · omega
end
theorem ZR.day {g : Gl} {h : List Rg} {l : List Ic} {o : Nat → Bool} (hok : Ok g h) {G : Nat → Nat → Nat → Bool} {e : Nat} (he : e < h.length) (hk : Gone g h l o G (e + 1)) {is : Bool} {lo hi : Int} (p : ZR g (G (e + 1)) 52 0 is lo hi) (ha : agreeB g h l o = true) :
    is = true ∧ EndsOf (fun z => ∃ s, Goes g h l o (h.length - 1 - e) (e + 1) s ∧ z = zero g s) lo hi := by
  have hnh := hok.nh
  have e1 : h.length - 1 - e = h.length - (e + 1) := by omega
  have hs : ∀ t : St, Goes g h l o (h.length - 1 - e) (e + 1) t ↔ ∃ r s : Nat, Seen (G (e + 1)) 52 0 r s ∧ t = ((r : Int), (s : Int)) := fun t => by
    rw [e1]
    constructor
    · intro hg
      have hb := goes_bd hok (by omega) hg
      obtain ⟨a, b⟩ := t
      simp only at hb
      refine ⟨a.toNat, b.toNat, ⟨.inl ⟨by omega, by omega⟩, (hk (e + 1) _ _ (Nat.le_refl _) (by omega) (by omega) (by omega)).2 ?_⟩, ?_⟩
      · rw [Int.toNat_of_nonneg (by omega), Int.toNat_of_nonneg (by omega)]; exact hg
      · rw [Int.toNat_of_nonneg (by omega), Int.toNat_of_nonneg (by omega)]
    · rintro ⟨r, s, h1, rfl⟩
      have : r < 52 ∧ s < 31 := by rcases h1.1 with h2 | h2 <;> omega
      exact (hk (e + 1) r s (Nat.le_refl _) (by omega) this.1 this.2).1 h1.2
  have hf : (fun z => ∃ s, Goes g h l o (h.length - 1 - e) (e + 1) s ∧ z = zero g s) = (fun z => ∃ r s : Nat, Seen (G (e + 1)) 52 0 r s ∧ z = g.base + (r : Int) - (s : Int)) := funext fun z => propext <| by
    constructor
    · rintro ⟨t, h1, rfl⟩
      obtain ⟨r, s, h2, rfl⟩ := (hs t).1 h1
      exact ⟨r, s, h2, rfl⟩
    · rintro ⟨r, s, h2, rfl⟩
      exact ⟨((r : Int), (s : Int)), (hs _).2 ⟨r, s, h2, rfl⟩, rfl⟩
  rw [hf]
  rcases p with ⟨h1, _⟩ | ⟨h1, h2⟩
  · obtain ⟨σ, p, f⟩ := (agree_iff hok).1 ha
    obtain ⟨r, s, h2, _⟩ := (hs (σ (e + 1))).1 ((goes_iff hok (by omega)).2 ⟨σ, by rw [show e + 1 + (h.length - 1 - e) = h.length by omega]; exact ⟨p, f, rfl⟩⟩)
    exact absurd h2 (h1 r s)
  · exact ⟨h1, h2⟩
theorem goes_agree {g : Gl} {h : List Rg} {l : List Ic} {o : Nat → Bool} (hok : Ok g h) {k d : Nat} (hd : d + k = h.length) {t : St} (ht : Goes g h l o k d t) : agreeB g h l o = true := by
  obtain ⟨σ, p, f, _⟩ := (goes_iff hok (by omega)).1 ht
  rw [hd] at p f
  exact (agree_iff hok).2 ⟨σ, p, f⟩
end Go.Proofs.YtkaogjhnogkcdaaGreat
end

section
namespace Go.Proofs.YtkaogjhnogkcdaaGreat
open Go.RowKit
attribute [local go_sem] Ex.cell? Ex.frozen?

set_option maxRecDepth 100000 in
set_option maxHeartbeats 3200000 in
theorem leads_any (blo bhi : Int) (Ad : Option Addr) (cd : Nat) (D : List Int) (f t : Int) (w : World) (hD : SlAt w w.heap.size 1 Ad D.length (fI D)) (hb : 0 ≤ blo ∧ blo ≤ bhi ∧ bhi ≤ 5) (hf : 0 ≤ f ∧ f ≤ 31) (hDl : D.length ≤ 1000000) :
    Calls Tryz.prog 66 #[.agg #[.int .i64 blo, .int .i64 bhi], .slice Ad D.length cd, .int .i64 f, .int .i64 t] w fun e w' => e = .returned (.bool (leadsB blo bhi D f t)) ∧ Below w.heap.size w w' := by
  have hb1 := ex_alloc (Below.refl w.heap.size w) (.cells #[.int .i64 blo, .int .i64 bhi] 25)
  have q1 : Blk (w.alloc (.cells #[.int .i64 blo, .int .i64 bhi] 25)) w.heap.size 25 #[.int .i64 blo, .int .i64 bhi] := Blk.new _ _ _
  go_enter Tryz.func66, Tryz.ntmps66
  go_wp2_with fail
  have hD1 := (hD.below hb1).up hb1.size
  generalize w.alloc (.cells #[.int .i64 blo, .int .i64 bhi] 25) = V at *
  refine wp_loop (fun a W => Rel (fun a W => ∃ b : Int, blo ≤ b ∧ b ≤ bhi + 1 ∧ W = V ∧ Hid (∀ b', blo ≤ b' → b' < b → ∀ k, k < D.length → mx3 (f - b') 0 (gI D k) ≠ t) ∧ ∃ u : Nat → Value, a = ⟨List.toArray (u 0 :: .slice Ad D.length cd :: .int .i64 f :: .int .i64 t :: .pointer (some ⟨w.heap.size, 0, none⟩) :: u 5 :: u 6 :: u 7 :: u 8 :: .int .i64 b :: u 10 :: u 11 :: u 12 :: u 13 :: u 14 :: u 15 :: u 16 :: u 17 :: u 18 :: u 19 :: u 20 :: u 21 :: u 22 :: u 23 :: u 24 :: u 25 :: u 26 :: u 27 :: u 28 :: u 29 :: u 30 :: u 31 :: u 32 :: u 33 :: u 34 :: []), []⟩) a W)
    (fun a _ => (bhi + 1 - intOf (a.tmps.getD 9 undef)).toNat) ⟨⟨blo, by omega, by omega, rfl, Lib.hid (fun b' h1 h2 => by omega), exFrame (by kernel_rfl)⟩⟩ ?_
  rintro a W ⟨⟨b, h1, h2, rfl, HB, u, rfl⟩⟩
  have c1 : W.cell? ⟨w.heap.size, 1, none⟩ = some (.int .i64 bhi) := q1.cell 1
  have lc := q1.lt
  by_cases hbb : b ≤ bhi
  · have e1 : decide (b ≤ bhi) = true := decide_eq_true hbb
    go_wp2_with fail
    refine wp_loop (fun a W' => Rel (fun a W' => ∃ k : Nat, k ≤ D.length ∧ W' = W ∧ Hid (∀ k', k' < k → mx3 (f - b) 0 (gI D k') ≠ t) ∧ ∃ u : Nat → Value, a = ⟨List.toArray (u 0 :: .slice Ad D.length cd :: .int .i64 f :: .int .i64 t :: .pointer (some ⟨w.heap.size, 0, none⟩) :: u 5 :: u 6 :: u 7 :: u 8 :: .int .i64 b :: .int .i64 (k : Int) :: u 11 :: u 12 :: u 13 :: u 14 :: u 15 :: u 16 :: u 17 :: u 18 :: u 19 :: u 20 :: u 21 :: u 22 :: u 23 :: u 24 :: u 25 :: u 26 :: u 27 :: u 28 :: u 29 :: u 30 :: u 31 :: u 32 :: u 33 :: u 34 :: []), []⟩) a W')
      (fun a _ => D.length - (intOf (a.tmps.getD 10 undef)).toNat) ⟨⟨0, by omega, rfl, Lib.hid (fun k' hk => by omega), exFrame (by kernel_rfl)⟩⟩ ?_
    rintro a W' ⟨⟨k, hk, rfl, HK, u, rfl⟩⟩
    by_cases hkD : k < D.length
    · obtain ⟨bi, oi, rfl, hbi, g0⟩ := IsInts.at_ hD1 hkD
      have w1 : IntKind.i64.wrap (f - b) = f - b := IntWalk.i64_in _ (by omega)
      obtain ⟨m, hm⟩ : ∃ m, m = mx3 (f - b) 0 (gI D k) := ⟨_, rfl⟩
      by_cases hmt : m = t
      · have HL := Lib.hid (show leadsB blo bhi D f t = true from leadsB_iff.2 ⟨b, ⟨h1, hbb⟩, k, hkD, by rw [← hm, hmt]⟩)
        have e2 : (m == t) = true := by simp [hmt]
        go_wp2_with (refine pause_at 32 rfl ?_)
        refine Paused.mk ?_
        refine wpList_max3 _ rfl _ _ _ _ rfl (f - b) 0 (gI D k) rfl rfl rfl ?_
        rw [← hm]
        clear hm
        go_wp2_with fail
        go_ret
        exact ⟨by rw [HL.out]; rfl, hb1⟩
      · have HN := Lib.hid (show ∀ k', k' < k + 1 → mx3 (f - b) 0 (gI D k') ≠ t from fun k' hk' => by
          rcases Nat.lt_succ_iff_lt_or_eq.1 hk' with h3 | h3
          · exact HK.out k' h3
          · subst h3; rw [← hm]; exact hmt)
        have e2 : (m == t) = false := by simp [hmt]
        clear hmt
        go_wp2_with (refine pause_at 32 rfl ?_)
        refine Paused.mk ?_
        refine wpList_max3 _ rfl _ _ _ _ rfl (f - b) 0 (gI D k) rfl rfl rfl ?_
        rw [← hm]
        clear hm
        go_wp2_with fail
        refine ⟨⟨⟨k + 1, by omega, rfl, HN, exFrame (by kernel_rfl)⟩⟩, ?_⟩
        show D.length - (intOf (.int .i64 ((k : Int) + 1))).toNat < D.length - (intOf (.int .i64 (k : Int))).toNat
        simp [intOf]
        omega
    · have hkE : k = D.length := by omega
      subst hkE
      have HN := Lib.hid (show ∀ b', blo ≤ b' → b' < b + 1 → ∀ k, k < D.length → mx3 (f - b') 0 (gI D k) ≠ t from fun b' h3 h4 k hk => by
        rcases Int.lt_or_eq_of_le (show b' ≤ b by omega) with h5 | h5
        · exact HB.out b' h3 h5 k hk
        · subst h5; exact HK.out k hk)
      go_wp2_with fail
      refine ⟨⟨⟨b + 1, by omega, by omega, rfl, HN, exFrame (by kernel_rfl)⟩⟩, ?_⟩
      first
      | (show (bhi + 1 - intOf (.int .i64 (b + 1))).toNat < (bhi + 1 - intOf (.int .i64 b)).toNat; simp [intOf]; omega)
      | (show max (bhi + 1 - intOf (.int .i64 (b + 1))) 0 < bhi + 1 - intOf (.int .i64 b); simp only [intOf]; omega)
  · have e1 : decide (b ≤ bhi) = false := decide_eq_false hbb
    have HL := Lib.hid (show leadsB blo bhi D f t = false from by
      rw [← Bool.not_eq_true, leadsB_iff]
      rintro ⟨b', h3, k, h4, h5⟩
      exact HB.out b' h3.1 (by omega) k h4 h5)
    go_wp2
    go_ret
    exact ⟨by rw [HL.out]; rfl, hb1⟩
end Go.Proofs.YtkaogjhnogkcdaaGreat
end
