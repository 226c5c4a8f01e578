/- Stem: Play (walk). · The reference's Agree (walk). · The reference's Zeros (plain): how far a day's loops have come. · The reference's leads: can a sink become another one? (walk). · The reference's Zeros (walk). · The law's ended (walk): the truth of the ends. · What Stem's walks go out from: Glass' base (this text stands in place of wip/kit's KC, so that the kit's texts lie on Glass' own). · Maps with keys of any one type, as the program makes them (no key is ever taken out or laid anew): the runs of their operations. · Maps by what is at each key: any key may be laid anew. -/
import Derived.Test.YtkaogjhnogkcdaaGreatJ15
import Derived.Test.YtkaogjhnogkcdaaGreatJ13
import Derived.Test.YtkaogjhnogkcdaaGreatJ12
import Derived.Test.YtkaogjhnogkcdaaGreatJ9
import Derived.Test.YtkaogjhnogkcdaaGreatJ11
set_option linter.unusedVariables false
set_option linter.unusedSimpArgs false
set_option linter.unusedSectionVars false
section
namespace Go.Proofs.YtkaogjhnogkcdaaGreat
open Go.RowKit
attribute [local go_sem] Ex.cell? Ex.frozen?

def playE (t : Tb) (r : Rd) (x : Tx) : Int := if ckTube t ≠ 0 then ckTube t else if (rdOk 16 r && txOk t r x) = true then 0 else 2
def Tx.ki (x : Tx) : Ki := ⟨x.k, x.lag, x.sq⟩
def playW (r : Rd) (x : Tx) : Int := woP r x.ki x.air x.rate x.off - x.zero
def playV (t : Tb) (r : Rd) (x : Tx) : Int := if playE t r x = 0 then playW r x else 0
theorem play_ck {t : Tb} {r : Rd} {x : Tx} (h : ckTube t ≠ 0) : playE t r x = ckTube t ∧ playV t r x = 0 := by
 have e : playE t r x = ckTube t := if_pos h
 exact ⟨e, by unfold playV; rw [e, if_neg h]⟩
theorem play_no {t : Tb} {r : Rd} {x : Tx} (h : ckTube t = 0) (h2 : (rdOk 16 r && txOk t r x) = false) : playE t r x = 2 ∧ playV t r x = 0 := by
 have e : playE t r x = 2 := by unfold playE; rw [if_neg (by simp [h]), h2]; rfl
 exact ⟨e, by unfold playV; rw [e]; rfl⟩
theorem play_ok {t : Tb} {r : Rd} {x : Tx} (h : ckTube t = 0) (h2 : (rdOk 16 r && txOk t r x) = true) : playE t r x = 0 ∧ playV t r x = playW r x := by
 have e : playE t r x = 0 := by unfold playE; rw [if_neg (by simp [h]), h2]; rfl
 exact ⟨e, by unfold playV; rw [e]; rfl⟩
structure TxBd (t : Tb) (r : Rd) (x : Tx) : Prop where
 ki : KiIn t x.ki
 air : r.air.lo ≤ x.air ∧ x.air ≤ r.air.hi
 rate : r.rate.lo ≤ x.rate ∧ x.rate ≤ r.rate.hi
 off : -r.err ≤ x.off ∧ x.off ≤ r.err
 zero : -2000 ≤ x.zero ∧ x.zero ≤ 2000
theorem txOk_iff {t : Tb} {r : Rd} {x : Tx} : txOk t r x = true ↔ TxBd t r x := by
 unfold txOk
 simp only [Bool.and_eq_true, inB_iff]
 exact ⟨fun ⟨a, b, c, d, e, f, g⟩ => ⟨⟨a, b, c⟩, d, e, f, g⟩, fun h => ⟨h.ki.k, h.ki.lag, h.ki.sq, h.air, h.rate, h.off, h.zero⟩⟩
set_option maxRecDepth 100000 in
set_option maxHeartbeats 6400000 in
theorem Play_stem (t : Tb) (Ab Ad : Option Addr) (cb cd : Nat) (r : Rd) (x : Tx) (w : World) (hg : GlIn w w.heap.size t.g Ab Ad) (he : -9223372036854775808 < r.err) (he2 : r.err ≤ 9223372036854775807) :
  Calls Tryz.prog 39 #[.agg #[.int .i64 t.g.base, .slice Ab t.g.bands.length cb, .slice Ad t.g.depths.length cd, .int .i64 t.g.blo, .int .i64 t.g.bhi, .int .i64 t.k.lo, .int .i64 t.k.hi, .int .i64 t.lag.lo, .int .i64 t.lag.hi, .int .i64 t.sq.lo, .int .i64 t.sq.hi, .int .i64 t.term], .agg #[.int .i64 r.day, .int .i64 r.shown, .int .i64 r.err, .int .i64 r.bare, .int .i64 r.air.lo, .int .i64 r.air.hi, .int .i64 r.rate.lo, .int .i64 r.rate.hi, .int .i64 r.deep, .bool r.broken], .agg #[.int .i64 x.zero, .int .i64 x.k, .int .i64 x.lag, .int .i64 x.sq, .int .i64 x.air, .int .i64 x.rate, .int .i64 x.off]] w fun e w' => e = .returned (.tuple #[.int .i64 (playV t r x), .int .i64 (playE t r x)]) ∧ Below w.heap.size w w' := by
 by_cases hc : ckTube t = 0
 ·
  have HC := Lib.hid hc
  clear hc
  cases t0 : rdOk 16 r
  ·
   have HR := Lib.hid (play_no (r := r) (x := x) HC.out (by rw [t0]; rfl))
   have T0 := Lib.hid t0
   clear t0
   go_enter Tryz.func39, Tryz.ntmps39
   go_upto_region 1 with fail
   show Code.wp _ _ _ _ _
   refine box3 (K := fun V => Code.wp _ _ _ _ V) ?_
   intro V hb1 q1 q2 q3
   replace hg := hg.go hb1
   obtain ⟨pq1, hpq1⟩ : ∃ p, w.heap.size = p := ⟨_, rfl⟩
   obtain ⟨pq2, hpq2⟩ : ∃ p, w.heap.size + 1 = p := ⟨_, rfl⟩
   obtain ⟨pq3, hpq3⟩ : ∃ p, w.heap.size + 1 + 1 = p := ⟨_, rfl⟩
   rw [hpq3] at q3 ⊢
   rw [hpq2] at q2 ⊢
   rw [hpq1] at q1 ⊢
   have hp1 : w.heap.size ≤ pq1 := by omega
   have hp2 : w.heap.size ≤ pq2 := by omega
   have hp3 : w.heap.size ≤ pq3 := by omega
   clear hpq1 hpq2 hpq3
   go_wp2_with (refine pause_at 9 rfl ?_)
   refine Paused.mk ?_
   refine wpList_load_row rfl 45 _ rfl _ rfl 45 _ (0, 0) _ (q1) Tryz.underlying45 rfl (by kernel_rfl) ?_
   go_wp2_with fail
   refine (CheckTube_any t Ab Ad cb cd _ hg).mono ?_
   rintro e V1 ⟨rfl, hV1⟩
   replace q1 := q1.below hV1 q1.lt
   replace q2 := q2.below hV1 q2.lt
   replace q3 := q3.below hV1 q3.lt
   replace hg := hg.go hV1
   have B_V1 := ex_trans hb1 hV1
   rw [HC.out]
   go_wp2_with (refine pause_at 14 rfl ?_)
   refine Paused.mk ?_
   refine wpList_load_row rfl 52 _ rfl _ rfl 52 _ (0, 0) _ (q2) Tryz.underlying52 rfl (by kernel_rfl) ?_
   go_wp2_with fail
   refine (reading_any 16 r _ (by omega)).mono ?_
   rintro e V2 ⟨rfl, hV2⟩
   replace q1 := q1.below hV2 q1.lt
   replace q2 := q2.below hV2 q2.lt
   replace q3 := q3.below hV2 q3.lt
   replace hg := hg.go hV2
   have B_V2 := ex_trans B_V1 hV2
   rw [T0.out]
   go_wp2
   go_ret2
   rw [HR.out.1, HR.out.2]
   exact ⟨rfl, B_V2⟩
  ·
   cases t1 : inB x.k t.k.lo t.k.hi
   ·
    have HR := Lib.hid (play_no (r := r) (x := x) HC.out (by unfold txOk; rw [t0, t1]; rfl))
    have T0 := Lib.hid t0
    have T1 := Lib.hid t1
    clear t0 t1
    go_enter Tryz.func39, Tryz.ntmps39
    go_upto_region 1 with fail
    show Code.wp _ _ _ _ _
    refine box3 (K := fun V => Code.wp _ _ _ _ V) ?_
    intro V hb1 q1 q2 q3
    replace hg := hg.go hb1
    obtain ⟨pq1, hpq1⟩ : ∃ p, w.heap.size = p := ⟨_, rfl⟩
    obtain ⟨pq2, hpq2⟩ : ∃ p, w.heap.size + 1 = p := ⟨_, rfl⟩
    obtain ⟨pq3, hpq3⟩ : ∃ p, w.heap.size + 1 + 1 = p := ⟨_, rfl⟩
    rw [hpq3] at q3 ⊢
    rw [hpq2] at q2 ⊢
    rw [hpq1] at q1 ⊢
    have hp1 : w.heap.size ≤ pq1 := by omega
    have hp2 : w.heap.size ≤ pq2 := by omega
    have hp3 : w.heap.size ≤ pq3 := by omega
    clear hpq1 hpq2 hpq3
    go_wp2_with (refine pause_at 9 rfl ?_)
    refine Paused.mk ?_
    refine wpList_load_row rfl 45 _ rfl _ rfl 45 _ (0, 0) _ (q1) Tryz.underlying45 rfl (by kernel_rfl) ?_
    go_wp2_with fail
    refine (CheckTube_any t Ab Ad cb cd _ hg).mono ?_
    rintro e V3 ⟨rfl, hV3⟩
    replace q1 := q1.below hV3 q1.lt
    replace q2 := q2.below hV3 q2.lt
    replace q3 := q3.below hV3 q3.lt
    replace hg := hg.go hV3
    have B_V3 := ex_trans hb1 hV3
    rw [HC.out]
    go_wp2_with (refine pause_at 14 rfl ?_)
    refine Paused.mk ?_
    refine wpList_load_row rfl 52 _ rfl _ rfl 52 _ (0, 0) _ (q2) Tryz.underlying52 rfl (by kernel_rfl) ?_
    go_wp2_with fail
    refine (reading_any 16 r _ (by omega)).mono ?_
    rintro e V4 ⟨rfl, hV4⟩
    replace q1 := q1.below hV4 q1.lt
    replace q2 := q2.below hV4 q2.lt
    replace q3 := q3.below hV4 q3.lt
    replace hg := hg.go hV4
    have B_V4 := ex_trans B_V3 hV4
    rw [T0.out]
    have a5 : V4.cell? ⟨pq1, 5, none⟩ = some (.int .i64 t.k.lo) := q1.cell 5
    have a6 : V4.cell? ⟨pq1, 6, none⟩ = some (.int .i64 t.k.hi) := q1.cell 6
    have la := q1.lt
    have c1 : V4.cell? ⟨pq3, 1, none⟩ = some (.int .i64 x.k) := q3.cell 1
    have lc := q3.lt
    go_wp2_with fail
    refine (sm_has _ _ _ _).mono ?_
    rintro e V5 ⟨rfl, hV5⟩
    replace q1 := q1.below hV5 q1.lt
    replace q2 := q2.below hV5 q2.lt
    replace q3 := q3.below hV5 q3.lt
    replace hg := hg.go hV5
    have B_V5 := ex_trans B_V4 hV5
    clear a5 a6 la
    clear c1 lc
    rw [T1.out]
    go_wp2
    go_ret2
    rw [HR.out.1, HR.out.2]
    exact ⟨rfl, B_V5⟩
   ·
    cases t2 : inB x.lag t.lag.lo t.lag.hi
    ·
     have HR := Lib.hid (play_no (r := r) (x := x) HC.out (by unfold txOk; rw [t0, t1, t2]; rfl))
     have T0 := Lib.hid t0
     have T1 := Lib.hid t1
     have T2 := Lib.hid t2
     clear t0 t1 t2
     go_enter Tryz.func39, Tryz.ntmps39
     go_upto_region 1 with fail
     show Code.wp _ _ _ _ _
     refine box3 (K := fun V => Code.wp _ _ _ _ V) ?_
     intro V hb1 q1 q2 q3
     replace hg := hg.go hb1
     obtain ⟨pq1, hpq1⟩ : ∃ p, w.heap.size = p := ⟨_, rfl⟩
     obtain ⟨pq2, hpq2⟩ : ∃ p, w.heap.size + 1 = p := ⟨_, rfl⟩
     obtain ⟨pq3, hpq3⟩ : ∃ p, w.heap.size + 1 + 1 = p := ⟨_, rfl⟩
     rw [hpq3] at q3 ⊢
     rw [hpq2] at q2 ⊢
     rw [hpq1] at q1 ⊢
     have hp1 : w.heap.size ≤ pq1 := by omega
     have hp2 : w.heap.size ≤ pq2 := by omega
     have hp3 : w.heap.size ≤ pq3 := by omega
     clear hpq1 hpq2 hpq3
     go_wp2_with (refine pause_at 9 rfl ?_)
     refine Paused.mk ?_
     refine wpList_load_row rfl 45 _ rfl _ rfl 45 _ (0, 0) _ (q1) Tryz.underlying45 rfl (by kernel_rfl) ?_
     go_wp2_with fail
     refine (CheckTube_any t Ab Ad cb cd _ hg).mono ?_
     rintro e V6 ⟨rfl, hV6⟩
     replace q1 := q1.below hV6 q1.lt
     replace q2 := q2.below hV6 q2.lt
     replace q3 := q3.below hV6 q3.lt
     replace hg := hg.go hV6
     have B_V6 := ex_trans hb1 hV6
     rw [HC.out]
     go_wp2_with (refine pause_at 14 rfl ?_)
     refine Paused.mk ?_
     refine wpList_load_row rfl 52 _ rfl _ rfl 52 _ (0, 0) _ (q2) Tryz.underlying52 rfl (by kernel_rfl) ?_
     go_wp2_with fail
     refine (reading_any 16 r _ (by omega)).mono ?_
     rintro e V7 ⟨rfl, hV7⟩
     replace q1 := q1.below hV7 q1.lt
     replace q2 := q2.below hV7 q2.lt
     replace q3 := q3.below hV7 q3.lt
     replace hg := hg.go hV7
     have B_V7 := ex_trans B_V6 hV7
     rw [T0.out]
     have a5 : V7.cell? ⟨pq1, 5, none⟩ = some (.int .i64 t.k.lo) := q1.cell 5
     have a6 : V7.cell? ⟨pq1, 6, none⟩ = some (.int .i64 t.k.hi) := q1.cell 6
     have la := q1.lt
     have c1 : V7.cell? ⟨pq3, 1, none⟩ = some (.int .i64 x.k) := q3.cell 1
     have lc := q3.lt
     go_wp2_with fail
     refine (sm_has _ _ _ _).mono ?_
     rintro e V8 ⟨rfl, hV8⟩
     replace q1 := q1.below hV8 q1.lt
     replace q2 := q2.below hV8 q2.lt
     replace q3 := q3.below hV8 q3.lt
     replace hg := hg.go hV8
     have B_V8 := ex_trans B_V7 hV8
     clear a5 a6 la
     clear c1 lc
     rw [T1.out]
     have a7 : V8.cell? ⟨pq1, 7, none⟩ = some (.int .i64 t.lag.lo) := q1.cell 7
     have a8 : V8.cell? ⟨pq1, 8, none⟩ = some (.int .i64 t.lag.hi) := q1.cell 8
     have la := q1.lt
     have c2 : V8.cell? ⟨pq3, 2, none⟩ = some (.int .i64 x.lag) := q3.cell 2
     have lc := q3.lt
     go_wp2_with fail
     refine (sm_has _ _ _ _).mono ?_
     rintro e V9 ⟨rfl, hV9⟩
     replace q1 := q1.below hV9 q1.lt
     replace q2 := q2.below hV9 q2.lt
     replace q3 := q3.below hV9 q3.lt
     replace hg := hg.go hV9
     have B_V9 := ex_trans B_V8 hV9
     clear c2 lc
     clear a7 a8 la
     rw [T2.out]
     go_wp2
     go_ret2
     rw [HR.out.1, HR.out.2]
     exact ⟨rfl, B_V9⟩
    ·
     cases t3 : inB x.sq t.sq.lo t.sq.hi
     ·
      have HR := Lib.hid (play_no (r := r) (x := x) HC.out (by unfold txOk; rw [t0, t1, t2, t3]; rfl))
      have T0 := Lib.hid t0
      have T1 := Lib.hid t1
      have T2 := Lib.hid t2
      have T3 := Lib.hid t3
      clear t0 t1 t2 t3
      go_enter Tryz.func39, Tryz.ntmps39
      go_upto_region 1 with fail
      show Code.wp _ _ _ _ _
      refine box3 (K := fun V => Code.wp _ _ _ _ V) ?_
      intro V hb1 q1 q2 q3
      replace hg := hg.go hb1
      obtain ⟨pq1, hpq1⟩ : ∃ p, w.heap.size = p := ⟨_, rfl⟩
      obtain ⟨pq2, hpq2⟩ : ∃ p, w.heap.size + 1 = p := ⟨_, rfl⟩
      obtain ⟨pq3, hpq3⟩ : ∃ p, w.heap.size + 1 + 1 = p := ⟨_, rfl⟩
      rw [hpq3] at q3 ⊢
      rw [hpq2] at q2 ⊢
      rw [hpq1] at q1 ⊢
      have hp1 : w.heap.size ≤ pq1 := by omega
      have hp2 : w.heap.size ≤ pq2 := by omega
      have hp3 : w.heap.size ≤ pq3 := by omega
      clear hpq1 hpq2 hpq3
      go_wp2_with (refine pause_at 9 rfl ?_)
      refine Paused.mk ?_
      refine wpList_load_row rfl 45 _ rfl _ rfl 45 _ (0, 0) _ (q1) Tryz.underlying45 rfl (by kernel_rfl) ?_
      go_wp2_with fail
      refine (CheckTube_any t Ab Ad cb cd _ hg).mono ?_
      rintro e V10 ⟨rfl, hV10⟩
      replace q1 := q1.below hV10 q1.lt
      replace q2 := q2.below hV10 q2.lt
      replace q3 := q3.below hV10 q3.lt
      replace hg := hg.go hV10
      have B_V10 := ex_trans hb1 hV10
      rw [HC.out]
      go_wp2_with (refine pause_at 14 rfl ?_)
      refine Paused.mk ?_
      refine wpList_load_row rfl 52 _ rfl _ rfl 52 _ (0, 0) _ (q2) Tryz.underlying52 rfl (by kernel_rfl) ?_
      go_wp2_with fail
      refine (reading_any 16 r _ (by omega)).mono ?_
      rintro e V11 ⟨rfl, hV11⟩
      replace q1 := q1.below hV11 q1.lt
      replace q2 := q2.below hV11 q2.lt
      replace q3 := q3.below hV11 q3.lt
      replace hg := hg.go hV11
      have B_V11 := ex_trans B_V10 hV11
      rw [T0.out]
      have a5 : V11.cell? ⟨pq1, 5, none⟩ = some (.int .i64 t.k.lo) := q1.cell 5
      have a6 : V11.cell? ⟨pq1, 6, none⟩ = some (.int .i64 t.k.hi) := q1.cell 6
      have la := q1.lt
      have c1 : V11.cell? ⟨pq3, 1, none⟩ = some (.int .i64 x.k) := q3.cell 1
      have lc := q3.lt
      go_wp2_with fail
      refine (sm_has _ _ _ _).mono ?_
      rintro e V12 ⟨rfl, hV12⟩
      replace q1 := q1.below hV12 q1.lt
      replace q2 := q2.below hV12 q2.lt
      replace q3 := q3.below hV12 q3.lt
      replace hg := hg.go hV12
      have B_V12 := ex_trans B_V11 hV12
      clear a5 a6 la
      clear c1 lc
      rw [T1.out]
      have a7 : V12.cell? ⟨pq1, 7, none⟩ = some (.int .i64 t.lag.lo) := q1.cell 7
      have a8 : V12.cell? ⟨pq1, 8, none⟩ = some (.int .i64 t.lag.hi) := q1.cell 8
      have la := q1.lt
      have c2 : V12.cell? ⟨pq3, 2, none⟩ = some (.int .i64 x.lag) := q3.cell 2
      have lc := q3.lt
      go_wp2_with fail
      refine (sm_has _ _ _ _).mono ?_
      rintro e V13 ⟨rfl, hV13⟩
      replace q1 := q1.below hV13 q1.lt
      replace q2 := q2.below hV13 q2.lt
      replace q3 := q3.below hV13 q3.lt
      replace hg := hg.go hV13
      have B_V13 := ex_trans B_V12 hV13
      clear c2 lc
      clear a7 a8 la
      rw [T2.out]
      have a9 : V13.cell? ⟨pq1, 9, none⟩ = some (.int .i64 t.sq.lo) := q1.cell 9
      have a10 : V13.cell? ⟨pq1, 10, none⟩ = some (.int .i64 t.sq.hi) := q1.cell 10
      have la := q1.lt
      have c3 : V13.cell? ⟨pq3, 3, none⟩ = some (.int .i64 x.sq) := q3.cell 3
      have lc := q3.lt
      go_wp2_with fail
      refine (sm_has _ _ _ _).mono ?_
      rintro e V14 ⟨rfl, hV14⟩
      replace q1 := q1.below hV14 q1.lt
      replace q2 := q2.below hV14 q2.lt
      replace q3 := q3.below hV14 q3.lt
      replace hg := hg.go hV14
      have B_V14 := ex_trans B_V13 hV14
      clear a9 a10 la
      clear c3 lc
      rw [T3.out]
      go_wp2
      go_ret2
      rw [HR.out.1, HR.out.2]
      exact ⟨rfl, B_V14⟩
     ·
      cases t4 : inB x.air r.air.lo r.air.hi
      ·
       have HR := Lib.hid (play_no (r := r) (x := x) HC.out (by unfold txOk; rw [t0, t1, t2, t3, t4]; rfl))
       have T0 := Lib.hid t0
       have T1 := Lib.hid t1
       have T2 := Lib.hid t2
       have T3 := Lib.hid t3
       have T4 := Lib.hid t4
       clear t0 t1 t2 t3 t4
       go_enter Tryz.func39, Tryz.ntmps39
       go_upto_region 1 with fail
       show Code.wp _ _ _ _ _
       refine box3 (K := fun V => Code.wp _ _ _ _ V) ?_
       intro V hb1 q1 q2 q3
       replace hg := hg.go hb1
       obtain ⟨pq1, hpq1⟩ : ∃ p, w.heap.size = p := ⟨_, rfl⟩
       obtain ⟨pq2, hpq2⟩ : ∃ p, w.heap.size + 1 = p := ⟨_, rfl⟩
       obtain ⟨pq3, hpq3⟩ : ∃ p, w.heap.size + 1 + 1 = p := ⟨_, rfl⟩
       rw [hpq3] at q3 ⊢
       rw [hpq2] at q2 ⊢
       rw [hpq1] at q1 ⊢
       have hp1 : w.heap.size ≤ pq1 := by omega
       have hp2 : w.heap.size ≤ pq2 := by omega
       have hp3 : w.heap.size ≤ pq3 := by omega
       clear hpq1 hpq2 hpq3
       go_wp2_with (refine pause_at 9 rfl ?_)
       refine Paused.mk ?_
       refine wpList_load_row rfl 45 _ rfl _ rfl 45 _ (0, 0) _ (q1) Tryz.underlying45 rfl (by kernel_rfl) ?_
       go_wp2_with fail
       refine (CheckTube_any t Ab Ad cb cd _ hg).mono ?_
       rintro e V15 ⟨rfl, hV15⟩
       replace q1 := q1.below hV15 q1.lt
       replace q2 := q2.below hV15 q2.lt
       replace q3 := q3.below hV15 q3.lt
       replace hg := hg.go hV15
       have B_V15 := ex_trans hb1 hV15
       rw [HC.out]
       go_wp2_with (refine pause_at 14 rfl ?_)
       refine Paused.mk ?_
       refine wpList_load_row rfl 52 _ rfl _ rfl 52 _ (0, 0) _ (q2) Tryz.underlying52 rfl (by kernel_rfl) ?_
       go_wp2_with fail
       refine (reading_any 16 r _ (by omega)).mono ?_
       rintro e V16 ⟨rfl, hV16⟩
       replace q1 := q1.below hV16 q1.lt
       replace q2 := q2.below hV16 q2.lt
       replace q3 := q3.below hV16 q3.lt
       replace hg := hg.go hV16
       have B_V16 := ex_trans B_V15 hV16
       rw [T0.out]
       have a5 : V16.cell? ⟨pq1, 5, none⟩ = some (.int .i64 t.k.lo) := q1.cell 5
       have a6 : V16.cell? ⟨pq1, 6, none⟩ = some (.int .i64 t.k.hi) := q1.cell 6
       have la := q1.lt
       have c1 : V16.cell? ⟨pq3, 1, none⟩ = some (.int .i64 x.k) := q3.cell 1
       have lc := q3.lt
       go_wp2_with fail
       refine (sm_has _ _ _ _).mono ?_
       rintro e V17 ⟨rfl, hV17⟩
       replace q1 := q1.below hV17 q1.lt
       replace q2 := q2.below hV17 q2.lt
       replace q3 := q3.below hV17 q3.lt
       replace hg := hg.go hV17
       have B_V17 := ex_trans B_V16 hV17
       clear a5 a6 la
       clear c1 lc
       rw [T1.out]
       have a7 : V17.cell? ⟨pq1, 7, none⟩ = some (.int .i64 t.lag.lo) := q1.cell 7
       have a8 : V17.cell? ⟨pq1, 8, none⟩ = some (.int .i64 t.lag.hi) := q1.cell 8
       have la := q1.lt
       have c2 : V17.cell? ⟨pq3, 2, none⟩ = some (.int .i64 x.lag) := q3.cell 2
       have lc := q3.lt
       go_wp2_with fail
       refine (sm_has _ _ _ _).mono ?_
       rintro e V18 ⟨rfl, hV18⟩
       replace q1 := q1.below hV18 q1.lt
       replace q2 := q2.below hV18 q2.lt
       replace q3 := q3.below hV18 q3.lt
       replace hg := hg.go hV18
       have B_V18 := ex_trans B_V17 hV18
       clear c2 lc
       clear a7 a8 la
       rw [T2.out]
       have a9 : V18.cell? ⟨pq1, 9, none⟩ = some (.int .i64 t.sq.lo) := q1.cell 9
       have a10 : V18.cell? ⟨pq1, 10, none⟩ = some (.int .i64 t.sq.hi) := q1.cell 10
       have la := q1.lt
       have c3 : V18.cell? ⟨pq3, 3, none⟩ = some (.int .i64 x.sq) := q3.cell 3
       have lc := q3.lt
       go_wp2_with fail
       refine (sm_has _ _ _ _).mono ?_
       rintro e V19 ⟨rfl, hV19⟩
       replace q1 := q1.below hV19 q1.lt
       replace q2 := q2.below hV19 q2.lt
       replace q3 := q3.below hV19 q3.lt
       replace hg := hg.go hV19
       have B_V19 := ex_trans B_V18 hV19
       clear a9 a10 la
       clear c3 lc
       rw [T3.out]
       have b4 : V19.cell? ⟨pq2, 4, none⟩ = some (.int .i64 r.air.lo) := q2.cell 4
       have b5 : V19.cell? ⟨pq2, 5, none⟩ = some (.int .i64 r.air.hi) := q2.cell 5
       have lb := q2.lt
       have c4 : V19.cell? ⟨pq3, 4, none⟩ = some (.int .i64 x.air) := q3.cell 4
       have lc := q3.lt
       go_wp2_with fail
       refine (sm_has _ _ _ _).mono ?_
       rintro e V20 ⟨rfl, hV20⟩
       replace q1 := q1.below hV20 q1.lt
       replace q2 := q2.below hV20 q2.lt
       replace q3 := q3.below hV20 q3.lt
       replace hg := hg.go hV20
       have B_V20 := ex_trans B_V19 hV20
       clear b4 b5 lb
       clear c4 lc
       rw [T4.out]
       go_wp2
       go_ret2
       rw [HR.out.1, HR.out.2]
       exact ⟨rfl, B_V20⟩
      ·
       cases t5 : inB x.rate r.rate.lo r.rate.hi
       ·
        have HR := Lib.hid (play_no (r := r) (x := x) HC.out (by unfold txOk; rw [t0, t1, t2, t3, t4, t5]; rfl))
        have T0 := Lib.hid t0
        have T1 := Lib.hid t1
        have T2 := Lib.hid t2
        have T3 := Lib.hid t3
        have T4 := Lib.hid t4
        have T5 := Lib.hid t5
        clear t0 t1 t2 t3 t4 t5
        go_enter Tryz.func39, Tryz.ntmps39
        go_upto_region 1 with fail
        show Code.wp _ _ _ _ _
        refine box3 (K := fun V => Code.wp _ _ _ _ V) ?_
        intro V hb1 q1 q2 q3
        replace hg := hg.go hb1
        obtain ⟨pq1, hpq1⟩ : ∃ p, w.heap.size = p := ⟨_, rfl⟩
        obtain ⟨pq2, hpq2⟩ : ∃ p, w.heap.size + 1 = p := ⟨_, rfl⟩
        obtain ⟨pq3, hpq3⟩ : ∃ p, w.heap.size + 1 + 1 = p := ⟨_, rfl⟩
        rw [hpq3] at q3 ⊢
        rw [hpq2] at q2 ⊢
        rw [hpq1] at q1 ⊢
        have hp1 : w.heap.size ≤ pq1 := by omega
        have hp2 : w.heap.size ≤ pq2 := by omega
        have hp3 : w.heap.size ≤ pq3 := by omega
        clear hpq1 hpq2 hpq3
        go_wp2_with (refine pause_at 9 rfl ?_)
        refine Paused.mk ?_
        refine wpList_load_row rfl 45 _ rfl _ rfl 45 _ (0, 0) _ (q1) Tryz.underlying45 rfl (by kernel_rfl) ?_
        go_wp2_with fail
        refine (CheckTube_any t Ab Ad cb cd _ hg).mono ?_
        rintro e V21 ⟨rfl, hV21⟩
        replace q1 := q1.below hV21 q1.lt
        replace q2 := q2.below hV21 q2.lt
        replace q3 := q3.below hV21 q3.lt
        replace hg := hg.go hV21
        have B_V21 := ex_trans hb1 hV21
        rw [HC.out]
        go_wp2_with (refine pause_at 14 rfl ?_)
        refine Paused.mk ?_
        refine wpList_load_row rfl 52 _ rfl _ rfl 52 _ (0, 0) _ (q2) Tryz.underlying52 rfl (by kernel_rfl) ?_
        go_wp2_with fail
        refine (reading_any 16 r _ (by omega)).mono ?_
        rintro e V22 ⟨rfl, hV22⟩
        replace q1 := q1.below hV22 q1.lt
        replace q2 := q2.below hV22 q2.lt
        replace q3 := q3.below hV22 q3.lt
        replace hg := hg.go hV22
        have B_V22 := ex_trans B_V21 hV22
        rw [T0.out]
        have a5 : V22.cell? ⟨pq1, 5, none⟩ = some (.int .i64 t.k.lo) := q1.cell 5
        have a6 : V22.cell? ⟨pq1, 6, none⟩ = some (.int .i64 t.k.hi) := q1.cell 6
        have la := q1.lt
        have c1 : V22.cell? ⟨pq3, 1, none⟩ = some (.int .i64 x.k) := q3.cell 1
        have lc := q3.lt
        go_wp2_with fail
        refine (sm_has _ _ _ _).mono ?_
        rintro e V23 ⟨rfl, hV23⟩
        replace q1 := q1.below hV23 q1.lt
        replace q2 := q2.below hV23 q2.lt
        replace q3 := q3.below hV23 q3.lt
        replace hg := hg.go hV23
        have B_V23 := ex_trans B_V22 hV23
        clear a5 a6 la
        clear c1 lc
        rw [T1.out]
        have a7 : V23.cell? ⟨pq1, 7, none⟩ = some (.int .i64 t.lag.lo) := q1.cell 7
        have a8 : V23.cell? ⟨pq1, 8, none⟩ = some (.int .i64 t.lag.hi) := q1.cell 8
        have la := q1.lt
        have c2 : V23.cell? ⟨pq3, 2, none⟩ = some (.int .i64 x.lag) := q3.cell 2
        have lc := q3.lt
        go_wp2_with fail
        refine (sm_has _ _ _ _).mono ?_
        rintro e V24 ⟨rfl, hV24⟩
        replace q1 := q1.below hV24 q1.lt
        replace q2 := q2.below hV24 q2.lt
        replace q3 := q3.below hV24 q3.lt
        replace hg := hg.go hV24
        have B_V24 := ex_trans B_V23 hV24
        clear c2 lc
        clear a7 a8 la
        rw [T2.out]
        have a9 : V24.cell? ⟨pq1, 9, none⟩ = some (.int .i64 t.sq.lo) := q1.cell 9
        have a10 : V24.cell? ⟨pq1, 10, none⟩ = some (.int .i64 t.sq.hi) := q1.cell 10
        have la := q1.lt
        have c3 : V24.cell? ⟨pq3, 3, none⟩ = some (.int .i64 x.sq) := q3.cell 3
        have lc := q3.lt
        go_wp2_with fail
        refine (sm_has _ _ _ _).mono ?_
        rintro e V25 ⟨rfl, hV25⟩
        replace q1 := q1.below hV25 q1.lt
        replace q2 := q2.below hV25 q2.lt
        replace q3 := q3.below hV25 q3.lt
        replace hg := hg.go hV25
        have B_V25 := ex_trans B_V24 hV25
        clear a9 a10 la
        clear c3 lc
        rw [T3.out]
        have b4 : V25.cell? ⟨pq2, 4, none⟩ = some (.int .i64 r.air.lo) := q2.cell 4
        have b5 : V25.cell? ⟨pq2, 5, none⟩ = some (.int .i64 r.air.hi) := q2.cell 5
        have lb := q2.lt
        have c4 : V25.cell? ⟨pq3, 4, none⟩ = some (.int .i64 x.air) := q3.cell 4
        have lc := q3.lt
        go_wp2_with fail
        refine (sm_has _ _ _ _).mono ?_
        rintro e V26 ⟨rfl, hV26⟩
        replace q1 := q1.below hV26 q1.lt
        replace q2 := q2.below hV26 q2.lt
        replace q3 := q3.below hV26 q3.lt
        replace hg := hg.go hV26
        have B_V26 := ex_trans B_V25 hV26
        clear b4 b5 lb
        clear c4 lc
        rw [T4.out]
        have b6 : V26.cell? ⟨pq2, 6, none⟩ = some (.int .i64 r.rate.lo) := q2.cell 6
        have b7 : V26.cell? ⟨pq2, 7, none⟩ = some (.int .i64 r.rate.hi) := q2.cell 7
        have lb := q2.lt
        have c5 : V26.cell? ⟨pq3, 5, none⟩ = some (.int .i64 x.rate) := q3.cell 5
        have lc := q3.lt
        go_wp2_with fail
        refine (sm_has _ _ _ _).mono ?_
        rintro e V27 ⟨rfl, hV27⟩
        replace q1 := q1.below hV27 q1.lt
        replace q2 := q2.below hV27 q2.lt
        replace q3 := q3.below hV27 q3.lt
        replace hg := hg.go hV27
        have B_V27 := ex_trans B_V26 hV27
        clear c5 lc
        clear b6 b7 lb
        rw [T5.out]
        go_wp2
        go_ret2
        rw [HR.out.1, HR.out.2]
        exact ⟨rfl, B_V27⟩
       ·
        cases t6 : inB x.off (-r.err) r.err
        ·
         have HR := Lib.hid (play_no (r := r) (x := x) HC.out (by unfold txOk; rw [t0, t1, t2, t3, t4, t5, t6]; rfl))
         have T0 := Lib.hid t0
         have T1 := Lib.hid t1
         have T2 := Lib.hid t2
         have T3 := Lib.hid t3
         have T4 := Lib.hid t4
         have T5 := Lib.hid t5
         have T6 := Lib.hid t6
         clear t0 t1 t2 t3 t4 t5 t6
         go_enter Tryz.func39, Tryz.ntmps39
         go_upto_region 1 with fail
         show Code.wp _ _ _ _ _
         refine box3 (K := fun V => Code.wp _ _ _ _ V) ?_
         intro V hb1 q1 q2 q3
         replace hg := hg.go hb1
         obtain ⟨pq1, hpq1⟩ : ∃ p, w.heap.size = p := ⟨_, rfl⟩
         obtain ⟨pq2, hpq2⟩ : ∃ p, w.heap.size + 1 = p := ⟨_, rfl⟩
         obtain ⟨pq3, hpq3⟩ : ∃ p, w.heap.size + 1 + 1 = p := ⟨_, rfl⟩
         rw [hpq3] at q3 ⊢
         rw [hpq2] at q2 ⊢
         rw [hpq1] at q1 ⊢
         have hp1 : w.heap.size ≤ pq1 := by omega
         have hp2 : w.heap.size ≤ pq2 := by omega
         have hp3 : w.heap.size ≤ pq3 := by omega
         clear hpq1 hpq2 hpq3
         go_wp2_with (refine pause_at 9 rfl ?_)
         refine Paused.mk ?_
         refine wpList_load_row rfl 45 _ rfl _ rfl 45 _ (0, 0) _ (q1) Tryz.underlying45 rfl (by kernel_rfl) ?_
         go_wp2_with fail
         refine (CheckTube_any t Ab Ad cb cd _ hg).mono ?_
         rintro e V28 ⟨rfl, hV28⟩
         replace q1 := q1.below hV28 q1.lt
         replace q2 := q2.below hV28 q2.lt
         replace q3 := q3.below hV28 q3.lt
         replace hg := hg.go hV28
         have B_V28 := ex_trans hb1 hV28
         rw [HC.out]
         go_wp2_with (refine pause_at 14 rfl ?_)
         refine Paused.mk ?_
         refine wpList_load_row rfl 52 _ rfl _ rfl 52 _ (0, 0) _ (q2) Tryz.underlying52 rfl (by kernel_rfl) ?_
         go_wp2_with fail
         refine (reading_any 16 r _ (by omega)).mono ?_
         rintro e V29 ⟨rfl, hV29⟩
         replace q1 := q1.below hV29 q1.lt
         replace q2 := q2.below hV29 q2.lt
         replace q3 := q3.below hV29 q3.lt
         replace hg := hg.go hV29
         have B_V29 := ex_trans B_V28 hV29
         rw [T0.out]
         have a5 : V29.cell? ⟨pq1, 5, none⟩ = some (.int .i64 t.k.lo) := q1.cell 5
         have a6 : V29.cell? ⟨pq1, 6, none⟩ = some (.int .i64 t.k.hi) := q1.cell 6
         have la := q1.lt
         have c1 : V29.cell? ⟨pq3, 1, none⟩ = some (.int .i64 x.k) := q3.cell 1
         have lc := q3.lt
         go_wp2_with fail
         refine (sm_has _ _ _ _).mono ?_
         rintro e V30 ⟨rfl, hV30⟩
         replace q1 := q1.below hV30 q1.lt
         replace q2 := q2.below hV30 q2.lt
         replace q3 := q3.below hV30 q3.lt
         replace hg := hg.go hV30
         have B_V30 := ex_trans B_V29 hV30
         clear a5 a6 la
         clear c1 lc
         rw [T1.out]
         have a7 : V30.cell? ⟨pq1, 7, none⟩ = some (.int .i64 t.lag.lo) := q1.cell 7
         have a8 : V30.cell? ⟨pq1, 8, none⟩ = some (.int .i64 t.lag.hi) := q1.cell 8
         have la := q1.lt
         have c2 : V30.cell? ⟨pq3, 2, none⟩ = some (.int .i64 x.lag) := q3.cell 2
         have lc := q3.lt
         go_wp2_with fail
         refine (sm_has _ _ _ _).mono ?_
         rintro e V31 ⟨rfl, hV31⟩
         replace q1 := q1.below hV31 q1.lt
         replace q2 := q2.below hV31 q2.lt
         replace q3 := q3.below hV31 q3.lt
         replace hg := hg.go hV31
         have B_V31 := ex_trans B_V30 hV31
         clear c2 lc
         clear a7 a8 la
         rw [T2.out]
         have a9 : V31.cell? ⟨pq1, 9, none⟩ = some (.int .i64 t.sq.lo) := q1.cell 9
         have a10 : V31.cell? ⟨pq1, 10, none⟩ = some (.int .i64 t.sq.hi) := q1.cell 10
         have la := q1.lt
         have c3 : V31.cell? ⟨pq3, 3, none⟩ = some (.int .i64 x.sq) := q3.cell 3
         have lc := q3.lt
         go_wp2_with fail
         refine (sm_has _ _ _ _).mono ?_
         rintro e V32 ⟨rfl, hV32⟩
         replace q1 := q1.below hV32 q1.lt
         replace q2 := q2.below hV32 q2.lt
         replace q3 := q3.below hV32 q3.lt
         replace hg := hg.go hV32
         have B_V32 := ex_trans B_V31 hV32
         clear a9 a10 la
         clear c3 lc
         rw [T3.out]
         have b4 : V32.cell? ⟨pq2, 4, none⟩ = some (.int .i64 r.air.lo) := q2.cell 4
         have b5 : V32.cell? ⟨pq2, 5, none⟩ = some (.int .i64 r.air.hi) := q2.cell 5
         have lb := q2.lt
         have c4 : V32.cell? ⟨pq3, 4, none⟩ = some (.int .i64 x.air) := q3.cell 4
         have lc := q3.lt
         go_wp2_with fail
         refine (sm_has _ _ _ _).mono ?_
         rintro e V33 ⟨rfl, hV33⟩
         replace q1 := q1.below hV33 q1.lt
         replace q2 := q2.below hV33 q2.lt
         replace q3 := q3.below hV33 q3.lt
         replace hg := hg.go hV33
         have B_V33 := ex_trans B_V32 hV33
         clear b4 b5 lb
         clear c4 lc
         rw [T4.out]
         have b6 : V33.cell? ⟨pq2, 6, none⟩ = some (.int .i64 r.rate.lo) := q2.cell 6
         have b7 : V33.cell? ⟨pq2, 7, none⟩ = some (.int .i64 r.rate.hi) := q2.cell 7
         have lb := q2.lt
         have c5 : V33.cell? ⟨pq3, 5, none⟩ = some (.int .i64 x.rate) := q3.cell 5
         have lc := q3.lt
         go_wp2_with fail
         refine (sm_has _ _ _ _).mono ?_
         rintro e V34 ⟨rfl, hV34⟩
         replace q1 := q1.below hV34 q1.lt
         replace q2 := q2.below hV34 q2.lt
         replace q3 := q3.below hV34 q3.lt
         replace hg := hg.go hV34
         have B_V34 := ex_trans B_V33 hV34
         clear c5 lc
         clear b6 b7 lb
         rw [T5.out]
         have b2 : V34.cell? ⟨pq2, 2, none⟩ = some (.int .i64 r.err) := q2.cell 2
         have lb := q2.lt
         have c6 : V34.cell? ⟨pq3, 6, none⟩ = some (.int .i64 x.off) := q3.cell 6
         have lc := q3.lt
         go_wp2_with fail
         refine (sm_within _ _ _ _).mono ?_
         rintro e w' ⟨rfl, rfl⟩
         clear b2 lb
         clear c6 lc
         rw [T6.out]
         go_wp2
         go_ret2
         rw [HR.out.1, HR.out.2]
         exact ⟨rfl, B_V34⟩
        ·
         cases t7 : inB x.zero (-2000) 2000
         ·
          have HR := Lib.hid (play_no (r := r) (x := x) HC.out (by unfold txOk; rw [t0, t1, t2, t3, t4, t5, t6, t7]; rfl))
          have T0 := Lib.hid t0
          have T1 := Lib.hid t1
          have T2 := Lib.hid t2
          have T3 := Lib.hid t3
          have T4 := Lib.hid t4
          have T5 := Lib.hid t5
          have T6 := Lib.hid t6
          have T7 := Lib.hid t7
          clear t0 t1 t2 t3 t4 t5 t6 t7
          go_enter Tryz.func39, Tryz.ntmps39
          go_upto_region 1 with fail
          show Code.wp _ _ _ _ _
          refine box3 (K := fun V => Code.wp _ _ _ _ V) ?_
          intro V hb1 q1 q2 q3
          replace hg := hg.go hb1
          obtain ⟨pq1, hpq1⟩ : ∃ p, w.heap.size = p := ⟨_, rfl⟩
          obtain ⟨pq2, hpq2⟩ : ∃ p, w.heap.size + 1 = p := ⟨_, rfl⟩
          obtain ⟨pq3, hpq3⟩ : ∃ p, w.heap.size + 1 + 1 = p := ⟨_, rfl⟩
          rw [hpq3] at q3 ⊢
          rw [hpq2] at q2 ⊢
          rw [hpq1] at q1 ⊢
          have hp1 : w.heap.size ≤ pq1 := by omega
          have hp2 : w.heap.size ≤ pq2 := by omega
          have hp3 : w.heap.size ≤ pq3 := by omega
          clear hpq1 hpq2 hpq3
          go_wp2_with (refine pause_at 9 rfl ?_)
          refine Paused.mk ?_
          refine wpList_load_row rfl 45 _ rfl _ rfl 45 _ (0, 0) _ (q1) Tryz.underlying45 rfl (by kernel_rfl) ?_
          go_wp2_with fail
          refine (CheckTube_any t Ab Ad cb cd _ hg).mono ?_
          rintro e V35 ⟨rfl, hV35⟩
          replace q1 := q1.below hV35 q1.lt
          replace q2 := q2.below hV35 q2.lt
          replace q3 := q3.below hV35 q3.lt
          replace hg := hg.go hV35
          have B_V35 := ex_trans hb1 hV35
          rw [HC.out]
          go_wp2_with (refine pause_at 14 rfl ?_)
          refine Paused.mk ?_
          refine wpList_load_row rfl 52 _ rfl _ rfl 52 _ (0, 0) _ (q2) Tryz.underlying52 rfl (by kernel_rfl) ?_
          go_wp2_with fail
          refine (reading_any 16 r _ (by omega)).mono ?_
          rintro e V36 ⟨rfl, hV36⟩
          replace q1 := q1.below hV36 q1.lt
          replace q2 := q2.below hV36 q2.lt
          replace q3 := q3.below hV36 q3.lt
          replace hg := hg.go hV36
          have B_V36 := ex_trans B_V35 hV36
          rw [T0.out]
          have a5 : V36.cell? ⟨pq1, 5, none⟩ = some (.int .i64 t.k.lo) := q1.cell 5
          have a6 : V36.cell? ⟨pq1, 6, none⟩ = some (.int .i64 t.k.hi) := q1.cell 6
          have la := q1.lt
          have c1 : V36.cell? ⟨pq3, 1, none⟩ = some (.int .i64 x.k) := q3.cell 1
          have lc := q3.lt
          go_wp2_with fail
          refine (sm_has _ _ _ _).mono ?_
          rintro e V37 ⟨rfl, hV37⟩
          replace q1 := q1.below hV37 q1.lt
          replace q2 := q2.below hV37 q2.lt
          replace q3 := q3.below hV37 q3.lt
          replace hg := hg.go hV37
          have B_V37 := ex_trans B_V36 hV37
          clear a5 a6 la
          clear c1 lc
          rw [T1.out]
          have a7 : V37.cell? ⟨pq1, 7, none⟩ = some (.int .i64 t.lag.lo) := q1.cell 7
          have a8 : V37.cell? ⟨pq1, 8, none⟩ = some (.int .i64 t.lag.hi) := q1.cell 8
          have la := q1.lt
          have c2 : V37.cell? ⟨pq3, 2, none⟩ = some (.int .i64 x.lag) := q3.cell 2
          have lc := q3.lt
          go_wp2_with fail
          refine (sm_has _ _ _ _).mono ?_
          rintro e V38 ⟨rfl, hV38⟩
          replace q1 := q1.below hV38 q1.lt
          replace q2 := q2.below hV38 q2.lt
          replace q3 := q3.below hV38 q3.lt
          replace hg := hg.go hV38
          have B_V38 := ex_trans B_V37 hV38
          clear c2 lc
          clear a7 a8 la
          rw [T2.out]
          have a9 : V38.cell? ⟨pq1, 9, none⟩ = some (.int .i64 t.sq.lo) := q1.cell 9
          have a10 : V38.cell? ⟨pq1, 10, none⟩ = some (.int .i64 t.sq.hi) := q1.cell 10
          have la := q1.lt
          have c3 : V38.cell? ⟨pq3, 3, none⟩ = some (.int .i64 x.sq) := q3.cell 3
          have lc := q3.lt
          go_wp2_with fail
          refine (sm_has _ _ _ _).mono ?_
          rintro e V39 ⟨rfl, hV39⟩
          replace q1 := q1.below hV39 q1.lt
          replace q2 := q2.below hV39 q2.lt
          replace q3 := q3.below hV39 q3.lt
          replace hg := hg.go hV39
          have B_V39 := ex_trans B_V38 hV39
          clear a9 a10 la
          clear c3 lc
          rw [T3.out]
          have b4 : V39.cell? ⟨pq2, 4, none⟩ = some (.int .i64 r.air.lo) := q2.cell 4
          have b5 : V39.cell? ⟨pq2, 5, none⟩ = some (.int .i64 r.air.hi) := q2.cell 5
          have lb := q2.lt
          have c4 : V39.cell? ⟨pq3, 4, none⟩ = some (.int .i64 x.air) := q3.cell 4
          have lc := q3.lt
          go_wp2_with fail
          refine (sm_has _ _ _ _).mono ?_
          rintro e V40 ⟨rfl, hV40⟩
          replace q1 := q1.below hV40 q1.lt
          replace q2 := q2.below hV40 q2.lt
          replace q3 := q3.below hV40 q3.lt
          replace hg := hg.go hV40
          have B_V40 := ex_trans B_V39 hV40
          clear b4 b5 lb
          clear c4 lc
          rw [T4.out]
          have b6 : V40.cell? ⟨pq2, 6, none⟩ = some (.int .i64 r.rate.lo) := q2.cell 6
          have b7 : V40.cell? ⟨pq2, 7, none⟩ = some (.int .i64 r.rate.hi) := q2.cell 7
          have lb := q2.lt
          have c5 : V40.cell? ⟨pq3, 5, none⟩ = some (.int .i64 x.rate) := q3.cell 5
          have lc := q3.lt
          go_wp2_with fail
          refine (sm_has _ _ _ _).mono ?_
          rintro e V41 ⟨rfl, hV41⟩
          replace q1 := q1.below hV41 q1.lt
          replace q2 := q2.below hV41 q2.lt
          replace q3 := q3.below hV41 q3.lt
          replace hg := hg.go hV41
          have B_V41 := ex_trans B_V40 hV41
          clear c5 lc
          clear b6 b7 lb
          rw [T5.out]
          have b2 : V41.cell? ⟨pq2, 2, none⟩ = some (.int .i64 r.err) := q2.cell 2
          have lb := q2.lt
          have c6 : V41.cell? ⟨pq3, 6, none⟩ = some (.int .i64 x.off) := q3.cell 6
          have lc := q3.lt
          go_wp2_with fail
          refine (sm_within _ _ _ _).mono ?_
          rintro e w' ⟨rfl, rfl⟩
          clear b2 lb
          clear c6 lc
          rw [T6.out]
          have c0 : V41.cell? ⟨pq3, 0, none⟩ = some (.int .i64 x.zero) := q3.cell 0
          have lc := q3.lt
          go_wp2_with fail
          refine (sm_within _ _ _ _).mono ?_
          rintro e w' ⟨rfl, rfl⟩
          clear c0 lc
          rw [T7.out]
          go_wp2
          go_ret2
          rw [HR.out.1, HR.out.2]
          exact ⟨rfl, B_V41⟩
         ·
          have HT : Hid ((rdOk 16 r && txOk t r x) = true) := Lib.hid (by unfold txOk; rw [t0, t1, t2, t3, t4, t5, t6, t7]; rfl)
          have HR := Lib.hid (play_ok HC.out HT.out)
          have HRD := Lib.hid (rdOk_iff.1 t0).2
          have T0 := Lib.hid t0
          have T1 := Lib.hid t1
          have T2 := Lib.hid t2
          have T3 := Lib.hid t3
          have T4 := Lib.hid t4
          have T5 := Lib.hid t5
          have T6 := Lib.hid t6
          have T7 := Lib.hid t7
          clear t0 t1 t2 t3 t4 t5 t6 t7
          go_enter Tryz.func39, Tryz.ntmps39
          go_upto_region 1 with fail
          show Code.wp _ _ _ _ _
          refine box3 (K := fun V => Code.wp _ _ _ _ V) ?_
          intro V hb1 q1 q2 q3
          replace hg := hg.go hb1
          obtain ⟨pq1, hpq1⟩ : ∃ p, w.heap.size = p := ⟨_, rfl⟩
          obtain ⟨pq2, hpq2⟩ : ∃ p, w.heap.size + 1 = p := ⟨_, rfl⟩
          obtain ⟨pq3, hpq3⟩ : ∃ p, w.heap.size + 1 + 1 = p := ⟨_, rfl⟩
          rw [hpq3] at q3 ⊢
          rw [hpq2] at q2 ⊢
          rw [hpq1] at q1 ⊢
          have hp1 : w.heap.size ≤ pq1 := by omega
          have hp2 : w.heap.size ≤ pq2 := by omega
          have hp3 : w.heap.size ≤ pq3 := by omega
          clear hpq1 hpq2 hpq3
          go_wp2_with (refine pause_at 9 rfl ?_)
          refine Paused.mk ?_
          refine wpList_load_row rfl 45 _ rfl _ rfl 45 _ (0, 0) _ (q1) Tryz.underlying45 rfl (by kernel_rfl) ?_
          go_wp2_with fail
          refine (CheckTube_any t Ab Ad cb cd _ hg).mono ?_
          rintro e V42 ⟨rfl, hV42⟩
          replace q1 := q1.below hV42 q1.lt
          replace q2 := q2.below hV42 q2.lt
          replace q3 := q3.below hV42 q3.lt
          replace hg := hg.go hV42
          have B_V42 := ex_trans hb1 hV42
          rw [HC.out]
          go_wp2_with (refine pause_at 14 rfl ?_)
          refine Paused.mk ?_
          refine wpList_load_row rfl 52 _ rfl _ rfl 52 _ (0, 0) _ (q2) Tryz.underlying52 rfl (by kernel_rfl) ?_
          go_wp2_with fail
          refine (reading_any 16 r _ (by omega)).mono ?_
          rintro e V43 ⟨rfl, hV43⟩
          replace q1 := q1.below hV43 q1.lt
          replace q2 := q2.below hV43 q2.lt
          replace q3 := q3.below hV43 q3.lt
          replace hg := hg.go hV43
          have B_V43 := ex_trans B_V42 hV43
          rw [T0.out]
          have a5 : V43.cell? ⟨pq1, 5, none⟩ = some (.int .i64 t.k.lo) := q1.cell 5
          have a6 : V43.cell? ⟨pq1, 6, none⟩ = some (.int .i64 t.k.hi) := q1.cell 6
          have la := q1.lt
          have c1 : V43.cell? ⟨pq3, 1, none⟩ = some (.int .i64 x.k) := q3.cell 1
          have lc := q3.lt
          go_wp2_with fail
          refine (sm_has _ _ _ _).mono ?_
          rintro e V44 ⟨rfl, hV44⟩
          replace q1 := q1.below hV44 q1.lt
          replace q2 := q2.below hV44 q2.lt
          replace q3 := q3.below hV44 q3.lt
          replace hg := hg.go hV44
          have B_V44 := ex_trans B_V43 hV44
          clear a5 a6 la
          clear c1 lc
          rw [T1.out]
          have a7 : V44.cell? ⟨pq1, 7, none⟩ = some (.int .i64 t.lag.lo) := q1.cell 7
          have a8 : V44.cell? ⟨pq1, 8, none⟩ = some (.int .i64 t.lag.hi) := q1.cell 8
          have la := q1.lt
          have c2 : V44.cell? ⟨pq3, 2, none⟩ = some (.int .i64 x.lag) := q3.cell 2
          have lc := q3.lt
          go_wp2_with fail
          refine (sm_has _ _ _ _).mono ?_
          rintro e V45 ⟨rfl, hV45⟩
          replace q1 := q1.below hV45 q1.lt
          replace q2 := q2.below hV45 q2.lt
          replace q3 := q3.below hV45 q3.lt
          replace hg := hg.go hV45
          have B_V45 := ex_trans B_V44 hV45
          clear c2 lc
          clear a7 a8 la
          rw [T2.out]
          have a9 : V45.cell? ⟨pq1, 9, none⟩ = some (.int .i64 t.sq.lo) := q1.cell 9
          have a10 : V45.cell? ⟨pq1, 10, none⟩ = some (.int .i64 t.sq.hi) := q1.cell 10
          have la := q1.lt
          have c3 : V45.cell? ⟨pq3, 3, none⟩ = some (.int .i64 x.sq) := q3.cell 3
          have lc := q3.lt
          go_wp2_with fail
          refine (sm_has _ _ _ _).mono ?_
          rintro e V46 ⟨rfl, hV46⟩
          replace q1 := q1.below hV46 q1.lt
          replace q2 := q2.below hV46 q2.lt
          replace q3 := q3.below hV46 q3.lt
          replace hg := hg.go hV46
          have B_V46 := ex_trans B_V45 hV46
          clear a9 a10 la
          clear c3 lc
          rw [T3.out]
          have b4 : V46.cell? ⟨pq2, 4, none⟩ = some (.int .i64 r.air.lo) := q2.cell 4
          have b5 : V46.cell? ⟨pq2, 5, none⟩ = some (.int .i64 r.air.hi) := q2.cell 5
          have lb := q2.lt
          have c4 : V46.cell? ⟨pq3, 4, none⟩ = some (.int .i64 x.air) := q3.cell 4
          have lc := q3.lt
          go_wp2_with fail
          refine (sm_has _ _ _ _).mono ?_
          rintro e V47 ⟨rfl, hV47⟩
          replace q1 := q1.below hV47 q1.lt
          replace q2 := q2.below hV47 q2.lt
          replace q3 := q3.below hV47 q3.lt
          replace hg := hg.go hV47
          have B_V47 := ex_trans B_V46 hV47
          clear b4 b5 lb
          clear c4 lc
          rw [T4.out]
          have b6 : V47.cell? ⟨pq2, 6, none⟩ = some (.int .i64 r.rate.lo) := q2.cell 6
          have b7 : V47.cell? ⟨pq2, 7, none⟩ = some (.int .i64 r.rate.hi) := q2.cell 7
          have lb := q2.lt
          have c5 : V47.cell? ⟨pq3, 5, none⟩ = some (.int .i64 x.rate) := q3.cell 5
          have lc := q3.lt
          go_wp2_with fail
          refine (sm_has _ _ _ _).mono ?_
          rintro e V48 ⟨rfl, hV48⟩
          replace q1 := q1.below hV48 q1.lt
          replace q2 := q2.below hV48 q2.lt
          replace q3 := q3.below hV48 q3.lt
          replace hg := hg.go hV48
          have B_V48 := ex_trans B_V47 hV48
          clear c5 lc
          clear b6 b7 lb
          rw [T5.out]
          have b2 : V48.cell? ⟨pq2, 2, none⟩ = some (.int .i64 r.err) := q2.cell 2
          have lb := q2.lt
          have c6 : V48.cell? ⟨pq3, 6, none⟩ = some (.int .i64 x.off) := q3.cell 6
          have lc := q3.lt
          go_wp2_with fail
          refine (sm_within _ _ _ _).mono ?_
          rintro e w' ⟨rfl, rfl⟩
          clear b2 lb
          clear c6 lc
          rw [T6.out]
          have c0 : V48.cell? ⟨pq3, 0, none⟩ = some (.int .i64 x.zero) := q3.cell 0
          have lc := q3.lt
          go_wp2_with fail
          refine (sm_within _ _ _ _).mono ?_
          rintro e w' ⟨rfl, rfl⟩
          clear c0 lc
          rw [T7.out]
          have ht := ck_bd HC.out
          have hx := txOk_iff.1 (by have h := HT.out; rw [Bool.and_eq_true] at h; exact h.2)
          have hq := hx.ki.bd ht
          have ha : -100 ≤ x.air ∧ x.air ≤ 100 := by have := hx.air; have := HRD.out.air; omega
          have hra : -20 ≤ x.rate ∧ x.rate ≤ 20 := by have := hx.rate; have := HRD.out.rate; omega
          have ho : -20 ≤ x.off ∧ x.off ≤ 20 := by have := hx.off; have := HRD.out.err; omega
          have hwb := woP_bd hq HRD.out ha hra ho
          have hz := hx.zero
          clear ht hx
          have c0 : V48.cell? ⟨pq3, 0, none⟩ = some (.int .i64 x.zero) := q3.cell 0
          have c1 : V48.cell? ⟨pq3, 1, none⟩ = some (.int .i64 x.k) := q3.cell 1
          have c2 : V48.cell? ⟨pq3, 2, none⟩ = some (.int .i64 x.lag) := q3.cell 2
          have c3 : V48.cell? ⟨pq3, 3, none⟩ = some (.int .i64 x.sq) := q3.cell 3
          have c4 : V48.cell? ⟨pq3, 4, none⟩ = some (.int .i64 x.air) := q3.cell 4
          have c5 : V48.cell? ⟨pq3, 5, none⟩ = some (.int .i64 x.rate) := q3.cell 5
          have c6 : V48.cell? ⟨pq3, 6, none⟩ = some (.int .i64 x.off) := q3.cell 6
          have lc := q3.lt
          go_wp2_with fail
          refine wp_region_ext (by kernel_rfl) (by kernel_rfl) ?_
          refine wpQuiet_load_row rfl 45 _ rfl _ rfl 45 _ (0, 0) _ q1.ex Tryz.underlying45 rfl (by kernel_rfl) ?_
          simp only [Act.put, List.setIfInBounds_toArray, List.set_cons_zero, List.set_cons_succ]
          refine wpQuiet_load_row rfl 52 _ rfl _ rfl 52 _ (0, 0) _ q2.ex Tryz.underlying52 rfl (by kernel_rfl) ?_
          simp only [Act.put, List.setIfInBounds_toArray, List.set_cons_zero, List.set_cons_succ]
          repeat (go_big_quiet_step ((go_at_call 88; exact Calls.ext_of (without_any t Ab Ad cb cd r x.ki _ _ _ _ HRD.out hq ha hra ho))))
          refine wpQuiet_nil ?_; intro _ hw'; obtain ⟨X, rfl⟩ := hw'
          go_wp2
          go_ret2
          rw [HR.out.1, HR.out.2]
          exact ⟨rfl, ex_trans B_V48 X.h⟩
 ·
  have HR := Lib.hid (play_ck (r := r) (x := x) hc)
  have e1 : (ckTube t != 0) = true := by simp [hc]
  clear hc
  go_enter Tryz.func39, Tryz.ntmps39
  go_upto_region 1 with fail
  show Code.wp _ _ _ _ _
  refine box3 (K := fun V => Code.wp _ _ _ _ V) ?_
  intro V hb1 q1 q2 q3
  replace hg := hg.go hb1
  obtain ⟨pq1, hpq1⟩ : ∃ p, w.heap.size = p := ⟨_, rfl⟩
  obtain ⟨pq2, hpq2⟩ : ∃ p, w.heap.size + 1 = p := ⟨_, rfl⟩
  obtain ⟨pq3, hpq3⟩ : ∃ p, w.heap.size + 1 + 1 = p := ⟨_, rfl⟩
  rw [hpq3] at q3 ⊢
  rw [hpq2] at q2 ⊢
  rw [hpq1] at q1 ⊢
  have hp1 : w.heap.size ≤ pq1 := by omega
  have hp2 : w.heap.size ≤ pq2 := by omega
  have hp3 : w.heap.size ≤ pq3 := by omega
  clear hpq1 hpq2 hpq3
  go_wp2_with (refine pause_at 9 rfl ?_)
  refine Paused.mk ?_
  refine wpList_load_row rfl 45 _ rfl _ rfl 45 _ (0, 0) _ (q1) Tryz.underlying45 rfl (by kernel_rfl) ?_
  go_wp2_with fail
  refine (CheckTube_any t Ab Ad cb cd _ hg).mono ?_
  rintro e V49 ⟨rfl, hV49⟩
  replace q1 := q1.below hV49 q1.lt
  replace q2 := q2.below hV49 q2.lt
  replace q3 := q3.below hV49 q3.lt
  replace hg := hg.go hV49
  have B_V49 := ex_trans hb1 hV49
  go_wp2
  go_ret2
  rw [HR.out.1, HR.out.2]
  exact ⟨rfl, B_V49⟩

end Go.Proofs.YtkaogjhnogkcdaaGreat
end

section
namespace Go.Proofs.YtkaogjhnogkcdaaGreat
open Go.RowKit
attribute [local go_sem] Ex.cell? Ex.frozen?

end Go.Proofs.YtkaogjhnogkcdaaGreat
end

section
namespace Go.Proofs.YtkaogjhnogkcdaaGreat

noncomputable def leadsB (blo bhi : Int) (D : List Int) (f t : Int) : Bool := @decide (∃ b, (blo ≤ b ∧ b ≤ bhi) ∧ ∃ k, k < D.length ∧ mx3 (f - b) 0 (gI D k) = t) (Classical.propDecidable _)
theorem leadsB_iff {blo bhi : Int} {D : List Int} {f t : Int} : leadsB blo bhi D f t = true ↔ ∃ b, (blo ≤ b ∧ b ≤ bhi) ∧ ∃ k, k < D.length ∧ mx3 (f - b) 0 (gI D k) = t := by
  unfold leadsB; letI := Classical.propDecidable (∃ b, (blo ≤ b ∧ b ≤ bhi) ∧ ∃ k, k < D.length ∧ mx3 (f - b) 0 (gI D k) = t)
  rw [decide_eq_true_iff]

section
variable (g : Gl) (h : List Rg) (l : List Ic) (o : Nat → Bool) (D : List Int) (M : Nat → Nat → Nat → Bool)
def Gone (G : Nat → Nat → Nat → Bool) (e : Nat) : Prop := ∀ e' r s : Nat, e ≤ e' → e' ≤ h.length → r < 52 → s < 31 → (G e' r s = true ↔ Goes g h l o (h.length - e') e' ((r : Int), (s : Int)))
def Void (G : Nat → Nat → Nat → Bool) (e : Nat) : Prop := ∀ e' r s : Nat, e' < e → G e' r s = false
def Lead (G : Nat → Nat → Nat → Bool) (e r s : Nat) (c : Int) (f : Nat) : Prop := M e ((r : Int) - c).toNat f = true → leadsB g.blo g.bhi D (f : Int) (s : Int) = true → G e ((r : Int) - c).toNat f = true
structure QQ (e n m : Nat) (c : Int) (f : Nat) (G : Nat → Nat → Nat → Bool) : Prop where
  known : Gone g h l o G (e + 1)
  blank : Void G e
  sound : ∀ r s : Nat, G e r s = true → Goes g h l o (h.length - e) e ((r : Int), (s : Int))
  p2 : ∀ r s : Nat, r < n → s < 31 → G (e + 1) r s = true → ∀ c : Int, (creep g e).lo ≤ c → c ≤ (creep g e).hi → c ≤ r → ∀ f, f < 31 → Lead g D M G e r s c f
  p3 : ∀ s : Nat, s < m → G (e + 1) n s = true → ∀ c : Int, (creep g e).lo ≤ c → c ≤ (creep g e).hi → c ≤ n → ∀ f, f < 31 → Lead g D M G e n s c f
  p4 : ∀ c' : Int, (creep g e).lo ≤ c' → c' < c → ∀ f, f < 31 → Lead g D M G e n m c' f
  p5 : ∀ f', f' < f → Lead g D M G e n m c f'
end
section
variable {g : Gl} {h : List Rg} {l : List Ic} {o : Nat → Bool} {D : List Int} {M : Nat → Nat → Nat → Bool} {e n m f : Nat} {c : Int} {G : Nat → Nat → Nat → Bool}
theorem Lead.mono {r s : Nat} {G' : Nat → Nat → Nat → Bool} (h : Lead g D M G e r s c f) (hm : ∀ x y, G e x y = true → G' e x y = true) : Lead g D M G' e r s c f := fun h1 h2 => hm _ _ (h h1 h2)
theorem QQ.no (p : QQ g h l o D M e n m c f G) (hf : ¬ (M e ((n : Int) - c).toNat f = true ∧ leadsB g.blo g.bhi D (f : Int) (m : Int) = true)) : QQ g h l o D M e n m c (f + 1) G :=
  ⟨p.known, p.blank, p.sound, p.p2, p.p3, p.p4, fun f' hf' => by
    rcases Nat.lt_succ_iff_lt_or_eq.1 hf' with h1 | h1
    · exact p.p5 f' h1
    · subst h1; intro a b; exact absurd ⟨a, b⟩ hf⟩
theorem QQ.creep (p : QQ g h l o D M e n m c 31 G) : QQ g h l o D M e n m (c + 1) 0 G :=
  ⟨p.known, p.blank, p.sound, p.p2, p.p3, fun c' h1 h2 f hf => by
    rcases Int.lt_or_eq_of_le (show c' ≤ c by omega) with h5 | h5
    · exact p.p4 c' h1 h5 f hf
    · subst h5; exact p.p5 f hf, fun f hf => by omega⟩
theorem QQ.sink (p : QQ g h l o D M e n m c 0 G) (hc : (Go.Proofs.YtkaogjhnogkcdaaGreat.creep g e).hi < c ∨ (n : Int) < c ∨ G (e + 1) n m = false) : QQ g h l o D M e n (m + 1) (Go.Proofs.YtkaogjhnogkcdaaGreat.creep g e).lo 0 G :=
  ⟨p.known, p.blank, p.sound, p.p2, fun s hs hM c' h1 h2 h3 f hf => by
    rcases Nat.lt_succ_iff_lt_or_eq.1 hs with h5 | h5
    · exact p.p3 s h5 hM c' h1 h2 h3 f hf
    · subst h5
      rcases hc with hc | hc | hc
      · exact p.p4 c' h1 (by omega) f hf
      · exact p.p4 c' h1 (by omega) f hf
      · rw [hc] at hM; exact absurd hM (by simp), fun c' h1 h2 => by omega, fun f hf => by omega⟩
theorem QQ.rise (p : QQ g h l o D M e n 31 c f G) : QQ g h l o D M e (n + 1) 0 (Go.Proofs.YtkaogjhnogkcdaaGreat.creep g e).lo 0 G :=
  ⟨p.known, p.blank, p.sound, fun r s hr hs hM => by
    rcases Nat.lt_succ_iff_lt_or_eq.1 hr with h5 | h5
    · exact p.p2 r s h5 hs hM
    · subst h5; exact p.p3 s hs hM, fun s hs => by omega, fun c' h1 h2 => by omega, fun f hf => by omega⟩
theorem goes_bd (hok : Ok g h) {k d : Nat} (hd : d + k ≤ h.length) {t : St} (ht : Goes g h l o k d t) : (0 ≤ t.1 ∧ t.1 ≤ 3 * d) ∧ (0 ≤ t.2 ∧ t.2 ≤ 30) := by
  obtain ⟨σ, p, _, e1⟩ := (can_iff hok (by omega)).1 (goes_can ht)
  have hb := path_bd hok p (d := d) (Nat.le_refl _)
  rw [e1] at hb
  exact hb
theorem QQ.day (hok : Ok g h) (he : e < h.length) (hD : ∀ y : Int, (∃ k, k < D.length ∧ gI D k = y) ↔ ∃ x, ((gR h e).lo ≤ x ∧ x ≤ (gR h e).hi) ∧ y = sinks g x) (hM : Known g h l o M h.length) (p : QQ g h l o D M e 52 0 c f G) : Gone g h l o G e ∧ Void G e := by
  have hnh := hok.nh
  refine ⟨fun e' r s h1 h2 hr hs => ?_, p.blank⟩
  rcases Nat.eq_or_lt_of_le h1 with rfl | hlt
  rotate_left
  · exact p.known e' r s (by omega) h2 hr hs
  refine ⟨p.sound r s, fun hg => ?_⟩
  have e1 : h.length - e = h.length - (e + 1) + 1 := by omega
  rw [e1] at hg
  obtain ⟨h3, ⟨a1, a2⟩, h4, h5⟩ := hg
  have hb := goes_bd hok (by omega) h5
  simp only at hb
  obtain ⟨y, b, c', hy, hb', hc', ht⟩ := (mem_nextL hok he).1 h4
  simp only [Prod.mk.injEq] at ht
  obtain ⟨t1, t2⟩ := ht
  have hcr := hok.creep e
  obtain ⟨k, hk1, hk2⟩ := (hD _).2 ⟨y, hy, rfl⟩
  have hG : G (e + 1) a1.toNat a2.toNat = true := (p.known (e + 1) a1.toNat a2.toNat (Nat.le_refl _) (by omega) (by omega) (by omega)).2 (by rw [Int.toNat_of_nonneg (by omega), Int.toNat_of_nonneg (by omega)]; exact h5)
  have hl := p.p2 a1.toNat a2.toNat (by omega) (by omega) hG c' hc'.1 hc'.2 (by omega) s hs
  unfold Lead at hl
  have e2 : (((a1.toNat : Nat) : Int) - c').toNat = r := by omega
  rw [e2] at hl
  refine hl ((hM e r s (by omega) hr hs).2 h3) (leadsB_iff.2 ⟨b, hb', k, hk1, ?_⟩)
  rw [hk2, Int.toNat_of_nonneg (by omega), t2]
end

def Seen (S : Nat → Nat → Bool) (n m r s : Nat) : Prop := ((r < n ∧ s < 31) ∨ (r = n ∧ s < m)) ∧ S r s = true
def ZR (g : Gl) (S : Nat → Nat → Bool) (n m : Nat) (is : Bool) (lo hi : Int) : Prop :=
  ((∀ r s, ¬ Seen S n m r s) ∧ lo = 5000 ∧ hi = -5000) ∨ (is = true ∧ EndsOf (fun z => ∃ r s : Nat, Seen S n m r s ∧ z = g.base + (r : Int) - (s : Int)) lo hi)
section
variable {g : Gl} {S : Nat → Nat → Bool} {n m : Nat} {is : Bool} {lo hi : Int}
theorem ZR.of {n' m' : Nat} (h : ∀ r s, Seen S n m r s ↔ Seen S n' m' r s) (p : ZR g S n m is lo hi) : ZR g S n' m' is lo hi := by
  rcases p with ⟨h1, h2⟩ | ⟨h1, h2, h3, h4⟩
  · exact .inl ⟨fun r s k => h1 r s ((h r s).2 k), h2⟩
  · refine .inr ⟨h1, ?_, ?_, fun z hz => h4 z ?_⟩
    · obtain ⟨r, s, k, e⟩ := h2; exact ⟨r, s, (h r s).1 k, e⟩
    · obtain ⟨r, s, k, e⟩ := h3; exact ⟨r, s, (h r s).1 k, e⟩
    · obtain ⟨r, s, k, e⟩ := hz; exact ⟨r, s, (h r s).2 k, e⟩
theorem ZR.skip (p : ZR g S n m is lo hi) (h : S n m = false) : ZR g S n (m + 1) is lo hi := p.of (fun r s => by
  unfold Seen
  constructor
  · rintro ⟨h1 | h1, h2⟩
    · exact ⟨.inl h1, h2⟩
    · exact ⟨.inr ⟨h1.1, by omega⟩, h2⟩
  · rintro ⟨h1 | h1, h2⟩
    · exact ⟨.inl h1, h2⟩
    · refine ⟨.inr ⟨h1.1, ?_⟩, h2⟩
      rcases Nat.lt_succ_iff_lt_or_eq.1 h1.2 with h3 | h3
      · exact h3
      · rw [h1.1, h3, h] at h2; cases h2)
theorem ZR.rise (p : ZR g S n 31 is lo hi) : ZR g S (n + 1) 0 is lo hi := p.of (fun r s => by
  unfold Seen
  refine and_congr_left fun _ => ?_
  omega)
theorem ZR.add (p : ZR g S n m is lo hi) (h : S n m = true) (hz : -5000 ≤ g.base + (n : Int) - (m : Int) ∧ g.base + (n : Int) - (m : Int) ≤ 5000) : ZR g S n (m + 1) true (min lo (g.base + (n : Int) - (m : Int))) (max hi (g.base + (n : Int) - (m : Int))) := by
  have hs : Seen S n (m + 1) n m := ⟨.inr ⟨rfl, by omega⟩, h⟩
  have hm : ∀ r s, Seen S n m r s → Seen S n (m + 1) r s := fun r s k => ⟨k.1.imp id (fun k => ⟨k.1, by omega⟩), k.2⟩
  have hi' : ∀ r s, Seen S n (m + 1) r s → Seen S n m r s ∨ (r = n ∧ s = m) := fun r s k => by
    rcases k.1 with h1 | h1
    · exact .inl ⟨.inl h1, k.2⟩
    · rcases Nat.lt_succ_iff_lt_or_eq.1 h1.2 with h3 | h3
      · exact .inl ⟨.inr ⟨h1.1, h3⟩, k.2⟩
      · exact .inr ⟨h1.1, h3⟩
  rcases p with ⟨h1, rfl, rfl⟩ | ⟨_, h2, h3, h4⟩
  · rw [Int.min_eq_right hz.2, Int.max_eq_right hz.1]
    refine .inr ⟨rfl, ⟨n, m, hs, rfl⟩, ⟨n, m, hs, rfl⟩, ?_⟩
    rintro z ⟨r, s, k, rfl⟩
    rcases hi' r s k with k | ⟨rfl, rfl⟩
    · exact absurd k (h1 r s)
    · omega
  · refine .inr ⟨rfl, ?_, ?_, ?_⟩
    · rcases Int.le_total lo (g.base + (n : Int) - (m : Int)) with h5 | h5
      · rw [Int.min_eq_left h5]; obtain ⟨r, s, k, e⟩ := h2; exact ⟨r, s, hm r s k, e⟩
      · rw [Int.min_eq_right h5]; exact ⟨n, m, hs, rfl⟩
    · rcases Int.le_total hi (g.base + (n : Int) - (m : Int)) with h5 | h5
      · rw [Int.max_eq_right h5]; exact ⟨n, m, hs, rfl⟩
      · rw [Int.max_eq_left h5]; obtain ⟨r, s, k, e⟩ := h3; exact ⟨r, s, hm r s k, e⟩
    · rintro z ⟨r, s, k, rfl⟩
      rcases hi' r s k with k | ⟨rfl, rfl⟩
      · have := h4 _ ⟨r, s, k, rfl⟩; omega
      · omega
end
theorem ZR.day {g : Gl} {h : List Rg} {l : List Ic} {o : Nat → Bool} (hok : Ok g h) {G : Nat → Nat → Nat → Bool} {e : Nat} (he : e < h.length) (hk : Gone g h l o G (e + 1)) {is : Bool} {lo hi : Int} (p : ZR g (G (e + 1)) 52 0 is lo hi) (ha : agreeB g h l o = true) :
    is = true ∧ EndsOf (fun z => ∃ s, Goes g h l o (h.length - 1 - e) (e + 1) s ∧ z = zero g s) lo hi := by
  have hnh := hok.nh
  have e1 : h.length - 1 - e = h.length - (e + 1) := by omega
  have hs : ∀ t : St, Goes g h l o (h.length - 1 - e) (e + 1) t ↔ ∃ r s : Nat, Seen (G (e + 1)) 52 0 r s ∧ t = ((r : Int), (s : Int)) := fun t => by
    rw [e1]
    constructor
    · intro hg
      have hb := goes_bd hok (by omega) hg
      obtain ⟨a, b⟩ := t
      simp only at hb
      refine ⟨a.toNat, b.toNat, ⟨.inl ⟨by omega, by omega⟩, (hk (e + 1) _ _ (Nat.le_refl _) (by omega) (by omega) (by omega)).2 ?_⟩, ?_⟩
      · rw [Int.toNat_of_nonneg (by omega), Int.toNat_of_nonneg (by omega)]; exact hg
      · rw [Int.toNat_of_nonneg (by omega), Int.toNat_of_nonneg (by omega)]
    · rintro ⟨r, s, h1, rfl⟩
      have : r < 52 ∧ s < 31 := by rcases h1.1 with h2 | h2 <;> omega
      exact (hk (e + 1) r s (Nat.le_refl _) (by omega) this.1 this.2).1 h1.2
  have hf : (fun z => ∃ s, Goes g h l o (h.length - 1 - e) (e + 1) s ∧ z = zero g s) = (fun z => ∃ r s : Nat, Seen (G (e + 1)) 52 0 r s ∧ z = g.base + (r : Int) - (s : Int)) := funext fun z => propext <| by
    constructor
    · rintro ⟨t, h1, rfl⟩
      obtain ⟨r, s, h2, rfl⟩ := (hs t).1 h1
      exact ⟨r, s, h2, rfl⟩
    · rintro ⟨r, s, h2, rfl⟩
      exact ⟨((r : Int), (s : Int)), (hs _).2 ⟨r, s, h2, rfl⟩, rfl⟩
  rw [hf]
  rcases p with ⟨h1, _⟩ | ⟨h1, h2⟩
  · obtain ⟨σ, p, f⟩ := (agree_iff hok).1 ha
    obtain ⟨r, s, h2, _⟩ := (hs (σ (e + 1))).1 ((goes_iff hok (by omega)).2 ⟨σ, by rw [show e + 1 + (h.length - 1 - e) = h.length by omega]; exact ⟨p, f, rfl⟩⟩)
    exact absurd h2 (h1 r s)
  · exact ⟨h1, h2⟩
end Go.Proofs.YtkaogjhnogkcdaaGreat
end

section
namespace Go.Proofs.YtkaogjhnogkcdaaGreat
open Go.RowKit
attribute [local go_sem] Ex.cell? Ex.frozen?

end Go.Proofs.YtkaogjhnogkcdaaGreat
end

section
namespace Go.Proofs.YtkaogjhnogkcdaaGreat
open Go.RowKit
attribute [local go_sem] Ex.cell? Ex.frozen?

def updv (M : Nat → Nat → Nat → Bool) (d r s : Nat) (b : Bool) : Nat → Nat → Nat → Bool := fun d' r' s' => if d' = d ∧ r' = r ∧ s' = s then b else M d' r' s'
theorem MapAt.zero (W : World) : MapAt (W.alloc (.cells Tryz.zeroCells128 128)) W.heap.size (fun _ _ _ => false) := by
 obtain ⟨h1, h2⟩ := chkF_iff zc_ok
 have h1' : Tryz.zeroCells128.size = 27404 := by rw [← Array.length_toList]; exact h1
 generalize Tryz.zeroCells128 = zc at *
 refine ⟨_, Blk.new _ _ _, h1', fun d r s hd hr hs => ?_⟩
 have hk : d * 1612 + r * 31 + s < zc.size := by omega
 rw [Array.getElem?_eq_getElem hk, h2 zc[d * 1612 + r * 31 + s] (by simp)]
theorem MapAt.fr {R : Nat → Prop} {W W' : World} {q : Nat} {M : Nat → Nat → Nat → Bool} (h : MapAt W q M) (hf : Fr R W W') (hn : ¬ R q) : MapAt W' q M := by
 obtain ⟨cs, h1, h2⟩ := h
 exact ⟨cs, h1.fr hf hn, h2⟩

def ZBl (W : World) (z n d : Nat) (zf : Nat → Rg) : Prop := ∃ oc, Blk W z 25 oc ∧ oc.size = n * 2 ∧ ∀ i, d ≤ i → i < n → oc[i * 2]? = some (.int .i64 (zf i).lo) ∧ oc[i * 2 + 1]? = some (.int .i64 (zf i).hi)
def updz (zf : Nat → Rg) (i : Nat) (r : Rg) : Nat → Rg := fun j => if j = i then r else zf j
theorem ZBl.lt {W : World} {z n d : Nat} {zf : Nat → Rg} (h : ZBl W z n d zf) : z < W.heap.size := by obtain ⟨_, h1, _⟩ := h; exact h1.lt
theorem ZBl.below {W W' : World} {z n d : Nat} {zf : Nat → Rg} (h : ZBl W z n d zf) (hb : Below W.heap.size W W') : ZBl W' z n d zf := by obtain ⟨oc, h1, h2⟩ := h; exact ⟨oc, h1.below hb h1.lt, h2⟩
theorem ZBl.fr {R : Nat → Prop} {W W' : World} {z n d : Nat} {zf : Nat → Rg} (h : ZBl W z n d zf) (hf : Fr R W W') (hn : ¬ R z) : ZBl W' z n d zf := by obtain ⟨oc, h1, h2⟩ := h; exact ⟨oc, h1.fr hf hn, h2⟩
theorem ZBl.frozen {W : World} {z n d : Nat} {zf : Nat → Rg} (h : ZBl W z n d zf) (i : Nat) : W.frozen? ⟨z, i, none⟩ = false := by obtain ⟨_, h1, _⟩ := h; exact h1.frozen i
theorem ZBl.cell {W : World} {z n d : Nat} {zf : Nat → Rg} (h : ZBl W z n d zf) {i : Nat} (h1 : d ≤ i) (h2 : i < n) : W.cell? ⟨z, i * 2, none⟩ = some (.int .i64 (zf i).lo) ∧ W.cell? ⟨z, i * 2 + 1, none⟩ = some (.int .i64 (zf i).hi) := by
 obtain ⟨oc, hb, _, hc⟩ := h
 rw [hb.cell, hb.cell]
 exact hc i h1 h2
theorem ZBl.set {W : World} {z n d : Nat} {zf : Nat → Rg} (h : ZBl W z n d zf) {i : Nat} (hi : i < n) (hd : d ≤ i + 1) (a b : Int) : ZBl ((W.setCell ⟨z, i * 2, none⟩ (.int .i64 a)).setCell ⟨z, i * 2 + 1, none⟩ (.int .i64 b)) z n (min d i) (updz zf i ⟨a, b⟩) := by
 obtain ⟨oc, h1, h2, h3⟩ := h
 refine ⟨_, (h1.set_ (i * 2) (.int .i64 a)).set_ (i * 2 + 1) (.int .i64 b), by simpa using h2, fun j hj hjn => ?_⟩
 simp only [Array.getElem?_setIfInBounds, Array.size_setIfInBounds]
 unfold updz
 by_cases hij : j = i
 ·
  subst hij
  rw [if_pos rfl, if_neg (by omega), if_pos rfl, if_pos (by omega), if_pos rfl, if_pos (by omega)]
  exact ⟨rfl, rfl⟩
 ·
  rw [if_neg hij, if_neg (by omega), if_neg (by omega), if_neg (by omega), if_neg (by omega)]
  exact h3 j (by omega) hjn
structure ZSt (gc : Array Value) (w : World) (q z gb n d : Nat) (M G : Nat → Nat → Nat → Bool) (zf : Nat → Rg) (W : World) : Prop where
 bw : Below w.heap.size w W
 qg : Blk W w.heap.size 27 gc
 mp : MapAt W q M
 gp : MapAt W gb G
 zp : ZBl W z n d zf
 o2 : q < z
 o3 : z < gb
 o1 : w.heap.size < z
section
variable {gc : Array Value} {w : World} {q z gb n d : Nat} {M G : Nat → Nat → Nat → Bool} {zf : Nat → Rg} {W W' : World}
theorem ZSt.below (h : ZSt gc w q z gb n d M G zf W) (hb : Below W.heap.size W W') : ZSt gc w q z gb n d M G zf W' := ⟨ex_trans h.bw hb, h.qg.below hb h.qg.lt, h.mp.below hb, h.gp.below hb, h.zp.below hb, h.o2, h.o3, h.o1⟩
end
def Copied (n : Nat) (M G : Nat → Nat → Nat → Bool) (r s : Nat) : Prop := (∀ e r' s', e ≠ n → G e r' s' = false) ∧ ∀ r' s', r' < r ∨ (r' = r ∧ s' < s) → s' < 31 → G n r' s' = M n r' s'
def bN (n : Nat) : Bool := n != 0
def DZ (g : Gl) (h : List Rg) (l : List Ic) (o : Nat → Bool) (d : Nat) (zf : Nat → Rg) (is : Bool) : Prop :=
 (is = true → agreeB g h l o = true) ∧ (agreeB g h l o = true → (d < h.length → is = true) ∧ ∀ i, d ≤ i → i < h.length → EndsOf (fun z => ∃ s, Goes g h l o (h.length - 1 - i) (i + 1) s ∧ z = zero g s) (zf i).lo (zf i).hi)

structure ZD (gc : Array Value) (w : World) (q z gb n d : Nat) (M G : Nat → Nat → Nat → Bool) (zf : Nat → Rg) (pc : Nat) (cl chi : Int) (v : Value) (D : List Int) (W : World) : Prop where
 zs : ZSt gc w q z gb n d M G zf W
 qc : Blk W pc 25 #[.int .i64 cl, .int .i64 chi]
 ow : W.ownsRow (gb + 1) 3 1 v D.length (D.map (Value.int .i64))
 op : gb < pc
section
variable {gc : Array Value} {w : World} {q z gb n d : Nat} {M G : Nat → Nat → Nat → Bool} {zf : Nat → Rg} {pc : Nat} {cl chi : Int} {v : Value} {D : List Int} {W W' : World}
theorem MapAt.blk {W : World} {q : Nat} {M : Nat → Nat → Nat → Bool} (h : MapAt W q M) : ∃ cs, Blk W q 128 cs := by obtain ⟨cs, h1, _⟩ := h; exact ⟨cs, h1⟩
theorem ZBl.blk {W : World} {z n d : Nat} {zf : Nat → Rg} (h : ZBl W z n d zf) : ∃ cs, Blk W z 25 cs := by obtain ⟨cs, h1, _⟩ := h; exact ⟨cs, h1⟩
theorem ZD.below (h : ZD gc w q z gb n d M G zf pc cl chi v D W) (hb : Below W.heap.size W W') : ZD gc w q z gb n d M G zf pc cl chi v D W' := ⟨h.zs.below hb, h.qc.below hb h.qc.lt, own_below h.ow hb, h.op⟩
end
set_option maxRecDepth 100000 in
def DQz (g : Gl) (Ab Ad Ah Ai Ao : Option Addr) (cb cd ch ci co : Nat) (h : List Rg) (l : List Ic) (out : List Int) (w : World) (q z gb d0 e : Nat) (M G : Nat → Nat → Nat → Bool) (zf : Nat → Rg) (is : Nat) (ex : Exit) (a' : Act) (W' : World) : Prop :=
 ex = .normal ∧ ∃ pc Ad' cd' D, ZD #[.int .i64 g.base, .slice Ab g.bands.length cb, .slice Ad g.depths.length cd, .int .i64 g.blo, .int .i64 g.bhi] w q z gb h.length d0 M G zf pc (creepTo g.bands (e : Int) g.bands.length).lo (creepTo g.bands (e : Int) g.bands.length).hi (.slice Ad' (D : List Int).length cd') D W' ∧ Hid (DeepIs g (gR h e).lo ((gR h e).hi - (gR h e).lo + 1).toNat D) ∧ ∃ u : Nat → Value, a' = ⟨List.toArray (u 0 :: .slice Ah h.length ch :: .slice Ai l.length ci :: .slice Ao out.length co :: .pointer (some ⟨w.heap.size, 0, none⟩) :: u 5 :: u 6 :: u 7 :: u 8 :: u 9 :: .pointer (some ⟨q, 0, none⟩) :: .int .i64 (h.length : Int) :: .slice (some ⟨z, 0, none⟩) h.length h.length :: .pointer (some ⟨gb, 0, none⟩) :: u 14 :: u 15 :: .bool (bN is) :: .int .i64 ((e : Int) + 1) :: .pointer (some ⟨pc, 0, none⟩) :: .slice Ad' D.length cd' :: u 20 :: u 21 :: u 22 :: u 23 :: u 24 :: u 25 :: u 26 :: u 27 :: u 28 :: u 29 :: u 30 :: u 31 :: u 32 :: u 33 :: u 34 :: u 35 :: u 36 :: u 37 :: u 38 :: u 39 :: u 40 :: u 41 :: u 42 :: u 43 :: u 44 :: u 45 :: u 46 :: u 47 :: u 48 :: u 49 :: u 50 :: u 51 :: u 52 :: u 53 :: u 54 :: u 55 :: u 56 :: u 57 :: u 58 :: u 59 :: u 60 :: u 61 :: u 62 :: u 63 :: u 64 :: u 65 :: u 66 :: u 67 :: u 68 :: u 69 :: u 70 :: u 71 :: u 72 :: u 73 :: u 74 :: u 75 :: u 76 :: u 77 :: u 78 :: u 79 :: u 80 :: u 81 :: u 82 :: u 83 :: u 84 :: u 85 :: u 86 :: u 87 :: u 88 :: u 89 :: u 90 :: u 91 :: u 92 :: u 93 :: u 94 :: u 95 :: u 96 :: u 97 :: u 98 :: u 99 :: u 100 :: u 101 :: u 102 :: u 103 :: u 104 :: u 105 :: u 106 :: u 107 :: u 108 :: u 109 :: u 110 :: u 111 :: u 112 :: u 113 :: u 114 :: u 115 :: u 116 :: u 117 :: u 118 :: u 119 :: u 120 :: u 121 :: u 122 :: u 123 :: u 124 :: u 125 :: u 126 :: u 127 :: u 128 :: u 129 :: u 130 :: u 131 :: u 132 :: u 133 :: u 134 :: u 135 :: u 136 :: u 137 :: u 138 :: u 139 :: u 140 :: u 141 :: u 142 :: u 143 :: u 144 :: u 145 :: u 146 :: u 147 :: u 148 :: u 149 :: u 150 :: u 151 :: u 152 :: u 153 :: u 154 :: u 155 :: u 156 :: u 157 :: u 158 :: u 159 :: u 160 :: u 161 :: u 162 :: u 163 :: u 164 :: u 165 :: u 166 :: u 167 :: u 168 :: []), []⟩

def ZrV (g : Gl) (h : List Rg) (l : List Ic) (o : Nat → Bool) (zs : List Rg) (is : Bool) : Prop :=
 is = agreeB g h l o ∧ zs.length = h.length ∧ (agreeB g h l o = true → ∀ i, i < h.length → EndsOf (fun z => ∃ s, Goes g h l o (h.length - 1 - i) (i + 1) s ∧ z = zero g s) (gR zs i).lo (gR zs i).hi)
theorem ZBl.list {W : World} {z n : Nat} {zf : Nat → Rg} (h : ZBl W z n 0 zf) : (((List.range n).map zf).length = n ∧ ∀ i, i < n → gR ((List.range n).map zf) i = zf i) ∧ SlAt W W.heap.size 2 (some ⟨z, 0, none⟩) n (fR ((List.range n).map zf)) := by
 have e : ∀ i, i < n → gR ((List.range n).map zf) i = zf i := fun i hi => by simp [gR, hi]
 refine ⟨⟨by simp, e⟩, fun h0 => ⟨z, 0, rfl, h.lt, fun k j hk hj => ?_⟩⟩
 obtain ⟨c0, c1⟩ := h.cell (i := k) (by omega) hk
 match j, hj with
 | 0, _ => simp only [Nat.zero_add, Nat.add_zero, fR, e k hk]; exact c0
 | 1, _ => simp only [Nat.zero_add, fR, e k hk]; exact c1

set_option maxRecDepth 100000 in
def DQw (P : World → Prop) (x1 x2 x3 x4 x10 x11 x12 x13 x16 x17 x18 x19 x20 x21 x22 : Value) (ex : Exit) (a' : Act) (W' : World) : Prop :=
 ex = .normal ∧ P W' ∧ ∃ u : Nat → Value, a' = ⟨List.toArray (u 0 :: x1 :: x2 :: x3 :: x4 :: u 5 :: u 6 :: u 7 :: u 8 :: u 9 :: x10 :: x11 :: x12 :: x13 :: u 14 :: u 15 :: x16 :: x17 :: x18 :: x19 :: x20 :: x21 :: x22 :: u 23 :: u 24 :: u 25 :: u 26 :: u 27 :: u 28 :: u 29 :: u 30 :: u 31 :: u 32 :: u 33 :: u 34 :: u 35 :: u 36 :: u 37 :: u 38 :: u 39 :: u 40 :: u 41 :: u 42 :: u 43 :: u 44 :: u 45 :: u 46 :: u 47 :: u 48 :: u 49 :: u 50 :: u 51 :: u 52 :: u 53 :: u 54 :: u 55 :: u 56 :: u 57 :: u 58 :: u 59 :: u 60 :: u 61 :: u 62 :: u 63 :: u 64 :: u 65 :: u 66 :: u 67 :: u 68 :: u 69 :: u 70 :: u 71 :: u 72 :: u 73 :: u 74 :: u 75 :: u 76 :: u 77 :: u 78 :: u 79 :: u 80 :: u 81 :: u 82 :: u 83 :: u 84 :: u 85 :: u 86 :: u 87 :: u 88 :: u 89 :: u 90 :: u 91 :: u 92 :: u 93 :: u 94 :: u 95 :: u 96 :: u 97 :: u 98 :: u 99 :: u 100 :: u 101 :: u 102 :: u 103 :: u 104 :: u 105 :: u 106 :: u 107 :: u 108 :: u 109 :: u 110 :: u 111 :: u 112 :: u 113 :: u 114 :: u 115 :: u 116 :: u 117 :: u 118 :: u 119 :: u 120 :: u 121 :: u 122 :: u 123 :: u 124 :: u 125 :: u 126 :: u 127 :: u 128 :: u 129 :: u 130 :: u 131 :: u 132 :: u 133 :: u 134 :: u 135 :: u 136 :: u 137 :: u 138 :: u 139 :: u 140 :: u 141 :: u 142 :: u 143 :: u 144 :: u 145 :: u 146 :: u 147 :: u 148 :: u 149 :: u 150 :: u 151 :: u 152 :: u 153 :: u 154 :: u 155 :: u 156 :: u 157 :: u 158 :: u 159 :: u 160 :: u 161 :: u 162 :: u 163 :: u 164 :: u 165 :: u 166 :: u 167 :: u 168 :: []), []⟩

end Go.Proofs.YtkaogjhnogkcdaaGreat
end

section
namespace Go.Proofs.YtkaogjhnogkcdaaGreat
open Go.RowKit

structure Fx (w : World) (R : Nat → Prop) where
 W : World
 h : Fr R w W
instance (w : World) (R : Nat → Prop) : Nonempty (Fx w R) := ⟨⟨w, Fr.refl R w⟩⟩
theorem Fx.cell? {w : World} {R : Nat → Prop} (x : Fx w R) (b o : Nat) (hb : b < w.heap.size) (hne : ¬ R b) : x.W.cell? ⟨b, o, none⟩ = w.cell? ⟨b, o, none⟩ := World.cell?_of_block (x.h.block b hb hne)
theorem inFx {w w' : World} {R : Nat → Prop} (h : Fr R w w') : ∃ x : Fx w R, w' = x.W := ⟨⟨w', h⟩, rfl⟩
theorem Fr.drew {R : Nat → Prop} {w w' : World} (h : Fr R w w') : Fr R w w'.drew := ⟨h.os, h.tape, h.output, h.size, h.block⟩
theorem wp_region_fx_tq {P : Program} {Q : Exit → Act → World → Prop} {id : Nat} {a : Act} {w : World} {l : List Oper} (R : Nat → Prop) (n : Nat) (t : Tq) (hm : P.follows .mixedOrders = true)
  (hB : (tqeB .any l.toArray n t && decide (t.len = n)) = true) (hQ : ∀ d v c a w, Q (.panic c) (a.put d v) w → Q (.panic c) a w)
  (h : wqTree P l Q (fun w' => ∃ x : Fx w R, w' = x.W) n t a w.drew) : (Code.region id l.toArray true).wp P Q a w :=
 wp_region_tq n t _ hm hB hQ (inFx (Fr.refl R w).drew) h
attribute [local go_sem] Ex.cell? Ex.frozen? Fx.cell?

structure EN (b : Nat) (W0 : World) (R : Nat → Prop) (u1 u2 u3 : Value) (m1 m2 m3 : List Int) (W : World) : Prop where
 fr : Fr R W0 W
 o1 : W.ownsRow b 3 1 u1 m1.length (m1.map (Value.int .i64))
 o2 : W.ownsRow b 3 1 u2 m2.length (m2.map (Value.int .i64))
 o3 : W.ownsRow b 3 1 u3 m3.length (m3.map (Value.int .i64))
 n12 : ∀ x, u1.ownBlock = some x → u2.ownBlock ≠ some x
 n13 : ∀ x, u1.ownBlock = some x → u3.ownBlock ≠ some x
 n23 : ∀ x, u2.ownBlock = some x → u3.ownBlock ≠ some x
 r1 : ∀ x, u1.ownBlock = some x → R x ∨ W0.heap.size ≤ x
 r2 : ∀ x, u2.ownBlock = some x → R x ∨ W0.heap.size ≤ x
 r3 : ∀ x, u3.ownBlock = some x → R x ∨ W0.heap.size ≤ x
section
variable {b : Nat} {W0 : World} {R : Nat → Prop} {u1 u2 u3 : Value} {m1 m2 m3 : List Int} {W W' : World}
theorem EN.alloc (h : EN b W0 R u1 u2 u3 m1 m2 m3 W) (o : Obj) : EN b W0 R u1 u2 u3 m1 m2 m3 (W.alloc o) := by
 have hb : Below W.heap.size W (W.alloc o) := (Below.refl _ _).alloc (Nat.le_refl _) o
 exact ⟨h.fr.trans (Fr.below (R := fun _ => False) hb) (fun _ _ hx => hx.elim), own_below h.o1 hb, own_below h.o2 hb, own_below h.o3 hb, h.n12, h.n13, h.n23, h.r1, h.r2, h.r3⟩
theorem EN.app1 (h : EN b W0 R u1 u2 u3 m1 m2 m3 W) {gg cap : Nat} {x : Int} (hg : W.grownBy W' u1.ownBlock) (ho : W'.ownsRow b 3 1 (.slice (some ⟨gg, 0, none⟩) (m1.length + 1) cap) (m1.length + 1) (m1.map (Value.int .i64) ++ [.int .i64 x])) (hat : u1.ownBlock = some gg ∨ W.heap.size ≤ gg) :
  EN b W0 R (.slice (some ⟨gg, 0, none⟩) (m1.length + 1) cap) u2 u3 (m1 ++ [x]) m2 m3 W' := by
 have hf : Fr (fun y => u1.ownBlock = some y) W W' := Fr.grown hg (fun y hy => .inl hy)
 have hs := h.fr.size
 refine ⟨h.fr.trans hf (fun y hy hr => (h.r1 y hr).resolve_right (by omega)), own_snoc rfl ho, own_fr h.o2 hf (fun y hy hr => h.n12 y hr hy), own_fr h.o3 hf (fun y hy hr => h.n13 y hr hy), fun y hy hc => ?_, fun y hy hc => ?_, h.n23, fun y hy => ?_, h.r2, h.r3⟩
 all_goals
  have hy' : gg = y := by simpa [Value.ownBlock] using hy
  subst hy'
  rcases hat with hat | hat
 ·
  exact h.n12 gg hat hc
 ·
  have := own_lt h.o2 hc; omega
 ·
  exact h.n13 gg hat hc
 ·
  have := own_lt h.o3 hc; omega
 ·
  exact h.r1 gg hat
 ·
  exact .inr (by omega)
theorem EN.app2 (h : EN b W0 R u1 u2 u3 m1 m2 m3 W) {gg cap : Nat} {x : Int} (hg : W.grownBy W' u2.ownBlock) (ho : W'.ownsRow b 3 1 (.slice (some ⟨gg, 0, none⟩) (m2.length + 1) cap) (m2.length + 1) (m2.map (Value.int .i64) ++ [.int .i64 x])) (hat : u2.ownBlock = some gg ∨ W.heap.size ≤ gg) :
  EN b W0 R u1 (.slice (some ⟨gg, 0, none⟩) (m2.length + 1) cap) u3 m1 (m2 ++ [x]) m3 W' := by
 have hf : Fr (fun y => u2.ownBlock = some y) W W' := Fr.grown hg (fun y hy => .inl hy)
 have hs := h.fr.size
 refine ⟨h.fr.trans hf (fun y hy hr => (h.r2 y hr).resolve_right (by omega)), own_fr h.o1 hf (fun y hy hr => h.n12 y hy hr), own_snoc rfl ho, own_fr h.o3 hf (fun y hy hr => h.n23 y hr hy), fun y hc hy => ?_, h.n13, fun y hy hc => ?_, h.r1, fun y hy => ?_, h.r3⟩
 all_goals
  have hy' : gg = y := by simpa [Value.ownBlock] using hy
  subst hy'
  rcases hat with hat | hat
 ·
  exact h.n12 gg hc hat
 ·
  have := own_lt h.o1 hc; omega
 ·
  exact h.n23 gg hat hc
 ·
  have := own_lt h.o3 hc; omega
 ·
  exact h.r2 gg hat
 ·
  exact .inr (by omega)
end
theorem TR.leave {gc : Array Value} {w : World} {v1 v2 v3 u1 u2 u3 : Value} {l1 l2 l3 m1 m2 m3 : List Int} {W0 W : World} {R : Nat → Prop} (h : TR gc w v1 v2 v3 l1 l2 l3 W0) (hR : ∀ y, R y → w.heap.size + 1 + 1 < y) (e : EN (w.heap.size + 1 + 1) W0 R u1 u2 u3 m1 m2 m3 W) :
  TR gc w u1 u2 u3 m1 m2 m3 (((W.setCell ⟨w.heap.size + 1 + 1, 0, none⟩ u1).setCell ⟨w.heap.size + 1 + 1, 1, none⟩ u2).setCell ⟨w.heap.size + 1 + 1, 2, none⟩ u3) := by
 have hf : Fr (fun y => y = w.heap.size + 1 + 1) W (((W.setCell ⟨w.heap.size + 1 + 1, 0, none⟩ u1).setCell ⟨w.heap.size + 1 + 1, 1, none⟩ u2).setCell ⟨w.heap.size + 1 + 1, 2, none⟩ u3) := (((Fr.refl (fun y => y = w.heap.size + 1 + 1) W).andSet rfl).andSet rfl).andSet rfl
 have hn : ∀ x, x ≤ w.heap.size + 1 + 1 → ¬ R x := fun x hx hr => by have := hR x hr; omega
 have b1 := h.q1.fr e.fr (hn _ (by omega))
 have b2 := h.qr.fr e.fr (hn _ (by omega))
 have b3 := h.qp.fr e.fr (hn _ (by omega))
 have hq := ((b3.set_ 0 u1).set_ 1 u2).set_ 2 u3
 simp only [List.setIfInBounds_toArray, List.set_cons_zero, List.set_cons_succ] at hq
 have hW : Below w.heap.size w W := e.fr.toBelow h.bw h.bw.size (fun x hx => by have := hR x hx; omega)
 exact ⟨hf.toBelow hW hW.size (fun x hx => by omega), b1.fr hf (by omega), b2.fr hf (by omega), hq, own_fr e.o1 hf (fun y hy hr => own_blkne e.o1 b3 (by decide) (hr ▸ hy)), own_fr e.o2 hf (fun y hy hr => own_blkne e.o2 b3 (by decide) (hr ▸ hy)), own_fr e.o3 hf (fun y hy hr => own_blkne e.o3 b3 (by decide) (hr ▸ hy)), e.n12, e.n13, e.n23⟩

def endK (g : Gl) (h : List Rg) (high : Bool) (k : Nat) : List Int × List Int × List Int :=
 ((List.range k).map (fun d => if high then (gR h d).lo else (gR h d).hi), (List.range k).map (fun d => if high then (creep g d).hi else (creep g d).lo), (List.range k).map (fun _ => if high then g.bhi else g.blo))

end Go.Proofs.YtkaogjhnogkcdaaGreat
end

section

end

section
namespace Go.Proofs.YtkaogjhnogkcdaaGreat
open Go.RowKit

structure KeyOk {α : Type} [DecidableEq α] (t : TypeId) (kV : α → Value) : Prop where
 eq : ∀ (s u : α) (w : World), (Op.equal t (kV s) (kV u)).run Tryz.prog w = .ok (s == u) w
 check : ∀ (em : Bool) (s : α) (w : World), (Instr.checkKey em 10000 t (kV s)).run Tryz.prog w = .ok () w
 und : ∃ d, Tryz.prog.underlying t = some d ∧ ∀ (s : α) (e : MapEntry) (es : List MapEntry) (i : Nat), Instr.findNow d (kV s) (e :: es) i = none

section
variable {α β : Type} [DecidableEq α] {t : TypeId} {kV : α → Value} {vV : β → Value}
def mkE (kV : α → Value) (vV : β → Value) (L : List (α × β)) : Array MapEntry := (L.zipIdx.map fun p => { key := kV p.1.1, val := vV p.1.2, born := p.2 }).toArray
def IsMp (kV : α → Value) (vV : β → Value) (W : World) (b : Nat) (L : List (α × β)) : Prop := W.heap[b]? = some (.map (mkE kV vV L) L.length)
theorem mpGetObj {W : World} {b c : Nat} {es : Array MapEntry} (h : W.heap[b]? = some (.map es c)) : (getObj b).run Tryz.prog W = .ok (.map es c) W := by simp [getObj, Sem.run, h]
theorem mpSetObj {W : World} {b c : Nat} {es : Array MapEntry} (o' : Obj) (h : W.heap[b]? = some (.map es c)) : (setObj b o').run Tryz.prog W = .ok () (W.putObj b o') := by simp [setObj, Sem.run, h, World.putObj]
def mpAt (s : α) : List (α × β) → Nat → Option (Nat × β)
 | [], _ => none
 | p :: l, i => if p.1 = s then some (i, p.2) else mpAt s l (i + 1)
theorem mp_asking (hk : KeyOk t kV) (s : α) (w : World) : ∀ (l : List (α × β)) (k i : Nat),
  (Instr.findAsking t (kV s) (l.zipIdx k |>.map fun p => { key := kV p.1.1, val := vV p.1.2, born := p.2 }) i).run Tryz.prog w = .ok ((mpAt s l i).map fun x => (x.1, vV x.2)) w
 | [], _, _ => by simp [Instr.findAsking, mpAt]
 | p :: l, k, i => by
  simp only [List.zipIdx_cons, List.map_cons, Instr.findAsking, Sem.run_bind, hk.eq, Result.andThen_ok]
  by_cases h : p.1 = s
  ·
   have hb : (s == p.1) = true := by simp [h]
   simp [mpAt, h]
  ·
   have hb : (s == p.1) = false := by simpa using fun e => h e.symm
   simp only [hb, Bool.false_eq_true, if_false]
   rw [mp_asking hk s w l (k + 1) (i + 1), mpAt, if_neg h]
theorem mp_find (hk : KeyOk t kV) (s : α) (L : List (α × β)) (w : World) : (Instr.findKey t (kV s) (mkE kV vV L).toList).run Tryz.prog w = .ok ((mpAt s L 0).map fun x => (x.1, vV x.2)) w := by
 obtain ⟨d, hd, hn⟩ := hk.und
 unfold Instr.findKey
 simp only [Sem.run_bind, run_underlying hd, Result.andThen_ok]
 have h2 : (mkE kV vV L).toList = (L.zipIdx 0 |>.map fun p => { key := kV p.1.1, val := vV p.1.2, born := p.2 }) := by simp [mkE]
 rw [h2]
 cases L with
 | nil => simp [Instr.findNow, mpAt]
 | cons p l =>
  rw [List.zipIdx_cons, List.map_cons, hn]
  exact mp_asking hk s w (p :: l) 0 0
def mpGet (s : α) (L : List (α × β)) : Option β := (mpAt s L 0).map (·.2)
theorem mpAt_some {s : α} : ∀ {L : List (α × β)} {i : Nat}, ((mpAt s L i).map (·.2)) = ((mpAt s L 0).map (·.2))
 | [], _ => rfl
 | p :: l, i => by
  rw [mpAt, mpAt]
  split
  ·
   rfl
  ·
   rw [mpAt_some (L := l) (i := i + 1), mpAt_some (L := l) (i := 0 + 1)]
theorem mpGet_cons {s : α} {p : α × β} {L : List (α × β)} : mpGet s (p :: L) = if p.1 = s then some p.2 else mpGet s L := by
 unfold mpGet
 rw [mpAt]
 split
 ·
  rfl
 ·
  exact mpAt_some
theorem mpGet_mem {s : α} {v : β} : ∀ {L : List (α × β)}, mpGet s L = some v → (s, v) ∈ L
 | [], h => by cases h
 | q :: L, h => by
  rw [mpGet_cons] at h
  split at h
  ·
   rename_i e; injection h with h; rw [← e, ← h]; simp
  ·
   exact List.mem_cons_of_mem _ (mpGet_mem h)
theorem mpGet_none {s : α} {L : List (α × β)} (h : mpGet s L = none) : mpAt s L 0 = none := by
 unfold mpGet at h
 cases hm : mpAt s L 0 with
 | none => rfl
 | some x => rw [hm] at h; cases h
theorem mpGet_some {s : α} {L : List (α × β)} {v : β} (h : mpGet s L = some v) : ∃ i, mpAt s L 0 = some (i, v) := by
 unfold mpGet at h
 cases hm : mpAt s L 0 with
 | none => rw [hm] at h; cases h
 | some x =>
  rw [hm] at h
  obtain ⟨i, u⟩ := x
  injection h with h
  exact ⟨i, by rw [← h]⟩
theorem mkE_push (L : List (α × β)) (s : α) (v : β) : (mkE kV vV L).push { key := kV s, val := vV v, born := L.length } = mkE kV vV (L ++ [(s, v)]) := by
 simp [mkE, List.zipIdx_append]
theorem IsMp.lt {W : World} {b : Nat} {L : List (α × β)} (h : IsMp kV vV W b L) : b < W.heap.size := (Array.getElem?_eq_some_iff.1 h).1
theorem IsMp.of_block {W W' : World} {b : Nat} {L : List (α × β)} (h : IsMp kV vV W b L) (hb : W'.heap[b]? = W.heap[b]?) : IsMp kV vV W' b L := hb.trans h
theorem IsMp.below {W W' : World} {b : Nat} {L : List (α × β)} (h : IsMp kV vV W b L) (hb : Below W.heap.size W W') : IsMp kV vV W' b L := h.of_block (hb.block b h.lt)
theorem IsMp.fr {R : Nat → Prop} {W W' : World} {b : Nat} {L : List (α × β)} (h : IsMp kV vV W b L) (hf : Fr R W W') (hn : ¬ R b) : IsMp kV vV W' b L := h.of_block (hf.block b h.lt hn)
theorem IsMp.new (W : World) {g : Nat} (hg : W.heap.size = g) : IsMp kV vV (W.alloc (.map #[] 0)) g [] := by
 subst hg; exact World.alloc_heap_new W _
end
end Go.Proofs.YtkaogjhnogkcdaaGreat
end

section
namespace Go.Proofs.YtkaogjhnogkcdaaGreat
open Go.RowKit
structure KeyFd {α : Type} [DecidableEq α] (t : TypeId) (kV : α → Value) : Prop where
 find : ∀ {β : Type} (vV : β → Value) (s : α) (L : List (α × β)) (w : World), (Instr.findKey t (kV s) (mkE kV vV L).toList).run Tryz.prog w = .ok ((mpAt s L 0).map fun x => (x.1, vV x.2)) w
 check : ∀ (em : Bool) (s : α) (w : World), (Instr.checkKey em 10000 t (kV s)).run Tryz.prog w = .ok () w
 stays : ∀ (s : α) (w : World), (Instr.keyThatStays (kV s) (kV s)).run Tryz.prog w = .ok (kV s) w
theorem KeyFd.of {α : Type} [DecidableEq α] {t : TypeId} {kV : α → Value} (h : KeyOk t kV) (hs : ∀ s w, (Instr.keyThatStays (kV s) (kV s)).run Tryz.prog w = .ok (kV s) w) : KeyFd t kV := ⟨fun _ s L w => mp_find h s L w, h.check, hs⟩
section
variable {β : Type} {vV : β → Value}
def keyI (n : Int) : Value := .int .i64 n
end
section
variable {α β : Type} [DecidableEq α] {t : TypeId} {kV : α → Value} {vV : β → Value}
def MpIs (kV : α → Value) (vV : β → Value) (W : World) (b : Nat) (F : α → Option β) : Prop := ∃ L, IsMp kV vV W b L ∧ ∀ s, mpGet s L = F s
theorem MpIs.lt {W : World} {b : Nat} {F : α → Option β} (h : MpIs kV vV W b F) : b < W.heap.size := h.choose_spec.1.lt
theorem MpIs.of_block {W W' : World} {b : Nat} {F : α → Option β} (h : MpIs kV vV W b F) (hb : W'.heap[b]? = W.heap[b]?) : MpIs kV vV W' b F := by
 obtain ⟨L, h1, h2⟩ := h
 exact ⟨L, h1.of_block hb, h2⟩
theorem MpIs.below {W W' : World} {b : Nat} {F : α → Option β} (h : MpIs kV vV W b F) (hb : Below W.heap.size W W') : MpIs kV vV W' b F := h.of_block (hb.block b h.lt)
theorem MpIs.fr {R : Nat → Prop} {W W' : World} {b : Nat} {F : α → Option β} (h : MpIs kV vV W b F) (hf : Fr R W W') (hn : ¬ R b) : MpIs kV vV W' b F := h.of_block (hf.block b h.lt hn)
theorem MpIs.new (W : World) {g : Nat} (hg : W.heap.size = g) : MpIs kV vV (W.alloc (.map #[] 0)) g (fun _ => none) := ⟨[], IsMp.new W hg, fun _ => rfl⟩
theorem MpIs.congr {W : World} {b : Nat} {F F' : α → Option β} (h : MpIs kV vV W b F) (e : ∀ s, F s = F' s) : MpIs kV vV W b F' := by
 obtain ⟨L, h1, h2⟩ := h
 exact ⟨L, h1, fun s => (h2 s).trans (e s)⟩
theorem MpIs.at_ {mt et : TypeId} (hm : Tryz.prog.underlying mt = some (.map t et)) (hk : KeyFd t kV) {W : World} {b : Nat} {F : α → Option β} (h : MpIs kV vV W b F) (s : α) {v : β} (hs : F s = some v) :
  (Instr.lookup mt (.map (some b)) (kV s) false).run Tryz.prog W = .ok (vV v) W := by
 obtain ⟨L, h1, h2⟩ := h
 unfold Instr.lookup
 simp only [Sem.run_bind, run_underlying hm, Result.andThen_ok, mpGetObj h1, hk.check, hk.find, Sem.run_pure]
 obtain ⟨i, hi⟩ := mpGet_some ((h2 s).trans hs)
 rw [hi]
 simp
theorem MpIs.at2 {mt et : TypeId} (hm : Tryz.prog.underlying mt = some (.map t et)) {i0 : TypeInfo} {z : Value} (hi : Tryz.prog.info? et = some i0) (hz : i0.zero = some z) (hk : KeyFd t kV) {W : World} {b : Nat} {F : α → Option β} (h : MpIs kV vV W b F) (s : α) :
  (Instr.lookup mt (.map (some b)) (kV s) true).run Tryz.prog W = .ok (match F s with | some v => .tuple #[vV v, .bool true] | none => .tuple #[z, .bool false]) W := by
 obtain ⟨L, h1, h2⟩ := h
 unfold Instr.lookup
 simp only [Sem.run_bind, run_underlying hm, Result.andThen_ok, mpGetObj h1, hk.check, hk.find, Sem.run_pure]
 rw [← h2 s]
 cases hg : mpGet s L with
 | none =>
  rw [mpGet_none hg]
  simp [go_sem, zeroValue, typeInfo, hi, hz]
 | some v =>
  obtain ⟨i, hi⟩ := mpGet_some hg
  rw [hi]
  simp
theorem mpAt_at {s : α} {v : β} : ∀ {L : List (α × β)} {k i : Nat}, mpAt s L k = some (i, v) → k ≤ i ∧ L[i - k]? = some (s, v)
 | [], _, _, h => by cases h
 | p :: L, k, i, h => by
  rw [mpAt] at h
  split at h
  ·
   rename_i e
   simp only [Option.some.injEq, Prod.mk.injEq] at h
   obtain ⟨rfl, rfl⟩ := h
   exact ⟨Nat.le_refl _, by simp [← e]⟩
  ·
   obtain ⟨h1, h2⟩ := mpAt_at h
   refine ⟨by omega, ?_⟩
   rw [show i - k = (i - (k + 1)) + 1 by omega]
   simpa using h2
theorem mpGet_set {s : α} {v u : β} : ∀ {L : List (α × β)} {k i : Nat}, mpAt s L k = some (i, u) → ∀ x, mpGet x (L.set (i - k) (s, v)) = if x = s then some v else mpGet x L
 | [], _, _, h, _ => by cases h
 | p :: L, k, i, h, x => by
  rw [mpAt] at h
  split at h
  ·
   rename_i e
   simp only [Option.some.injEq, Prod.mk.injEq] at h
   obtain ⟨rfl, rfl⟩ := h
   rw [show k - k = 0 by omega, List.set_cons_zero, mpGet_cons, mpGet_cons]
   by_cases hx : x = s
   ·
    rw [if_pos hx.symm, if_pos hx]
   ·
    rw [if_neg (fun e => hx e.symm), if_neg hx, if_neg (fun e2 => hx (by rw [← e2, e]))]
  ·
   rename_i hne
   obtain ⟨h1, _⟩ := mpAt_at h
   rw [show i - k = (i - (k + 1)) + 1 by omega, List.set_cons_succ, mpGet_cons, mpGet_cons, mpGet_set h x]
   by_cases hx : p.1 = x
   ·
    rw [if_pos hx, if_pos hx, if_neg (fun e => hne (hx.trans e))]
   ·
    rw [if_neg hx, if_neg hx]
theorem mpGet_push {s x : α} {v : β} : ∀ {L : List (α × β)}, mpGet s L = none → mpGet x (L ++ [(s, v)]) = if x = s then some v else mpGet x L
 | [], _ => by
  rw [List.nil_append, mpGet_cons]
  by_cases h : x = s
  ·
   rw [if_pos h.symm, if_pos h]
  ·
   rw [if_neg (fun e => h e.symm), if_neg h]
 | p :: L, hn => by
  rw [mpGet_cons] at hn
  split at hn
  ·
   cases hn
  ·
   rename_i hne
   rw [List.cons_append, mpGet_cons, mpGet_cons, mpGet_push hn]
   by_cases hx : p.1 = x
   ·
    rw [if_pos hx, if_pos hx, if_neg (fun e => hne (hx.trans e))]
   ·
    rw [if_neg hx, if_neg hx]
theorem mkE_set (L : List (α × β)) (i : Nat) (s : α) (v : β) : (mkE kV vV L).modify i (fun e => { e with key := kV s, val := vV v }) = mkE kV vV (L.set i (s, v)) := by
 refine Array.ext (by simp [mkE]) (fun j h1 h2 => ?_)
 rw [Array.getElem_modify]
 simp only [mkE, List.getElem_toArray, List.getElem_map, List.getElem_zipIdx, Nat.zero_add]
 rw [List.getElem_set]
 split <;> rfl
theorem MpIs.put {mt et : TypeId} (hm : Tryz.prog.underlying mt = some (.map t et)) (hk : KeyFd t kV) {W : World} {b : Nat} {F : α → Option β} (h : MpIs kV vV W b F) (s : α) (v : β) :
  ∃ o, (Instr.mapUpdate mt (.map (some b)) (kV s) (vV v)).run Tryz.prog W = .ok () (W.putObj b o) ∧ MpIs kV vV (W.putObj b o) b (fun x => if x = s then some v else F x) := by
 obtain ⟨L, h1, h2⟩ := h
 cases hg : mpGet s L with
 | none =>
  refine ⟨.map (mkE kV vV (L ++ [(s, v)])) (L ++ [(s, v)]).length, ?_, L ++ [(s, v)], World.putObj_heap_same h1.lt, fun x => by rw [mpGet_push hg, h2]⟩
  unfold Instr.mapUpdate
  simp only [Sem.run_bind, run_underlying hm, Result.andThen_ok, mpGetObj h1, hk.check, hk.find, mpGet_none hg]
  simp only [Option.map_none]
  rw [mkE_push, mpSetObj _ h1]
  simp
 | some u =>
  obtain ⟨i, hi⟩ := mpGet_some hg
  obtain ⟨_, hL⟩ := mpAt_at hi
  have hset := mpGet_set (v := v) hi
  simp only [Nat.sub_zero] at hL hset
  refine ⟨.map (mkE kV vV (L.set i (s, v))) (L.set i (s, v)).length, ?_, L.set i (s, v), World.putObj_heap_same h1.lt, fun x => by rw [hset, h2]⟩
  unfold Instr.mapUpdate
  simp only [Sem.run_bind, run_underlying hm, Result.andThen_ok, mpGetObj h1, hk.check, hk.find, hi]
  simp only [Option.map_some]
  have hkey : (((mkE kV vV L)[i]?).map (·.key)).getD (kV s) = kV s := by
   have : (mkE kV vV L)[i]? = some { key := kV s, val := vV u, born := i } := by
    simp [mkE, List.getElem?_zipIdx, hL]
   rw [this]; rfl
  rw [hkey]
  simp only [Sem.run_bind, hk.stays, Result.andThen_ok]
  rw [mkE_set, mpSetObj _ h1]
  simp
theorem fr_putO (R : Nat → Prop) (W : World) (b : Nat) (o : Obj) (h : R b) : Fr R W (W.putObj b o) :=
 ⟨rfl, rfl, rfl, by simp, fun k _ hn => World.putObj_heap_other (fun e => hn (e ▸ h))⟩
end
end Go.Proofs.YtkaogjhnogkcdaaGreat
end
