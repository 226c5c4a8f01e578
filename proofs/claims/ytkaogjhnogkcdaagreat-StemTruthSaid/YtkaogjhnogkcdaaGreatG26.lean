/- Stem's law: word, picked, Picked (walks). · The law StemTruth (walk). -/
import Derived.Test.YtkaogjhnogkcdaaGreatG25
import Derived.Test.YtkaogjhnogkcdaaGreatG21
import Derived.Test.YtkaogjhnogkcdaaGreatG22
import Derived.Test.YtkaogjhnogkcdaaGreatG13
import Derived.Test.YtkaogjhnogkcdaaGreatG10
set_option linter.unusedVariables false
set_option linter.unusedSimpArgs false
set_option linter.unusedSectionVars false
section
namespace Go.Proofs.YtkaogjhnogkcdaaGreat
open Go.RowKit
attribute [local go_sem] Ex.cell? Ex.frozen?

set_option maxHeartbeats 800000 in
theorem sl_word (A : Option Addr) (c : Nat) (l : List Int) (at_ : Int) (w : World) (hA : SlAt w w.heap.size 1 A l.length (fU l)) (hw : ∀ k, k < l.length → 0 ≤ gI l k ∧ gI l k ≤ 65535) (h0 : 0 ≤ at_) (h1 : at_ ≤ 1000) (hl : l.length ≤ maxLen) :
  Calls Tryz.prog 46 #[.slice A l.length c, .int .i64 at_] w fun e w' => (∃ n : Int, e = .returned (.int .i64 n) ∧ 0 ≤ n ∧ n ≤ 65535) ∧ Below w.heap.size w w' := by
 unfold maxLen at hl
 by_cases h : l.length = 0
 ·
  have HL := Lib.hid h
  clear h
  go_enter Tryz.func46, Tryz.ntmps46
  rw [HL.out]
  go_wp2
  go_ret
  exact ⟨⟨0, rfl, by omega, by omega⟩, Below.refl _ _⟩
 ·
  have hk : (at_ % (l.length : Int)).toNat < l.length := by
   have := Int.emod_lt_of_pos at_ (show (0 : Int) < (l.length : Int) by omega)
   have := Int.emod_nonneg at_ (show (l.length : Int) ≠ 0 by omega)
   omega
  have hr0 := Int.emod_nonneg at_ (show (l.length : Int) ≠ 0 by omega)
  have hr1 := Int.emod_lt_of_pos at_ (show (0 : Int) < (l.length : Int) by omega)
  obtain ⟨m, hm⟩ : ∃ m : Nat, at_ % (l.length : Int) = (m : Int) := ⟨(at_ % (l.length : Int)).toNat, by omega⟩
  have hmk : m < l.length := by omega
  obtain ⟨b, off, rfl, hb, hc⟩ := IsWords.at_ hA hmk
  have hv := hw _ hmk
  have e0 : ((l.length : Int) == 0) = false := by simpa using h
  have e0' : (l.length == 0) = false := by simpa using h
  have h1l : (1 : Int) ≤ (l.length : Int) := by omega
  have e2 : IntKind.i64.wrap (gI l m) = gI l m := IntWalk.i64_in _ (by omega)
  clear hk hr0 hr1
  go_enter Tryz.func46, Tryz.ntmps46
  go_wp2
  go_ret
  exact ⟨⟨_, rfl, hv.1, hv.2⟩, Below.refl _ _⟩


set_option maxHeartbeats 800000 in
theorem sl_picked1 (lo hi n : Int) (w : World) (h0 : 0 ≤ n) (h1 : n ≤ 65535) (hl : -100000 ≤ lo) (hlh : lo ≤ hi) (hh : hi ≤ 100000) :
  Calls Tryz.prog 47 #[.agg #[.int .i64 lo, .int .i64 hi], .int .i64 n] w fun e w' => (∃ x : Int, e = .returned (.int .i64 x) ∧ lo ≤ x ∧ x ≤ hi) ∧ Below w.heap.size w w' := by
 have hb := ex_alloc (Below.refl w.heap.size w) (.cells #[.int .i64 lo, .int .i64 hi] 25)
 by_cases c0 : n % 4 = 0
 ·
  have e0 : (n % 4 == 0) = true := by simp [c0]
  go_enter Tryz.func47, Tryz.ntmps47
  go_wp2
  go_ret
  exact ⟨⟨lo, rfl, by omega, by omega⟩, hb⟩
 have e0 : (n % 4 == 0) = false := by simp [c0]
 by_cases c1 : n % 4 = 1
 ·
  have e1 : (n % 4 == 1) = true := by simp [c1]
  go_enter Tryz.func47, Tryz.ntmps47
  go_wp2
  go_ret
  exact ⟨⟨hi, rfl, by omega, by omega⟩, hb⟩
 have e1 : (n % 4 == 1) = false := by simp [c1]
 clear c0 c1
 go_enter Tryz.func47, Tryz.ntmps47
 go_wp2
 have k0 : (hi - lo + 1 == 0) = false := by rw [beq_eq_false_iff_ne]; omega
 have k1 : IntKind.i64.wrap (hi - lo) = hi - lo := IntWalk.i64_in _ (by omega)
 have k2 : IntKind.i64.wrap (hi - lo + 1) = hi - lo + 1 := IntWalk.i64_in _ (by omega)
 have k3 : IntKind.i64.wrap (n.tdiv 4) = n / 4 := by rw [Int.tdiv_eq_ediv_of_nonneg h0]; exact IntWalk.i64_in _ (by omega)
 have r0 : 0 ≤ (n / 4) % (hi - lo + 1) := Int.emod_nonneg _ (by omega)
 have r1 : (n / 4) % (hi - lo + 1) < hi - lo + 1 := Int.emod_lt_of_pos _ (by omega)
 have k4 : IntKind.i64.wrap ((n / 4).tmod (hi - lo + 1)) = (n / 4) % (hi - lo + 1) := by rw [Int.tmod_eq_emod_of_nonneg (by omega)]; exact IntWalk.i64_in _ (by omega)
 have k5 : IntKind.i64.wrap (lo + (n / 4) % (hi - lo + 1)) = lo + (n / 4) % (hi - lo + 1) := IntWalk.i64_in _ (by omega)
 refine wp_region_ext (by kernel_rfl) (by kernel_rfl) ?_
 repeat (any_goals (go_big_quiet_step (fail)))
 refine wpQuiet_nil ?_; intro _ hw'; obtain ⟨X, rfl⟩ := hw'
 go_wp2
 go_ret
 exact ⟨⟨_, rfl, by omega, by omega⟩, ex_trans hb X.h⟩

structure TxIn (t : Tb) (r : Rd) (x : Tx) : Prop where
 ki : KiIn t x.ki
 air : r.air.lo ≤ x.air ∧ x.air ≤ r.air.hi
 rate : r.rate.lo ≤ x.rate ∧ x.rate ≤ r.rate.hi
 off : -r.err ≤ x.off ∧ x.off ≤ r.err
set_option maxRecDepth 100000 in
set_option maxHeartbeats 6400000 in
theorem sl_picked (t : Tb) (Ab Ad : Option Addr) (cb cd : Nat) (Aw : Option Addr) (cw : Nat) (ws : List Int) (r : Rd) (zero : Int) (w : World) (hw : SlAt w w.heap.size 1 Aw ws.length (fU ws)) (hwb : ∀ k, k < ws.length → 0 ≤ gI ws k ∧ gI ws k ≤ 65535) (hwl : ws.length ≤ maxLen) (ht : TbBd t) (hr : RdBd r) :
  Calls Tryz.prog 38 #[.agg #[.int .i64 t.g.base, .slice Ab t.g.bands.length cb, .slice Ad t.g.depths.length cd, .int .i64 t.g.blo, .int .i64 t.g.bhi, .int .i64 t.k.lo, .int .i64 t.k.hi, .int .i64 t.lag.lo, .int .i64 t.lag.hi, .int .i64 t.sq.lo, .int .i64 t.sq.hi, .int .i64 t.term], .agg #[.int .i64 r.day, .int .i64 r.shown, .int .i64 r.err, .int .i64 r.bare, .int .i64 r.air.lo, .int .i64 r.air.hi, .int .i64 r.rate.lo, .int .i64 r.rate.hi, .int .i64 r.deep, .bool r.broken], .int .i64 zero, .slice Aw ws.length cw] w fun e w' => (∃ x : Tx, e = .returned (.agg #[.int .i64 x.zero, .int .i64 x.k, .int .i64 x.lag, .int .i64 x.sq, .int .i64 x.air, .int .i64 x.rate, .int .i64 x.off]) ∧ Hid (TxIn t r x ∧ x.zero = zero)) ∧ Below w.heap.size w w' := by
 have HWB := Lib.hid hwb
 clear hwb
 have her := hr.err
 have ha := hr.air
 have hra := hr.rate
 have hk := ht.k
 have hl := ht.lag
 have hs := ht.sq
 go_enter Tryz.func38, Tryz.ntmps38
 go_upto_region 1 with fail
 show Code.wp _ _ _ _ _
 refine box3 (K := fun V => Code.wp _ _ _ _ V) ?_
 intro V hb1 q1 q2 q3
 replace hw := (hw.below hb1).up hb1.size
 obtain ⟨pq1, hpq1⟩ : ∃ p, w.heap.size = p := ⟨_, rfl⟩
 obtain ⟨pq2, hpq2⟩ : ∃ p, w.heap.size + 1 = p := ⟨_, rfl⟩
 obtain ⟨pq3, hpq3⟩ : ∃ p, w.heap.size + 1 + 1 = p := ⟨_, rfl⟩
 rw [hpq3] at q3 ⊢
 rw [hpq2] at q2 ⊢
 rw [hpq1] at q1 ⊢
 have hp1 : w.heap.size ≤ pq1 := by omega
 have hp2 : w.heap.size ≤ pq2 := by omega
 have hp3 : w.heap.size ≤ pq3 := by omega
 clear hpq1 hpq2 hpq3
 have b2 := q2.cell 2
 have lb := q2.lt
 simp at b2
 refine wp_region_ext_tq 9 (.quiet 0 (.quiet 1 (.quiet 2 (.quiet 3 (.quiet 4 (.quiet 5 (.quiet 6 (.loud 7 (.loud 8 .done))))))))) (by kernel_rfl) (by kernel_rfl) (by intro d _ _ _ _ h; cases d <;> exact h) ?_
 have D0 := (Below.refl V.heap.size V).drew
 repeat (refine tq_quiet rfl ?_; go_big_quiet_step (fail); refine wpQuiet_nil ?_)
 refine tq_loud rfl ?_
 go_wp2_with fail
 refine (sl_word _ _ ws 21 _ (hw.go (((Below.refl V.heap.size V)).drew)) HWB.out (by omega) (by omega) hwl).mono ?_
 rintro e V1 ⟨⟨n1, rfl, hn1, hm1⟩, hV1⟩
 have N7 := ex_trans ((Below.refl V.heap.size V)).drew hV1
 go_wp2_with fail
 refine ⟨inEx N7, ?_⟩
 refine tq_loud rfl ?_
 go_wp2_with fail
 refine (sl_picked1 (-r.err) r.err n1 _ hn1 hm1 (by omega) (by omega) (by omega)).mono ?_
 rintro e V2 ⟨⟨x1, rfl, hx1, hy1⟩, hV2⟩
 have N8 := ex_trans N7 hV2
 go_wp2_with fail
 refine ⟨inEx N8, ?_⟩
 refine tq_done (r := [_]) rfl ?_
 have XX := N8
 have XS := XX.size
 replace q1 := q1.below XX q1.lt
 replace q2 := q2.below XX q2.lt
 replace q3 := q3.below XX q3.lt
 replace hw := hw.go XX
 have B_V3 := ex_trans hb1 XX
 clear D0 XX XS hV2 N8 hV1 N7 
 generalize V2 = V3 at *
 have a5 := q1.cell 5
 have a6 := q1.cell 6
 have a7 := q1.cell 7
 have a8 := q1.cell 8
 have a9 := q1.cell 9
 have a10 := q1.cell 10
 have la := q1.lt
 simp at a5 a6 a7 a8 a9 a10
 have b4 := q2.cell 4
 have b5 := q2.cell 5
 have b6 := q2.cell 6
 have b7 := q2.cell 7
 have lb := q2.lt
 simp at b4 b5 b6 b7
 go_upto_region 2 with fail
 refine wp_region_ext_tq 28 (.quiet 0 (.quiet 1 (.quiet 2 (.quiet 3 (.quiet 6 (.quiet 7 (.quiet 8 (.quiet 11 (.quiet 12 (.quiet 13 (.quiet 16 (.quiet 17 (.quiet 18 (.quiet 21 (.quiet 22 (.quiet 23 (.quiet 26 (.loud 4 (.loud 5 (.loud 9 (.loud 10 (.loud 14 (.loud 15 (.loud 19 (.loud 20 (.loud 24 (.loud 25 (.quiet 27 .done)))))))))))))))))))))))))))) (by kernel_rfl) (by kernel_rfl) (by intro d _ _ _ _ h; cases d <;> exact h) ?_
 have D0 := (Below.refl V3.heap.size V3).drew
 repeat (refine tq_quiet rfl ?_; go_big_quiet_step (fail); refine wpQuiet_nil ?_)
 refine tq_loud rfl ?_
 go_wp2_with fail
 refine (sl_word _ _ ws 17 _ (hw.go (((Below.refl V3.heap.size V3)).drew)) HWB.out (by omega) (by omega) hwl).mono ?_
 rintro e V4 ⟨⟨n2, rfl, hn2, hm2⟩, hV4⟩
 have N4 := ex_trans ((Below.refl V3.heap.size V3)).drew hV4
 go_wp2_with fail
 refine ⟨inEx N4, ?_⟩
 repeat (refine tq_quiet rfl ?_; go_big_quiet_step (fail); refine wpQuiet_nil ?_)
 refine tq_loud rfl ?_
 go_wp2_with fail
 refine (sl_picked1 t.k.lo t.k.hi n2 _ hn2 hm2 (by omega) (by omega) (by omega)).mono ?_
 rintro e V5 ⟨⟨x2, rfl, hx2, hy2⟩, hV5⟩
 have N5 := ex_trans N4 hV5
 go_wp2_with fail
 refine ⟨inEx N5, ?_⟩
 repeat (refine tq_quiet rfl ?_; go_big_quiet_step (fail); refine wpQuiet_nil ?_)
 refine tq_loud rfl ?_
 go_wp2_with fail
 refine (sl_word _ _ ws 18 _ (hw.go (N5)) HWB.out (by omega) (by omega) hwl).mono ?_
 rintro e V6 ⟨⟨n3, rfl, hn3, hm3⟩, hV6⟩
 have N9 := ex_trans N5 hV6
 go_wp2_with fail
 refine ⟨inEx N9, ?_⟩
 repeat (refine tq_quiet rfl ?_; go_big_quiet_step (fail); refine wpQuiet_nil ?_)
 refine tq_loud rfl ?_
 go_wp2_with fail
 refine (sl_picked1 t.lag.lo t.lag.hi n3 _ hn3 hm3 (by omega) (by omega) (by omega)).mono ?_
 rintro e V7 ⟨⟨x3, rfl, hx3, hy3⟩, hV7⟩
 have N10 := ex_trans N9 hV7
 go_wp2_with fail
 refine ⟨inEx N10, ?_⟩
 repeat (refine tq_quiet rfl ?_; go_big_quiet_step (fail); refine wpQuiet_nil ?_)
 refine tq_loud rfl ?_
 go_wp2_with fail
 refine (sl_word _ _ ws 19 _ (hw.go (N10)) HWB.out (by omega) (by omega) hwl).mono ?_
 rintro e V8 ⟨⟨n4, rfl, hn4, hm4⟩, hV8⟩
 have N14 := ex_trans N10 hV8
 go_wp2_with fail
 refine ⟨inEx N14, ?_⟩
 repeat (refine tq_quiet rfl ?_; go_big_quiet_step (fail); refine wpQuiet_nil ?_)
 refine tq_loud rfl ?_
 go_wp2_with fail
 refine (sl_picked1 t.sq.lo t.sq.hi n4 _ hn4 hm4 (by omega) (by omega) (by omega)).mono ?_
 rintro e V9 ⟨⟨x4, rfl, hx4, hy4⟩, hV9⟩
 have N15 := ex_trans N14 hV9
 go_wp2_with fail
 refine ⟨inEx N15, ?_⟩
 repeat (refine tq_quiet rfl ?_; go_big_quiet_step (fail); refine wpQuiet_nil ?_)
 refine tq_loud rfl ?_
 go_wp2_with fail
 refine (sl_word _ _ ws 20 _ (hw.go (N15)) HWB.out (by omega) (by omega) hwl).mono ?_
 rintro e V10 ⟨⟨n5, rfl, hn5, hm5⟩, hV10⟩
 have N19 := ex_trans N15 hV10
 go_wp2_with fail
 refine ⟨inEx N19, ?_⟩
 repeat (refine tq_quiet rfl ?_; go_big_quiet_step (fail); refine wpQuiet_nil ?_)
 refine tq_loud rfl ?_
 go_wp2_with fail
 refine (sl_picked1 r.air.lo r.air.hi n5 _ hn5 hm5 (by omega) (by omega) (by omega)).mono ?_
 rintro e V11 ⟨⟨x5, rfl, hx5, hy5⟩, hV11⟩
 have N20 := ex_trans N19 hV11
 go_wp2_with fail
 refine ⟨inEx N20, ?_⟩
 repeat (refine tq_quiet rfl ?_; go_big_quiet_step (fail); refine wpQuiet_nil ?_)
 refine tq_loud rfl ?_
 go_wp2_with fail
 refine (sl_word _ _ ws 22 _ (hw.go (N20)) HWB.out (by omega) (by omega) hwl).mono ?_
 rintro e V12 ⟨⟨n6, rfl, hn6, hm6⟩, hV12⟩
 have N24 := ex_trans N20 hV12
 go_wp2_with fail
 refine ⟨inEx N24, ?_⟩
 repeat (refine tq_quiet rfl ?_; go_big_quiet_step (fail); refine wpQuiet_nil ?_)
 refine tq_loud rfl ?_
 go_wp2_with fail
 refine (sl_picked1 r.rate.lo r.rate.hi n6 _ hn6 hm6 (by omega) (by omega) (by omega)).mono ?_
 rintro e V13 ⟨⟨x6, rfl, hx6, hy6⟩, hV13⟩
 have N25 := ex_trans N24 hV13
 go_wp2_with fail
 refine ⟨inEx N25, ?_⟩
 repeat (refine tq_quiet rfl ?_; go_big_quiet_step (fail); refine wpQuiet_nil ?_)
 refine tq_done (r := [_]) rfl ?_
 have XX := N25
 have XS := XX.size
 replace q1 := q1.below XX q1.lt
 replace q2 := q2.below XX q2.lt
 replace q3 := q3.below XX q3.lt
 replace hw := hw.go XX
 have B_V14 := ex_trans B_V3 XX
 clear D0 XX XS hV13 N25 hV12 N24 hV11 N20 hV10 N19 hV9 N15 hV8 N14 hV7 N10 hV6 N9 hV5 N5 hV4 N4 
 generalize V13 = V14 at *
 have r0 := q3.cell 0
 have r1 := q3.cell 1
 have r2 := q3.cell 2
 have r3 := q3.cell 3
 have r4 := q3.cell 4
 have r5 := q3.cell 5
 have r6 := q3.cell 6
 have fr := q3.frozen0
 have lr := q3.lt
 simp at r0 r1 r2 r3 r4 r5 r6
 have m3 := (((((((q3.set_ 0 (.int .i64 zero)).set_ 1 (.int .i64 x2)).set_ 2 (.int .i64 x3)).set_ 3 (.int .i64 x4)).set_ 4 (.int .i64 x5)).set_ 5 (.int .i64 x6)).set_ 6 (.int .i64 x1))
 simp only [List.setIfInBounds_toArray, List.set_cons_zero, List.set_cons_succ] at m3
 have mB := ex_set (p := ⟨pq3, 6, none⟩) (ex_set (p := ⟨pq3, 5, none⟩) (ex_set (p := ⟨pq3, 4, none⟩) (ex_set (p := ⟨pq3, 3, none⟩) (ex_set (p := ⟨pq3, 2, none⟩) (ex_set (p := ⟨pq3, 1, none⟩) (ex_set (p := ⟨pq3, 0, none⟩) (B_V14) hp3 (.int .i64 zero)) hp3 (.int .i64 x2)) hp3 (.int .i64 x3)) hp3 (.int .i64 x4)) hp3 (.int .i64 x5)) hp3 (.int .i64 x6)) hp3 (.int .i64 x1)
 go_wp2
 refine bodyPost_ret (results_cell_row rfl _ _ _ 82 #[.int .i64 zero, .int .i64 x2, .int .i64 x3, .int .i64 x4, .int .i64 x5, .int .i64 x6, .int .i64 x1] (0, 0) _ rfl m3 rfl rfl rfl) rfl ?_
 exact ⟨⟨⟨zero, x2, x3, x4, x5, x6, x1⟩, rfl, Lib.hid ⟨⟨⟨⟨hx2, hy2⟩, ⟨hx3, hy3⟩, ⟨hx4, hy4⟩⟩, ⟨hx5, hy5⟩, ⟨hx6, hy6⟩, ⟨hx1, hy1⟩⟩, rfl⟩⟩, mB⟩


end Go.Proofs.YtkaogjhnogkcdaaGreat
end

section
namespace Go.Proofs.YtkaogjhnogkcdaaGreat
open Go.RowKit
attribute [local go_sem] Ex.cell? Ex.frozen?

theorem liv_in {t : Tb} {h : List Rg} {l : List Ic} {zl : List Int} {zs : List Rg} {k : Nat} (hl : LivOk t h l zl) (hz : ZsOf t.g h l zs) (hk : k < h.length) : (gR zs k).lo ≤ gI zl k ∧ gI zl k ≤ (gR zs k).hi := by
 obtain ⟨t1, t2, t3, ht, rfl, ha⟩ := hl.truth
 exact AllOf.within hl.ok ht ha hz hk
theorem tru_play {t : Tb} {h : List Rg} {l : List Ic} {r : Rd} {x : Tx} {zl : List Int} (hl : LivOk t h l zl) (ha : askE t h l r = 0) (hx : TxIn t r x) (hz : -2000 ≤ x.zero ∧ x.zero ≤ 2000) :
  playE t r x = 0 ∧ playV t r x = playW r x ∧ (bndP t r).lo - x.zero ≤ playW r x ∧ playW r x ≤ (bndP t r).hi - x.zero := by
 obtain ⟨_, hd⟩ := ask_0 ha
 obtain ⟨hday, hr⟩ := rdOk_iff.1 hd
 have h16 := lived_len (iced_lived (useE_0 hl.use0).2)
 have hd16 : rdOk 16 r = true := rdOk_iff.2 ⟨by omega, hr⟩
 have htx : txOk t r x = true := txOk_iff.2 ⟨hx.ki, hx.air, hx.rate, hx.off, hz⟩
 obtain ⟨e1, e2⟩ := play_ok hl.ck (show (rdOk 16 r && txOk t r x) = true by rw [hd16, htx]; rfl)
 have hs := (bnd_ends hl.tb hr).2.2 _ ⟨x.ki, x.air, x.rate, x.off, hx.ki, hx.air, hx.rate, hx.off, rfl⟩
 refine ⟨e1, e2, ?_⟩
 unfold playW
 omega
set_option maxRecDepth 100000 in
set_option maxHeartbeats 12800000 in
theorem sl_truth (t : Tb) (Ab Ad : Option Addr) (cb cd : Nat) (Ah Aw : Option Addr) (ch cw : Nat) (h : List Rg) (ws : List Int) (m : Int) (r : Rd) (w : World) (hg : GlIn w w.heap.size t.g Ab Ad) (hh : SlAt w w.heap.size 2 Ah h.length (fR h)) (hw : SlAt w w.heap.size 1 Aw ws.length (fU ws)) (hwb : ∀ k, k < ws.length → 0 ≤ gI ws k ∧ gI ws k ≤ 65535) (hwl : ws.length ≤ maxLen) (hm : 0 ≤ m ∧ m ≤ 255) :
  Calls Tryz.prog 5 #[.agg #[.int .i64 t.g.base, .slice Ab t.g.bands.length cb, .slice Ad t.g.depths.length cd, .int .i64 t.g.blo, .int .i64 t.g.bhi, .int .i64 t.k.lo, .int .i64 t.k.hi, .int .i64 t.lag.lo, .int .i64 t.lag.hi, .int .i64 t.sq.lo, .int .i64 t.sq.hi, .int .i64 t.term], .slice Ah h.length ch, .slice Aw ws.length cw, .int .u8 m, .agg #[.int .i64 r.day, .int .i64 r.shown, .int .i64 r.err, .int .i64 r.bare, .int .i64 r.air.lo, .int .i64 r.air.hi, .int .i64 r.rate.lo, .int .i64 r.rate.hi, .int .i64 r.deep, .bool r.broken]] w fun e w' => e = .returned (.bool true) ∧ Below w.heap.size w w' := by
 have HWB := Lib.hid hwb
 clear hwb
 go_enter Tryz.func5, Tryz.ntmps5
 go_upto_region 1 with fail
 show Code.wp _ _ _ _ _
 refine box2 (K := fun V => Code.wp _ _ _ _ V) ?_
 intro V hb1 q1 q2
 replace hg := hg.go hb1
 replace hh := (hh.below hb1).up hb1.size
 replace hw := (hw.below hb1).up hb1.size
 obtain ⟨pq1, hpq1⟩ : ∃ p, w.heap.size = p := ⟨_, rfl⟩
 obtain ⟨pq2, hpq2⟩ : ∃ p, w.heap.size + 1 = p := ⟨_, rfl⟩
 rw [hpq2] at q2 ⊢
 rw [hpq1] at q1 ⊢
 have hp1 : w.heap.size ≤ pq1 := by omega
 have hp2 : w.heap.size ≤ pq2 := by omega
 clear hpq1 hpq2
 go_wp2_with (refine pause_at 24 rfl ?_)
 refine Paused.mk ?_
 refine wpList_load_row rfl 29 _ rfl _ rfl 29 _ (0, 0) _ (q1) Tryz.underlying29 rfl (by kernel_rfl) ?_
 go_wp2_with fail
 refine (sl_lives t Ab Ad cb cd Ah Aw ch cw h ws m _ hg hh hw HWB.out hwl hm).mono ?_
 rintro e V1 ⟨hlv, hV1⟩
 replace q1 := q1.below hV1 q1.lt
 replace q2 := q2.below hV1 q2.lt
 replace hg := hg.go hV1
 replace hh := (hh.below hV1).up hV1.size
 replace hw := (hw.below hV1).up hV1.size
 have B_V1 := ex_trans hb1 hV1
 obtain ⟨hlv⟩ := hlv
 rcases hlv with ⟨A0, n0, c0, A0', n0', c0', rfl⟩ | ⟨Ai, ci, l, Az, cz, zl, rfl, hl, hci1, hci2, hi, hz⟩
 ·
  go_wp2_with fail
  refine (sl_awake _).mono ?_
  rintro e V2 ⟨rfl, hV2⟩
  replace q1 := q1.below hV2 q1.lt
  replace q2 := q2.below hV2 q2.lt
  replace hg := hg.go hV2
  replace hh := (hh.below hV2).up hV2.size
  replace hw := (hw.below hV2).up hV2.size
  have B_V2 := ex_trans B_V1 hV2
  go_wp2
  go_ret
  exact ⟨rfl, B_V2⟩
 ·
  have HL := Lib.hid hl
  have hnb := hl.nb
  have hnd := hl.nd
  have hnh := hl.nh
  have hl4 := hl.l4
  clear hl
  go_wp2_with (refine pause_at 35 rfl ?_)
  refine Paused.mk ?_
  refine wpList_load_rowG (by kernel_rfl) 33 _ rfl _ (by kernel_rfl) 33 _ (0, 0) _ (q2) Tryz.underlying33 rfl (by kernel_rfl) ?_
  go_wp2_with fail
  refine (sr_isreading h.length r _ (by omega)).mono ?_
  rintro e V3 ⟨rfl, hV3⟩
  replace q1 := q1.below hV3 q1.lt
  replace q2 := q2.below hV3 q2.lt
  replace hg := hg.go hV3
  replace hh := (hh.below hV3).up hV3.size
  replace hw := (hw.below hV3).up hV3.size
  replace hi := (hi.below hV3).up hV3.size
  replace hz := (hz.below hV3).up hV3.size
  have B_V3 := ex_trans B_V1 hV3
  rcases Bool.eq_false_or_eq_true (rdOk h.length r) with hd | hd
  rotate_left
  ·
   rw [hd]
   clear hd
   go_wp2_with fail
   refine (sl_awake _).mono ?_
   rintro e V4 ⟨rfl, hV4⟩
   replace q1 := q1.below hV4 q1.lt
   replace q2 := q2.below hV4 q2.lt
   replace hg := hg.go hV4
   replace hh := (hh.below hV4).up hV4.size
   replace hw := (hw.below hV4).up hV4.size
   replace hi := (hi.below hV4).up hV4.size
   replace hz := (hz.below hV4).up hV4.size
   have B_V4 := ex_trans B_V3 hV4
   go_wp2
   go_ret
   exact ⟨rfl, B_V4⟩
  ·
   rw [hd]
   have HA := Lib.hid (ask_of HL.out.use0 hd)
   have HO := Lib.hid (ask_bd HA.out)
   obtain ⟨k, hk, hkl⟩ := HO.out.day
   have hday : 0 ≤ r.day ∧ r.day ≤ 1000000 := by omega
   have HK := Lib.hid hk
   have HKT : Hid (r.day.toNat = k) := Lib.hid (by omega)
   clear hk hd
   rcases Bool.eq_false_or_eq_true r.broken with hb | hb
   ·
    have b9 : V3.cell? ⟨pq2, 9, none⟩ = some (.bool r.broken) := q2.cell 9
    rw [hb] at b9
    have lb := q2.lt
    clear hb
    go_wp2_with fail
    refine (sl_awake _).mono ?_
    rintro e V5 ⟨rfl, hV5⟩
    replace q1 := q1.below hV5 q1.lt
    replace q2 := q2.below hV5 q2.lt
    replace hg := hg.go hV5
    replace hh := (hh.below hV5).up hV5.size
    replace hw := (hw.below hV5).up hV5.size
    replace hi := (hi.below hV5).up hV5.size
    replace hz := (hz.below hV5).up hV5.size
    have B_V5 := ex_trans B_V3 hV5
    go_wp2
    go_ret
    exact ⟨rfl, B_V5⟩
   ·
    have b9 : V3.cell? ⟨pq2, 9, none⟩ = some (.bool r.broken) := q2.cell 9
    rw [hb] at b9
    have lb := q2.lt
    have HB := Lib.hid hb
    clear hb
    go_wp2_with (refine pause_at 46 rfl ?_)
    refine Paused.mk ?_
    refine wpList_load_rowG (by kernel_rfl) 29 _ rfl _ (by kernel_rfl) 29 _ (0, 0) _ (q1) Tryz.underlying29 rfl (by kernel_rfl) ?_
    go_wp2_with (refine pause_at 48 rfl ?_)
    refine Paused.mk ?_
    refine wpList_load_rowG (by kernel_rfl) 33 _ rfl _ (by kernel_rfl) 33 _ (0, 0) _ (q2) Tryz.underlying33 rfl (by kernel_rfl) ?_
    clear b9 lb
    go_wp2_with fail
    refine (sr_stale t Ab Ad cb cd _ _ l r _ hi (by omega) hday).mono ?_
    rintro e V6 ⟨rfl, hV6⟩
    replace q1 := q1.below hV6 q1.lt
    replace q2 := q2.below hV6 q2.lt
    replace hg := hg.go hV6
    replace hh := (hh.below hV6).up hV6.size
    replace hw := (hw.below hV6).up hV6.size
    replace hi := (hi.below hV6).up hV6.size
    replace hz := (hz.below hV6).up hV6.size
    have B_V6 := ex_trans B_V3 hV6
    rcases Bool.eq_false_or_eq_true (staleB t l r.day) with hs | hs
    ·
     rw [hs]
     clear hs
     go_wp2_with fail
     refine (sl_awake _).mono ?_
     rintro e V7 ⟨rfl, hV7⟩
     replace q1 := q1.below hV7 q1.lt
     replace q2 := q2.below hV7 q2.lt
     replace hg := hg.go hV7
     replace hh := (hh.below hV7).up hV7.size
     replace hw := (hw.below hV7).up hV7.size
     replace hi := (hi.below hV7).up hV7.size
     replace hz := (hz.below hV7).up hV7.size
     have B_V7 := ex_trans B_V6 hV7
     go_wp2
     go_ret
     exact ⟨rfl, B_V7⟩
    ·
     rw [hs]
     have HS := Lib.hid hs
     clear hs
     have HR : Hid (refE t l r (agreeB t.g h l off0) = 0) := Lib.hid (by rw [HL.out.ag]; exact ref_of HB.out HS.out)
     go_upto_region 4 with fail
     rename_i K0 hK0
     have hrest : ∀ (V8 : World) (pi : Nat) (R1 : Rg) (ev1 : Int) (a : Act), Below V6.heap.size V6 V8 → V6.heap.size ≤ pi → Blk V8 pi 41 #[.int .i64 (R1 : Rg).lo, .int .i64 (R1 : Rg).hi] → Hid (CorV t h l r R1 ev1) → (∃ u : Nat → Value, a = ⟨List.toArray (u 0 :: .slice Ah h.length ch :: .slice Aw ws.length cw :: u 3 :: u 4 :: .pointer (some ⟨pq1, 0, none⟩) :: u 6 :: u 7 :: u 8 :: .pointer (some ⟨pq2, 0, none⟩) :: .bool false :: .slice Ai l.length ci :: .slice Az h.length cz :: u 13 :: .pointer (some ⟨pi, 0, none⟩) :: .int .i64 ev1 :: u 16 :: u 17 :: u 18 :: u 19 :: u 20 :: u 21 :: u 22 :: u 23 :: u 24 :: u 25 :: u 26 :: u 27 :: u 28 :: u 29 :: u 30 :: u 31 :: u 32 :: u 33 :: u 34 :: u 35 :: u 36 :: u 37 :: u 38 :: u 39 :: u 40 :: u 41 :: u 42 :: u 43 :: u 44 :: u 45 :: u 46 :: u 47 :: u 48 :: u 49 :: u 50 :: u 51 :: u 52 :: u 53 :: u 54 :: u 55 :: u 56 :: u 57 :: u 58 :: u 59 :: u 60 :: u 61 :: u 62 :: u 63 :: u 64 :: u 65 :: u 66 :: u 67 :: u 68 :: u 69 :: u 70 :: u 71 :: u 72 :: u 73 :: u 74 :: u 75 :: u 76 :: u 77 :: u 78 :: u 79 :: u 80 :: u 81 :: u 82 :: u 83 :: u 84 :: u 85 :: u 86 :: u 87 :: u 88 :: u 89 :: u 90 :: u 91 :: u 92 :: u 93 :: u 94 :: u 95 :: u 96 :: u 97 :: u 98 :: u 99 :: u 100 :: u 101 :: u 102 :: u 103 :: u 104 :: u 105 :: u 106 :: u 107 :: u 108 :: u 109 :: u 110 :: u 111 :: u 112 :: u 113 :: u 114 :: u 115 :: u 116 :: u 117 :: u 118 :: u 119 :: u 120 :: u 121 :: u 122 :: u 123 :: u 124 :: u 125 :: u 126 :: u 127 :: u 128 :: u 129 :: u 130 :: u 131 :: u 132 :: u 133 :: u 134 :: u 135 :: u 136 :: u 137 :: u 138 :: u 139 :: u 140 :: u 141 :: u 142 :: u 143 :: u 144 :: u 145 :: u 146 :: u 147 :: u 148 :: u 149 :: u 150 :: []), []⟩) → K0 a V8 := by
      rintro V8 pi R1 ev1 a hX9 yi bi hc1 ⟨u, rfl⟩
      refine hK0 _ _ ?_
      clear hK0 K0
      replace q1 := q1.below hX9 q1.lt
      replace q2 := q2.below hX9 q2.lt
      replace hg := hg.go hX9
      replace hh := (hh.below hX9).up hX9.size
      replace hw := (hw.below hX9).up hX9.size
      replace hi := (hi.below hX9).up hX9.size
      replace hz := (hz.below hX9).up hX9.size
      have B_V8 := ex_trans B_V6 hX9
      have zi : w.heap.size ≤ pi := by have := B_V6.size; omega
      have a0 : V8.cell? ⟨pq1, 0, none⟩ = some (.int .i64 t.g.base) := q1.cell 0
      have a1 : V8.cell? ⟨pq1, 1, none⟩ = some (.slice Ab t.g.bands.length cb) := q1.cell 1
      have a2 : V8.cell? ⟨pq1, 2, none⟩ = some (.slice Ad t.g.depths.length cd) := q1.cell 2
      have a3 : V8.cell? ⟨pq1, 3, none⟩ = some (.int .i64 t.g.blo) := q1.cell 3
      have a4 : V8.cell? ⟨pq1, 4, none⟩ = some (.int .i64 t.g.bhi) := q1.cell 4
      have la := q1.lt
      go_wp2_with fail
      refine (Glass_any t.g _ _ _ _ _ hg (by omega) (by omega)).mono ?_
      rintro e V9 ⟨⟨Ab2, Ad2, cb2, cd2, rfl, hg2⟩, hV9⟩
      replace q1 := q1.below hV9 q1.lt
      replace q2 := q2.below hV9 q2.lt
      replace hg := hg.go hV9
      replace hh := (hh.below hV9).up hV9.size
      replace hw := (hw.below hV9).up hV9.size
      replace hi := (hi.below hV9).up hV9.size
      replace hz := (hz.below hV9).up hV9.size
      replace bi := bi.below hV9 bi.lt
      have B_V9 := ex_trans B_V8 hV9
      clear a0 a1 a2 a3 a4 la
      go_wp2_with fail
      refine (History_any _ _ h _ (by omega) hh).mono ?_
      rintro e V10 ⟨⟨Ah2, ch2, rfl, -, -, hh2⟩, hV10⟩
      replace q1 := q1.below hV10 q1.lt
      replace q2 := q2.below hV10 q2.lt
      replace hg := hg.go hV10
      replace hh := (hh.below hV10).up hV10.size
      replace hw := (hw.below hV10).up hV10.size
      replace hi := (hi.below hV10).up hV10.size
      replace hz := (hz.below hV10).up hV10.size
      replace bi := bi.below hV10 bi.lt
      replace hg2 := hg2.go hV10
      have B_V10 := ex_trans B_V9 hV10
      go_wp2_with fail
      refine (Ices_any _ _ l _ (by omega) hi).mono ?_
      rintro e V11 ⟨⟨Ai2, ci2, rfl, -, -, hi2⟩, hV11⟩
      replace q1 := q1.below hV11 q1.lt
      replace q2 := q2.below hV11 q2.lt
      replace hg := hg.go hV11
      replace hh := (hh.below hV11).up hV11.size
      replace hw := (hw.below hV11).up hV11.size
      replace hi := (hi.below hV11).up hV11.size
      replace hz := (hz.below hV11).up hV11.size
      replace bi := bi.below hV11 bi.lt
      replace hg2 := hg2.go hV11
      replace hh2 := (hh2.below hV11).up hV11.size
      have B_V11 := ex_trans B_V10 hV11
      go_wp2_with fail
      refine (Zeros_v t.g _ _ _ _ _ _ _ _ h l _ hg2 hh2 hi2 (useE_0 HL.out.use0).2).mono ?_
      rintro e V12 ⟨⟨A9, n9, ev9, zs, rfl, hzv, hsz⟩, hV12⟩
      replace q1 := q1.below hV12 q1.lt
      replace q2 := q2.below hV12 q2.lt
      replace hg := hg.go hV12
      replace hh := (hh.below hV12).up hV12.size
      replace hw := (hw.below hV12).up hV12.size
      replace hi := (hi.below hV12).up hV12.size
      replace hz := (hz.below hV12).up hV12.size
      replace bi := bi.below hV12 bi.lt
      replace hg2 := hg2.go hV12
      replace hh2 := (hh2.below hV12).up hV12.size
      replace hi2 := (hi2.below hV12).up hV12.size
      have B_V12 := ex_trans B_V11 hV12
      clear hg2 hh2 hi2
      obtain ⟨rfl, rfl, hZ⟩ := zeros_ok2 HL.out.ag hzv.out
      have HZ := Lib.hid hZ
      clear hZ hzv
      obtain ⟨rfl, hE1⟩ := cor_ends HA.out HR.out HZ.out HKT.out hc1.out
      have HE1 := Lib.hid hE1
      clear hE1 hc1
      have hzb := zs_bd HO.out.ok HZ.out k hkl
      have hbb := bnd_bd HO.out.tb HO.out.rd
      have hlz := liv_in HL.out HZ.out hkl
      have HZL : Hid (gI zl k = gI zl k) := Lib.hid rfl
      have b0 : V12.cell? ⟨pq2, 0, none⟩ = some (.int .i64 r.day) := q2.cell 0
      rw [HK.out] at b0
      have lb := q2.lt
      obtain ⟨bz, oz, hA9, hbz, z0, z1⟩ := IsRgs.at_ hsz hkl
      subst hA9
      obtain ⟨bv, ov, hAz, hbv, v0⟩ := IsInts.at_ hz hkl
      subst hAz
      generalize hzk : gR zs k = z at *
      generalize hvk : gI zl k = vz at *
      clear hzk hvk HZL
      go_upto_region 8 with fail
      rename_i K0 hK0
      have hrest : ∀ (V13 : World) (pg : Nat) (a : Act), Below V12.heap.size V12 V13 → V12.heap.size ≤ pg → Blk V13 pg 3 #[.int .i64 vz, .int .i64 z.lo, .int .i64 z.hi] → (∃ u : Nat → Value, a = ⟨List.toArray (u 0 :: .slice Ah h.length ch :: .slice Aw ws.length cw :: u 3 :: u 4 :: .pointer (some ⟨pq1, 0, none⟩) :: u 6 :: u 7 :: u 8 :: .pointer (some ⟨pq2, 0, none⟩) :: .bool false :: .slice Ai l.length ci :: u 12 :: u 13 :: .pointer (some ⟨pi, 0, none⟩) :: .int .i64 0 :: u 16 :: u 17 :: .slice (some ⟨pg, 0, none⟩) 3 3 :: u 19 :: u 20 :: u 21 :: u 22 :: u 23 :: u 24 :: u 25 :: u 26 :: u 27 :: u 28 :: u 29 :: u 30 :: u 31 :: u 32 :: u 33 :: u 34 :: u 35 :: u 36 :: u 37 :: u 38 :: u 39 :: u 40 :: u 41 :: u 42 :: u 43 :: u 44 :: u 45 :: u 46 :: u 47 :: u 48 :: u 49 :: u 50 :: u 51 :: u 52 :: u 53 :: u 54 :: u 55 :: u 56 :: u 57 :: u 58 :: u 59 :: u 60 :: u 61 :: u 62 :: u 63 :: u 64 :: u 65 :: u 66 :: u 67 :: u 68 :: u 69 :: u 70 :: u 71 :: u 72 :: u 73 :: u 74 :: u 75 :: u 76 :: u 77 :: u 78 :: u 79 :: u 80 :: u 81 :: u 82 :: u 83 :: u 84 :: u 85 :: u 86 :: u 87 :: u 88 :: u 89 :: u 90 :: u 91 :: u 92 :: u 93 :: u 94 :: u 95 :: u 96 :: u 97 :: u 98 :: u 99 :: u 100 :: u 101 :: u 102 :: u 103 :: u 104 :: u 105 :: u 106 :: u 107 :: u 108 :: u 109 :: u 110 :: u 111 :: u 112 :: u 113 :: u 114 :: u 115 :: u 116 :: u 117 :: u 118 :: u 119 :: u 120 :: u 121 :: u 122 :: u 123 :: u 124 :: u 125 :: u 126 :: u 127 :: u 128 :: u 129 :: u 130 :: u 131 :: u 132 :: u 133 :: u 134 :: u 135 :: u 136 :: u 137 :: u 138 :: u 139 :: u 140 :: u 141 :: u 142 :: u 143 :: u 144 :: u 145 :: u 146 :: u 147 :: u 148 :: u 149 :: u 150 :: []), []⟩) → K0 a V13 := by
       rintro V13 pg  a hX9 yg bg  ⟨u, rfl⟩
       refine hK0 _ _ ?_
       clear hK0 K0
       replace q1 := q1.below hX9 q1.lt
       replace q2 := q2.below hX9 q2.lt
       replace hg := hg.go hX9
       replace hh := (hh.below hX9).up hX9.size
       replace hw := (hw.below hX9).up hX9.size
       replace hi := (hi.below hX9).up hX9.size
       replace hz := (hz.below hX9).up hX9.size
       replace bi := bi.below hX9 bi.lt
       replace hsz := (hsz.below hX9).up hX9.size
       have B_V13 := ex_trans B_V12 hX9
       have zg : w.heap.size ≤ pg := by have := B_V12.size; omega
       clear b0 lb z0 z1 v0 hbz hbv
       clear hz
       clear hsz
       clear hh
       clear hi
       go_wp2_with fail
       refine wp_loop (fun a wr => ∃ j : Nat, j ≤ 3 ∧ Below V13.heap.size V13 wr ∧ ∃ u : Nat → Value, a = ⟨List.toArray (u 0 :: u 1 :: .slice Aw ws.length cw :: u 3 :: u 4 :: .pointer (some ⟨pq1, 0, none⟩) :: u 6 :: u 7 :: u 8 :: .pointer (some ⟨pq2, 0, none⟩) :: .bool false :: u 11 :: u 12 :: u 13 :: .pointer (some ⟨pi, 0, none⟩) :: u 15 :: u 16 :: u 17 :: .slice (some ⟨pg, 0, none⟩) 3 3 :: .int .i64 (j : Int) :: u 20 :: u 21 :: u 22 :: u 23 :: u 24 :: u 25 :: u 26 :: u 27 :: u 28 :: u 29 :: u 30 :: u 31 :: u 32 :: u 33 :: u 34 :: u 35 :: u 36 :: u 37 :: u 38 :: u 39 :: u 40 :: u 41 :: u 42 :: u 43 :: u 44 :: u 45 :: u 46 :: u 47 :: u 48 :: u 49 :: u 50 :: u 51 :: u 52 :: u 53 :: u 54 :: u 55 :: u 56 :: u 57 :: u 58 :: u 59 :: u 60 :: u 61 :: u 62 :: u 63 :: u 64 :: u 65 :: u 66 :: u 67 :: u 68 :: u 69 :: u 70 :: u 71 :: u 72 :: u 73 :: u 74 :: u 75 :: u 76 :: u 77 :: u 78 :: u 79 :: u 80 :: u 81 :: u 82 :: u 83 :: u 84 :: u 85 :: u 86 :: u 87 :: u 88 :: u 89 :: u 90 :: u 91 :: u 92 :: u 93 :: u 94 :: u 95 :: u 96 :: u 97 :: u 98 :: u 99 :: u 100 :: u 101 :: u 102 :: u 103 :: u 104 :: u 105 :: u 106 :: u 107 :: u 108 :: u 109 :: u 110 :: u 111 :: u 112 :: u 113 :: u 114 :: u 115 :: u 116 :: u 117 :: u 118 :: u 119 :: u 120 :: u 121 :: u 122 :: u 123 :: u 124 :: u 125 :: u 126 :: u 127 :: u 128 :: u 129 :: u 130 :: u 131 :: u 132 :: u 133 :: u 134 :: u 135 :: u 136 :: u 137 :: u 138 :: u 139 :: u 140 :: u 141 :: u 142 :: u 143 :: u 144 :: u 145 :: u 146 :: u 147 :: u 148 :: u 149 :: u 150 :: []), []⟩) (fun a _ => 3 - (intOf (a.tmps.getD 19 undef)).toNat) ⟨0, by omega, Below.refl _ _, exFrame (by kernel_rfl)⟩ ?_
       rintro a wr ⟨j, hj, hbl, u, rfl⟩
       have HBL := hbl
       replace q1 := q1.below hbl q1.lt
       replace q2 := q2.below hbl q2.lt
       replace hg := hg.go hbl
       replace hw := (hw.below hbl).up hbl.size
       replace bi := bi.below hbl bi.lt
       replace bg := bg.below hbl bg.lt
       have B_wr := ex_trans B_V13 hbl
       by_cases hlt : j < 3
       ·
        obtain ⟨v, hv1, hv2, hcell⟩ : ∃ v : Int, z.lo ≤ v ∧ v ≤ z.hi ∧ (#[.int .i64 vz, .int .i64 z.lo, .int .i64 z.hi] : Array Value)[j]? = some (.int .i64 v) := by
         match j, hlt with
         | 0, _ => exact ⟨vz, hlz.1, hlz.2, rfl⟩
         | 1, _ => exact ⟨z.lo, Int.le_refl _, by omega, rfl⟩
         | 2, _ => exact ⟨z.hi, by omega, Int.le_refl _, rfl⟩
        have HC := Lib.hid hcell
        clear hcell hlz
        have gc : wr.cell? ⟨pg, j, none⟩ = some (.int .i64 v) := by rw [cell_of_row _ _ _ _ _ _ bg]; exact HC.out
        have lg := bg.lt
        go_upto_region 12 with fail
        rename_i K0 hK0
        have hrest : ∀ (V14 : World) (px : Nat) (x : Tx) (a : Act), Below wr.heap.size wr V14 → wr.heap.size ≤ px → Blk V14 px 82 #[.int .i64 x.zero, .int .i64 x.k, .int .i64 x.lag, .int .i64 x.sq, .int .i64 x.air, .int .i64 x.rate, .int .i64 x.off] → Hid (TxIn t r x ∧ x.zero = v) → (∃ u : Nat → Value, a = ⟨List.toArray (u 0 :: u 1 :: .slice Aw ws.length cw :: u 3 :: u 4 :: .pointer (some ⟨pq1, 0, none⟩) :: u 6 :: u 7 :: u 8 :: .pointer (some ⟨pq2, 0, none⟩) :: .bool false :: u 11 :: u 12 :: u 13 :: .pointer (some ⟨pi, 0, none⟩) :: u 15 :: u 16 :: u 17 :: .slice (some ⟨pg, 0, none⟩) 3 3 :: .int .i64 (j : Int) :: .pointer (some ⟨px, 0, none⟩) :: u 21 :: u 22 :: u 23 :: u 24 :: u 25 :: u 26 :: u 27 :: u 28 :: u 29 :: u 30 :: u 31 :: u 32 :: u 33 :: u 34 :: u 35 :: u 36 :: u 37 :: u 38 :: u 39 :: u 40 :: u 41 :: u 42 :: u 43 :: u 44 :: u 45 :: u 46 :: u 47 :: u 48 :: u 49 :: u 50 :: u 51 :: u 52 :: u 53 :: u 54 :: u 55 :: u 56 :: u 57 :: u 58 :: u 59 :: u 60 :: u 61 :: u 62 :: u 63 :: u 64 :: u 65 :: u 66 :: u 67 :: u 68 :: u 69 :: u 70 :: u 71 :: u 72 :: u 73 :: u 74 :: u 75 :: u 76 :: u 77 :: u 78 :: u 79 :: u 80 :: u 81 :: u 82 :: u 83 :: u 84 :: u 85 :: u 86 :: u 87 :: u 88 :: u 89 :: u 90 :: u 91 :: u 92 :: u 93 :: u 94 :: u 95 :: u 96 :: u 97 :: u 98 :: u 99 :: u 100 :: u 101 :: u 102 :: u 103 :: u 104 :: u 105 :: u 106 :: u 107 :: u 108 :: u 109 :: u 110 :: u 111 :: u 112 :: u 113 :: u 114 :: u 115 :: u 116 :: u 117 :: u 118 :: u 119 :: u 120 :: u 121 :: u 122 :: u 123 :: u 124 :: u 125 :: u 126 :: u 127 :: u 128 :: u 129 :: u 130 :: u 131 :: u 132 :: u 133 :: u 134 :: u 135 :: u 136 :: u 137 :: u 138 :: u 139 :: u 140 :: u 141 :: u 142 :: u 143 :: u 144 :: u 145 :: u 146 :: u 147 :: u 148 :: u 149 :: u 150 :: []), []⟩) → K0 a V14 := by
         rintro V14 px x a hX9 yx bx hx ⟨u, rfl⟩
         refine hK0 _ _ ?_
         clear hK0 K0
         replace q1 := q1.below hX9 q1.lt
         replace q2 := q2.below hX9 q2.lt
         replace hg := hg.go hX9
         replace hw := (hw.below hX9).up hX9.size
         replace bi := bi.below hX9 bi.lt
         replace bg := bg.below hX9 bg.lt
         have B_V14 := ex_trans B_wr hX9
         have X_V14 := ex_trans HBL hX9
         have zx : w.heap.size ≤ px := by have := B_wr.size; omega
         clear gc lg
         have HPL := Lib.hid (tru_play HL.out HA.out hx.out.1 (by rw [hx.out.2]; omega))
         obtain ⟨n, hn⟩ : ∃ n, playW r x = n := ⟨_, rfl⟩
         have hnb : R1.lo ≤ n ∧ n ≤ R1.hi := by
          have h1 := HPL.out.2.2
          rw [hn, hx.out.2] at h1
          rw [HE1.out.1, HE1.out.2]
          omega
         have HN := Lib.hid hn
         clear hn
         go_upto_region 13 with fail
         rename_i K0 hK0
         have hrest : ∀ (V15 : World) (a : Act), Below V14.heap.size V14 V15 → (∃ u : Nat → Value, a = ⟨List.toArray (u 0 :: u 1 :: .slice Aw ws.length cw :: u 3 :: u 4 :: .pointer (some ⟨pq1, 0, none⟩) :: u 6 :: u 7 :: u 8 :: .pointer (some ⟨pq2, 0, none⟩) :: .bool false :: u 11 :: u 12 :: u 13 :: .pointer (some ⟨pi, 0, none⟩) :: u 15 :: u 16 :: u 17 :: .slice (some ⟨pg, 0, none⟩) 3 3 :: .int .i64 (j : Int) :: u 20 :: .int .i64 n :: .int .i64 0 :: u 23 :: u 24 :: u 25 :: u 26 :: u 27 :: u 28 :: u 29 :: u 30 :: u 31 :: u 32 :: u 33 :: u 34 :: u 35 :: u 36 :: u 37 :: u 38 :: u 39 :: u 40 :: u 41 :: u 42 :: u 43 :: u 44 :: u 45 :: u 46 :: u 47 :: u 48 :: u 49 :: u 50 :: u 51 :: u 52 :: u 53 :: u 54 :: u 55 :: u 56 :: u 57 :: u 58 :: u 59 :: u 60 :: u 61 :: u 62 :: u 63 :: u 64 :: u 65 :: u 66 :: u 67 :: u 68 :: u 69 :: u 70 :: u 71 :: u 72 :: u 73 :: u 74 :: u 75 :: u 76 :: u 77 :: u 78 :: u 79 :: u 80 :: u 81 :: u 82 :: u 83 :: u 84 :: u 85 :: u 86 :: u 87 :: u 88 :: u 89 :: u 90 :: u 91 :: u 92 :: u 93 :: u 94 :: u 95 :: u 96 :: u 97 :: u 98 :: u 99 :: u 100 :: u 101 :: u 102 :: u 103 :: u 104 :: u 105 :: u 106 :: u 107 :: u 108 :: u 109 :: u 110 :: u 111 :: u 112 :: u 113 :: u 114 :: u 115 :: u 116 :: u 117 :: u 118 :: u 119 :: u 120 :: u 121 :: u 122 :: u 123 :: u 124 :: u 125 :: u 126 :: u 127 :: u 128 :: u 129 :: u 130 :: u 131 :: u 132 :: u 133 :: u 134 :: u 135 :: u 136 :: u 137 :: u 138 :: u 139 :: u 140 :: u 141 :: u 142 :: u 143 :: u 144 :: u 145 :: u 146 :: u 147 :: u 148 :: u 149 :: u 150 :: []), []⟩) → K0 a V15 := by
          rintro V15  a hX9   ⟨u, rfl⟩
          refine hK0 _ _ ?_
          clear hK0 K0
          replace q1 := q1.below hX9 q1.lt
          replace q2 := q2.below hX9 q2.lt
          replace hg := hg.go hX9
          replace hw := (hw.below hX9).up hX9.size
          replace bi := bi.below hX9 bi.lt
          replace bg := bg.below hX9 bg.lt
          replace bx := bx.below hX9 bx.lt
          have B_V15 := ex_trans B_V14 hX9
          have X_V15 := ex_trans X_V14 hX9
          have gc : V15.cell? ⟨pg, j, none⟩ = some (.int .i64 v) := by rw [cell_of_row _ _ _ _ _ _ bg]; exact HC.out
          have lg := bg.lt
          go_wp2_with fail
          refine (In_any _ _ _ _).mono ?_
          rintro e w' ⟨rfl, rfl⟩
          rw [show inB v (-2000) 2000 = true from inB_iff.2 (by omega)]
          have i0 := bi.cell 0
          have i1 := bi.cell 1
          have li := bi.lt
          simp at i0 i1
          have d1 : decide (n < R1.lo) = false := decide_eq_false (by omega)
          have d2 : decide (R1.hi < n) = false := decide_eq_false (by omega)
          go_wp2
          refine ⟨⟨j + 1, by omega, X_V15, exFrame (by kernel_rfl)⟩, ?_⟩
          show 3 - (intOf (.int .i64 ((j : Int) + 1))).toNat < 3 - (intOf (.int .i64 (j : Int))).toNat
          simp [intOf]
          omega
         refine wp_region_ext_tq 11 (.quiet 0 (.quiet 2 (.quiet 4 (.loud 1 (.loud 3 (.loud 5 (.loud 6 (.quiet 7 (.quiet 8 (.quiet 9 (.quiet 10 .done))))))))))) (by kernel_rfl) (by kernel_rfl) (by intro d _ _ _ _ h; cases d <;> exact h) ?_
         have D0 := (Below.refl V14.heap.size V14).drew
         repeat (refine tq_quiet rfl ?_; first | (refine wpQuiet_load_row rfl 29 _ rfl _ rfl 29 _ (0, 0) _ q1.ex Tryz.underlying29 rfl (by kernel_rfl) ?_; simp only [Act.put, List.setIfInBounds_toArray, List.set_cons_zero, List.set_cons_succ]; refine wpQuiet_nil ?_) | (refine wpQuiet_load_row rfl 33 _ rfl _ rfl 33 _ (0, 0) _ q2.ex Tryz.underlying33 rfl (by kernel_rfl) ?_; simp only [Act.put, List.setIfInBounds_toArray, List.set_cons_zero, List.set_cons_succ]; refine wpQuiet_nil ?_) | (refine wpQuiet_load_row rfl 82 _ rfl _ rfl 82 _ (0, 0) _ bx.ex Tryz.underlying82 rfl (by kernel_rfl) ?_; simp only [Act.put, List.setIfInBounds_toArray, List.set_cons_zero, List.set_cons_succ]; refine wpQuiet_nil ?_) | (go_big_quiet_step (fail); refine wpQuiet_nil ?_))
         refine tq_loud rfl ?_
         go_wp2_with fail
         refine (sr_Tube t Ab Ad cb cd _ (hg.go (((Below.refl V14.heap.size V14)).drew)) (by omega) (by omega)).mono ?_
         rintro e V16 ⟨⟨Ab1, Ad1, cb1, cd1, rfl, hg1⟩, hV16⟩
         have N1 := ex_trans ((Below.refl V14.heap.size V14)).drew hV16
         go_wp2_with fail
         refine ⟨inEx N1, ?_⟩
         repeat (refine tq_quiet rfl ?_; go_big_quiet_step (fail); refine wpQuiet_nil ?_)
         refine tq_loud rfl ?_
         go_wp2_with fail
         refine (sr_Reading r _).mono ?_
         rintro e V17 ⟨rfl, hV17⟩
         have N3 := ex_trans N1 hV17
         go_wp2_with fail
         replace hg1 := hg1.go hV17
         refine ⟨inEx N3, ?_⟩
         repeat (refine tq_quiet rfl ?_; go_big_quiet_step (fail); refine wpQuiet_nil ?_)
         refine tq_loud rfl ?_
         go_wp2_with fail
         refine (sr_Truth x _).mono ?_
         rintro e V18 ⟨rfl, hV18⟩
         have N5 := ex_trans N3 hV18
         go_wp2_with fail
         replace hg1 := hg1.go hV18
         refine ⟨inEx N5, ?_⟩
         repeat (refine tq_quiet rfl ?_; go_big_quiet_step (fail); refine wpQuiet_nil ?_)
         refine tq_loud rfl ?_
         go_wp2_with fail
         refine (Play_stem t Ab1 Ad1 cb1 cd1 r x _ hg1 (by have := HO.out.rd.err; omega) (by have := HO.out.rd.err; omega)).mono ?_
         rintro e V19 ⟨rfl, hV19⟩
         have N6 := ex_trans N5 hV19
         go_wp2_with fail
         rw [HPL.out.2.1, HPL.out.1, HN.out]
         refine ⟨inEx N6, ?_⟩
         repeat (refine tq_quiet rfl ?_; go_big_quiet_step (fail); refine wpQuiet_nil ?_)
         refine tq_done (r := [_]) rfl ?_
         go_wp2_with fail
         exact hrest V19  _ (N6)  (exFrame (by kernel_rfl))
        refine wp_region_ext_tq 9 (.quiet 0 (.quiet 1 (.quiet 2 (.quiet 3 (.quiet 4 (.quiet 5 (.quiet 6 (.fork 7 (.loud 8 .done) 8 (.loud 7 .done))))))))) (by kernel_rfl) (by kernel_rfl) (by intro d _ _ _ _ h; cases d <;> exact h) ?_
        have D0 := (Below.refl wr.heap.size wr).drew
        repeat (refine tq_quiet rfl ?_; first | (refine wpQuiet_load_row rfl 29 _ rfl _ rfl 29 _ (0, 0) _ q1.ex Tryz.underlying29 rfl (by kernel_rfl) ?_; simp only [Act.put, List.setIfInBounds_toArray, List.set_cons_zero, List.set_cons_succ]; refine wpQuiet_nil ?_) | (refine wpQuiet_load_row rfl 33 _ rfl _ rfl 33 _ (0, 0) _ q2.ex Tryz.underlying33 rfl (by kernel_rfl) ?_; simp only [Act.put, List.setIfInBounds_toArray, List.set_cons_zero, List.set_cons_succ]; refine wpQuiet_nil ?_) | (go_big_quiet_step (fail); refine wpQuiet_nil ?_))
        refine tq_fork rfl rfl ?_ ?_
        ·
         go_wp2_with fail
         refine (sl_picked t _ _ _ _ Aw cw ws r v _ (hw.go (((Below.refl wr.heap.size wr)).drew)) HWB.out hwl HO.out.tb HO.out.rd).mono ?_
         rintro e V20 ⟨⟨x, rfl, hx⟩, hV20⟩
         have N7 := ex_trans ((Below.refl wr.heap.size wr)).drew hV20
         go_wp2_with fail
         refine ⟨inEx N7, ?_⟩
         refine tq_loud rfl ?_
         go_wp2_with fail
         have sx := (N7).size
         try simp at sx
         have N8 := ex_alloc N7 (.cells #[.int .i64 0, .int .i64 0, .int .i64 0, .int .i64 0, .int .i64 0, .int .i64 0, .int .i64 0] 82)
         have bx : Blk (V20.alloc (.cells #[.int .i64 0, .int .i64 0, .int .i64 0, .int .i64 0, .int .i64 0, .int .i64 0, .int .i64 0] 82)) (V20.heap.size) 82 #[.int .i64 0, .int .i64 0, .int .i64 0, .int .i64 0, .int .i64 0, .int .i64 0, .int .i64 0] := Blk.new' _ _ _ (by first | rfl | (simp; done) | (simp; omega))
         obtain ⟨px, hpx⟩ : ∃ p, V20.heap.size = p := ⟨_, rfl⟩
         rw [hpx] at bx
         try rw [hpx]
         have yx : wr.heap.size ≤ px := by omega
         clear sx
         refine ⟨inEx N8, ?_⟩
         refine tq_done (r := [_]) rfl ?_
         have XA := N8
         generalize (V20.alloc (.cells #[.int .i64 0, .int .i64 0, .int .i64 0, .int .i64 0, .int .i64 0, .int .i64 0, .int .i64 0] 82)) = V21 at *
         have sc0 : V21.cell? ⟨px, 0, none⟩ = some (.int .i64 0) := bx.cell 0
         have sc1 : V21.cell? ⟨px, 1, none⟩ = some (.int .i64 0) := bx.cell 1
         have sc2 : V21.cell? ⟨px, 2, none⟩ = some (.int .i64 0) := bx.cell 2
         have sc3 : V21.cell? ⟨px, 3, none⟩ = some (.int .i64 0) := bx.cell 3
         have sc4 : V21.cell? ⟨px, 4, none⟩ = some (.int .i64 0) := bx.cell 4
         have sc5 : V21.cell? ⟨px, 5, none⟩ = some (.int .i64 0) := bx.cell 5
         have sc6 : V21.cell? ⟨px, 6, none⟩ = some (.int .i64 0) := bx.cell 6
         have sf := bx.frozen0
         have sl := bx.lt
         go_wp2_with fail
         replace bx := bx.set_ 0 (.int .i64 x.zero)
         replace XA := ex_set (p := ⟨px, 0, none⟩) XA yx (.int .i64 x.zero)
         replace bx := bx.set_ 1 (.int .i64 x.k)
         replace XA := ex_set (p := ⟨px, 1, none⟩) XA yx (.int .i64 x.k)
         replace bx := bx.set_ 2 (.int .i64 x.lag)
         replace XA := ex_set (p := ⟨px, 2, none⟩) XA yx (.int .i64 x.lag)
         replace bx := bx.set_ 3 (.int .i64 x.sq)
         replace XA := ex_set (p := ⟨px, 3, none⟩) XA yx (.int .i64 x.sq)
         replace bx := bx.set_ 4 (.int .i64 x.air)
         replace XA := ex_set (p := ⟨px, 4, none⟩) XA yx (.int .i64 x.air)
         replace bx := bx.set_ 5 (.int .i64 x.rate)
         replace XA := ex_set (p := ⟨px, 5, none⟩) XA yx (.int .i64 x.rate)
         replace bx := bx.set_ 6 (.int .i64 x.off)
         replace XA := ex_set (p := ⟨px, 6, none⟩) XA yx (.int .i64 x.off)
         simp only [List.setIfInBounds_toArray, List.set_cons_zero, List.set_cons_succ] at bx
         exact hrest _ px x _ XA yx bx hx (exFrame (by kernel_rfl))
        ·
         go_wp2_with fail
         have sx := ((Below.refl wr.heap.size wr)).size
         try simp at sx
         have N8 := ex_alloc (Below.refl wr.heap.size wr) (.cells #[.int .i64 0, .int .i64 0, .int .i64 0, .int .i64 0, .int .i64 0, .int .i64 0, .int .i64 0] 82)
         have bx : Blk (wr.alloc (.cells #[.int .i64 0, .int .i64 0, .int .i64 0, .int .i64 0, .int .i64 0, .int .i64 0, .int .i64 0] 82)) (wr.heap.size) 82 #[.int .i64 0, .int .i64 0, .int .i64 0, .int .i64 0, .int .i64 0, .int .i64 0, .int .i64 0] := Blk.new' _ _ _ (by first | rfl | (simp; done) | (simp; omega))
         obtain ⟨px, hpx⟩ : ∃ p, wr.heap.size = p := ⟨_, rfl⟩
         rw [hpx] at bx
         try rw [hpx]
         have yx : wr.heap.size ≤ px := by omega
         clear sx
         refine ⟨inEx (N8).drew, ?_⟩
         refine tq_loud rfl ?_
         go_wp2_with fail
         refine (sl_picked t _ _ _ _ Aw cw ws r v _ (hw.go ((N8).drew)) HWB.out hwl HO.out.tb HO.out.rd).mono ?_
         rintro e V22 ⟨⟨x, rfl, hx⟩, hV22⟩
         replace bx := Blk.below (Blk.drew bx) hV22 bx.lt
         have N7 := ex_trans (N8).drew hV22
         go_wp2_with fail
         refine ⟨inEx N7, ?_⟩
         refine tq_done (r := [_]) rfl ?_
         have XA := N7
         generalize V22 = V23 at *
         have sc0 : V23.cell? ⟨px, 0, none⟩ = some (.int .i64 0) := bx.cell 0
         have sc1 : V23.cell? ⟨px, 1, none⟩ = some (.int .i64 0) := bx.cell 1
         have sc2 : V23.cell? ⟨px, 2, none⟩ = some (.int .i64 0) := bx.cell 2
         have sc3 : V23.cell? ⟨px, 3, none⟩ = some (.int .i64 0) := bx.cell 3
         have sc4 : V23.cell? ⟨px, 4, none⟩ = some (.int .i64 0) := bx.cell 4
         have sc5 : V23.cell? ⟨px, 5, none⟩ = some (.int .i64 0) := bx.cell 5
         have sc6 : V23.cell? ⟨px, 6, none⟩ = some (.int .i64 0) := bx.cell 6
         have sf := bx.frozen0
         have sl := bx.lt
         go_wp2_with fail
         replace bx := bx.set_ 0 (.int .i64 x.zero)
         replace XA := ex_set (p := ⟨px, 0, none⟩) XA yx (.int .i64 x.zero)
         replace bx := bx.set_ 1 (.int .i64 x.k)
         replace XA := ex_set (p := ⟨px, 1, none⟩) XA yx (.int .i64 x.k)
         replace bx := bx.set_ 2 (.int .i64 x.lag)
         replace XA := ex_set (p := ⟨px, 2, none⟩) XA yx (.int .i64 x.lag)
         replace bx := bx.set_ 3 (.int .i64 x.sq)
         replace XA := ex_set (p := ⟨px, 3, none⟩) XA yx (.int .i64 x.sq)
         replace bx := bx.set_ 4 (.int .i64 x.air)
         replace XA := ex_set (p := ⟨px, 4, none⟩) XA yx (.int .i64 x.air)
         replace bx := bx.set_ 5 (.int .i64 x.rate)
         replace XA := ex_set (p := ⟨px, 5, none⟩) XA yx (.int .i64 x.rate)
         replace bx := bx.set_ 6 (.int .i64 x.off)
         replace XA := ex_set (p := ⟨px, 6, none⟩) XA yx (.int .i64 x.off)
         simp only [List.setIfInBounds_toArray, List.set_cons_zero, List.set_cons_succ] at bx
         exact hrest _ px x _ XA yx bx hx (exFrame (by kernel_rfl))
       ·
        obtain rfl : j = 3 := by omega
        go_wp2_with fail
        refine (sl_awake _).mono ?_
        rintro e V24 ⟨rfl, hV24⟩
        replace q1 := q1.below hV24 q1.lt
        replace q2 := q2.below hV24 q2.lt
        replace hg := hg.go hV24
        replace hw := (hw.below hV24).up hV24.size
        replace bi := bi.below hV24 bi.lt
        replace bg := bg.below hV24 bg.lt
        have B_V24 := ex_trans B_wr hV24
        go_wp2
        go_ret
        exact ⟨rfl, B_V24⟩
      refine wp_region_ext_tq 18 (.quiet 0 (.quiet 1 (.quiet 2 (.quiet 3 (.quiet 4 (.quiet 5 (.quiet 6 (.quiet 7 (.quiet 8 (.quiet 9 (.quiet 10 (.quiet 11 (.quiet 12 (.quiet 13 (.quiet 14 (.quiet 15 (.quiet 16 (.loud 17 .done)))))))))))))))))) (by kernel_rfl) (by kernel_rfl) (by intro d _ _ _ _ h; cases d <;> exact h) ?_
      have D0 := (Below.refl V12.heap.size V12).drew
      repeat (refine tq_quiet rfl ?_; first | (refine wpQuiet_load_row rfl 29 _ rfl _ rfl 29 _ (0, 0) _ q1.ex Tryz.underlying29 rfl (by kernel_rfl) ?_; simp only [Act.put, List.setIfInBounds_toArray, List.set_cons_zero, List.set_cons_succ]; refine wpQuiet_nil ?_) | (refine wpQuiet_load_row rfl 33 _ rfl _ rfl 33 _ (0, 0) _ q2.ex Tryz.underlying33 rfl (by kernel_rfl) ?_; simp only [Act.put, List.setIfInBounds_toArray, List.set_cons_zero, List.set_cons_succ]; refine wpQuiet_nil ?_) | (go_big_quiet_step (fail); refine wpQuiet_nil ?_))
      refine tq_loud rfl ?_
      go_wp2_with fail
      have sg := ((Below.refl V12.heap.size V12)).size
      try simp at sg
      have N17 := ex_alloc (Below.refl V12.heap.size V12) (.cells #[.int .i64 vz, .int .i64 z.lo, .int .i64 z.hi] 3)
      have bg : Blk (V12.alloc (.cells #[.int .i64 vz, .int .i64 z.lo, .int .i64 z.hi] 3)) (V12.heap.size) 3 #[.int .i64 vz, .int .i64 z.lo, .int .i64 z.hi] := Blk.new' _ _ _ (by first | rfl | (simp; done) | (simp; omega))
      obtain ⟨pg, hpg⟩ : ∃ p, V12.heap.size = p := ⟨_, rfl⟩
      rw [hpg] at bg
      try rw [hpg]
      have yg : V12.heap.size ≤ pg := by omega
      clear sg
      refine ⟨inEx (N17).drew, ?_⟩
      refine tq_done (r := [_]) rfl ?_
      go_wp2_with fail
      exact hrest ((V12.alloc (.cells #[.int .i64 vz, .int .i64 z.lo, .int .i64 z.hi] 3)).drew) pg  _ ((N17).drew) yg (Blk.drew bg)  (exFrame (by kernel_rfl))
     refine wp_region_ext_tq 14 (.quiet 0 (.quiet 2 (.quiet 4 (.quiet 6 (.fork 1 (.fork 3 (.fork 5 (.fork 7 (.fork 8 (.quiet 9 (.quiet 10 (.quiet 11 (.loud 12 (.loud 13 .done))))) 12 (.loud 8 (.quiet 9 (.quiet 10 (.quiet 11 (.loud 13 .done)))))) 12 (.loud 7 (.loud 8 (.quiet 9 (.quiet 10 (.quiet 11 (.loud 13 .done))))))) 12 (.loud 5 (.loud 7 (.loud 8 (.quiet 9 (.quiet 10 (.quiet 11 (.loud 13 .done)))))))) 12 (.loud 3 (.loud 5 (.loud 7 (.loud 8 (.quiet 9 (.quiet 10 (.quiet 11 (.loud 13 .done))))))))) 12 (.loud 1 (.loud 3 (.loud 5 (.loud 7 (.loud 8 (.quiet 9 (.quiet 10 (.quiet 11 (.loud 13 .done)))))))))))))) (by kernel_rfl) (by kernel_rfl) (by intro d _ _ _ _ h; cases d <;> exact h) ?_
     have D0 := (Below.refl V6.heap.size V6).drew
     repeat (refine tq_quiet rfl ?_; first | (refine wpQuiet_load_row rfl 29 _ rfl _ rfl 29 _ (0, 0) _ q1.ex Tryz.underlying29 rfl (by kernel_rfl) ?_; simp only [Act.put, List.setIfInBounds_toArray, List.set_cons_zero, List.set_cons_succ]; refine wpQuiet_nil ?_) | (refine wpQuiet_load_row rfl 33 _ rfl _ rfl 33 _ (0, 0) _ q2.ex Tryz.underlying33 rfl (by kernel_rfl) ?_; simp only [Act.put, List.setIfInBounds_toArray, List.set_cons_zero, List.set_cons_succ]; refine wpQuiet_nil ?_) | (go_big_quiet_step (fail); refine wpQuiet_nil ?_))
     refine tq_fork rfl rfl ?_ ?_
     ·
      go_wp2_with fail
      refine (sr_Tube t Ab Ad cb cd _ (hg.go (((Below.refl V6.heap.size V6)).drew)) (by omega) (by omega)).mono ?_
      rintro e V25 ⟨⟨Ab1, Ad1, cb1, cd1, rfl, hg1⟩, hV25⟩
      have N1 := ex_trans ((Below.refl V6.heap.size V6)).drew hV25
      go_wp2_with fail
      refine ⟨inEx N1, ?_⟩
      repeat (refine tq_quiet rfl ?_; go_big_quiet_step (fail); refine wpQuiet_nil ?_)
      refine tq_fork rfl rfl ?_ ?_
      ·
       go_wp2_with fail
       refine (History_any _ _ h _ (by omega) (hh.go (N1))).mono ?_
       rintro e V26 ⟨⟨Ah1, ch1, rfl, -, -, hh1⟩, hV26⟩
       have N3 := ex_trans N1 hV26
       go_wp2_with fail
       replace hg1 := hg1.go hV26
       refine ⟨inEx N3, ?_⟩
       repeat (refine tq_quiet rfl ?_; go_big_quiet_step (fail); refine wpQuiet_nil ?_)
       refine tq_fork rfl rfl ?_ ?_
       ·
        go_wp2_with fail
        refine (Ices_any _ _ l _ (by omega) (hi.go (N3))).mono ?_
        rintro e V27 ⟨⟨Ai1, ci1, rfl, -, -, hi1⟩, hV27⟩
        have N5 := ex_trans N3 hV27
        go_wp2_with fail
        replace hg1 := hg1.go hV27
        replace hh1 := hh1.go hV27
        refine ⟨inEx N5, ?_⟩
        repeat (refine tq_quiet rfl ?_; go_big_quiet_step (fail); refine wpQuiet_nil ?_)
        refine tq_fork rfl rfl ?_ ?_
        ·
         go_wp2_with fail
         refine (sr_Reading r _).mono ?_
         rintro e V28 ⟨rfl, hV28⟩
         have N7 := ex_trans N5 hV28
         go_wp2_with fail
         replace hg1 := hg1.go hV28
         replace hh1 := hh1.go hV28
         replace hi1 := hi1.go hV28
         refine ⟨inEx N7, ?_⟩
         repeat (refine tq_quiet rfl ?_; go_big_quiet_step (fail); refine wpQuiet_nil ?_)
         refine tq_fork rfl rfl ?_ ?_
         ·
          go_wp2_with fail
          refine (Correct_v t Ab1 Ad1 cb1 cd1 Ah1 Ai1 ch1 ci1 h l r _ hg1 hh1 hi1 (by omega)).mono ?_
          rintro e V29 ⟨⟨R1, ev1, rfl, hc1⟩, hV29⟩
          have N8 := ex_trans N7 hV29
          go_wp2_with fail
          refine ⟨inEx N8, ?_⟩
          repeat (refine tq_quiet rfl ?_; go_big_quiet_step (fail); refine wpQuiet_nil ?_)
          refine tq_loud rfl ?_
          go_wp2_with fail
          have si := (N8).size
          try simp at si
          have N12 := ex_alloc N8 (.cells #[.int .i64 0, .int .i64 0] 41)
          have bi : Blk (V29.alloc (.cells #[.int .i64 0, .int .i64 0] 41)) (V29.heap.size) 41 #[.int .i64 0, .int .i64 0] := Blk.new' _ _ _ (by first | rfl | (simp; done) | (simp; omega))
          obtain ⟨pi, hpi⟩ : ∃ p, V29.heap.size = p := ⟨_, rfl⟩
          rw [hpi] at bi
          try rw [hpi]
          have yi : V6.heap.size ≤ pi := by omega
          clear si
          refine ⟨inEx N12, ?_⟩
          repeat (refine tq_quiet rfl ?_; go_big_quiet_step (fail); refine wpQuiet_nil ?_)
          refine tq_loud rfl ?_
          have XA13 := N12
          generalize (V29.alloc (.cells #[.int .i64 0, .int .i64 0] 41)) = V30 at *
          have sc0 : V30.cell? ⟨pi, 0, none⟩ = some (.int .i64 0) := bi.cell 0
          have sc1 : V30.cell? ⟨pi, 1, none⟩ = some (.int .i64 0) := bi.cell 1
          have sf := bi.frozen0
          have sl := bi.lt
          go_wp2_with fail
          replace bi := bi.set_ 0 (.int .i64 R1.lo)
          replace XA13 := ex_set (p := ⟨pi, 0, none⟩) XA13 yi (.int .i64 R1.lo)
          replace bi := bi.set_ 1 (.int .i64 R1.hi)
          replace XA13 := ex_set (p := ⟨pi, 1, none⟩) XA13 yi (.int .i64 R1.hi)
          simp only [List.setIfInBounds_toArray, List.set_cons_zero, List.set_cons_succ] at bi
          clear sf sl sc0 sc1
          generalize ((V30.setCell ⟨pi, 0, none⟩ (.int .i64 R1.lo)).setCell ⟨pi, 1, none⟩ (.int .i64 R1.hi)) = V31 at *
          refine ⟨inEx XA13, ?_⟩
          repeat (refine tq_quiet rfl ?_; go_big_quiet_step (fail); refine wpQuiet_nil ?_)
          refine tq_done (r := [_]) rfl ?_
          go_wp2_with fail
          exact hrest V31 pi R1 ev1 _ (XA13) yi bi hc1 (exFrame (by kernel_rfl))
         ·
          go_wp2_with fail
          have si := (N7).size
          try simp at si
          have N12 := ex_alloc N7 (.cells #[.int .i64 0, .int .i64 0] 41)
          have bi : Blk (V28.alloc (.cells #[.int .i64 0, .int .i64 0] 41)) (V28.heap.size) 41 #[.int .i64 0, .int .i64 0] := Blk.new' _ _ _ (by first | rfl | (simp; done) | (simp; omega))
          replace hg1 := hg1.go (ex_alloc (Below.refl V28.heap.size V28) (.cells #[.int .i64 0, .int .i64 0] 41))
          replace hh1 := hh1.go (ex_alloc (Below.refl V28.heap.size V28) (.cells #[.int .i64 0, .int .i64 0] 41))
          replace hi1 := hi1.go (ex_alloc (Below.refl V28.heap.size V28) (.cells #[.int .i64 0, .int .i64 0] 41))
          obtain ⟨pi, hpi⟩ : ∃ p, V28.heap.size = p := ⟨_, rfl⟩
          rw [hpi] at bi
          try rw [hpi]
          have yi : V6.heap.size ≤ pi := by omega
          clear si
          refine ⟨inEx N12, ?_⟩
          repeat (refine tq_quiet rfl ?_; go_big_quiet_step (fail); refine wpQuiet_nil ?_)
          refine tq_loud rfl ?_
          go_wp2_with fail
          refine (Correct_v t Ab1 Ad1 cb1 cd1 Ah1 Ai1 ch1 ci1 h l r _ hg1 hh1 hi1 (by omega)).mono ?_
          rintro e V32 ⟨⟨R1, ev1, rfl, hc1⟩, hV32⟩
          replace bi := Blk.below bi hV32 bi.lt
          have N8 := ex_trans N12 hV32
          go_wp2_with fail
          refine ⟨inEx N8, ?_⟩
          repeat (refine tq_quiet rfl ?_; go_big_quiet_step (fail); refine wpQuiet_nil ?_)
          refine tq_loud rfl ?_
          have XA13 := N8
          generalize V32 = V33 at *
          have sc0 : V33.cell? ⟨pi, 0, none⟩ = some (.int .i64 0) := bi.cell 0
          have sc1 : V33.cell? ⟨pi, 1, none⟩ = some (.int .i64 0) := bi.cell 1
          have sf := bi.frozen0
          have sl := bi.lt
          go_wp2_with fail
          replace bi := bi.set_ 0 (.int .i64 R1.lo)
          replace XA13 := ex_set (p := ⟨pi, 0, none⟩) XA13 yi (.int .i64 R1.lo)
          replace bi := bi.set_ 1 (.int .i64 R1.hi)
          replace XA13 := ex_set (p := ⟨pi, 1, none⟩) XA13 yi (.int .i64 R1.hi)
          simp only [List.setIfInBounds_toArray, List.set_cons_zero, List.set_cons_succ] at bi
          clear sf sl sc0 sc1
          generalize ((V33.setCell ⟨pi, 0, none⟩ (.int .i64 R1.lo)).setCell ⟨pi, 1, none⟩ (.int .i64 R1.hi)) = V34 at *
          refine ⟨inEx XA13, ?_⟩
          repeat (refine tq_quiet rfl ?_; go_big_quiet_step (fail); refine wpQuiet_nil ?_)
          refine tq_done (r := [_]) rfl ?_
          go_wp2_with fail
          exact hrest V34 pi R1 ev1 _ (XA13) yi bi hc1 (exFrame (by kernel_rfl))
        ·
         go_wp2_with fail
         have si := (N5).size
         try simp at si
         have N12 := ex_alloc N5 (.cells #[.int .i64 0, .int .i64 0] 41)
         have bi : Blk (V27.alloc (.cells #[.int .i64 0, .int .i64 0] 41)) (V27.heap.size) 41 #[.int .i64 0, .int .i64 0] := Blk.new' _ _ _ (by first | rfl | (simp; done) | (simp; omega))
         replace hg1 := hg1.go (ex_alloc (Below.refl V27.heap.size V27) (.cells #[.int .i64 0, .int .i64 0] 41))
         replace hh1 := hh1.go (ex_alloc (Below.refl V27.heap.size V27) (.cells #[.int .i64 0, .int .i64 0] 41))
         replace hi1 := hi1.go (ex_alloc (Below.refl V27.heap.size V27) (.cells #[.int .i64 0, .int .i64 0] 41))
         obtain ⟨pi, hpi⟩ : ∃ p, V27.heap.size = p := ⟨_, rfl⟩
         rw [hpi] at bi
         try rw [hpi]
         have yi : V6.heap.size ≤ pi := by omega
         clear si
         refine ⟨inEx N12, ?_⟩
         repeat (refine tq_quiet rfl ?_; go_big_quiet_step (fail); refine wpQuiet_nil ?_)
         refine tq_loud rfl ?_
         go_wp2_with fail
         refine (sr_Reading r _).mono ?_
         rintro e V35 ⟨rfl, hV35⟩
         replace bi := Blk.below bi hV35 bi.lt
         have N7 := ex_trans N12 hV35
         go_wp2_with fail
         replace hg1 := hg1.go hV35
         replace hh1 := hh1.go hV35
         replace hi1 := hi1.go hV35
         refine ⟨inEx N7, ?_⟩
         repeat (refine tq_quiet rfl ?_; go_big_quiet_step (fail); refine wpQuiet_nil ?_)
         refine tq_loud rfl ?_
         go_wp2_with fail
         refine (Correct_v t Ab1 Ad1 cb1 cd1 Ah1 Ai1 ch1 ci1 h l r _ hg1 hh1 hi1 (by omega)).mono ?_
         rintro e V36 ⟨⟨R1, ev1, rfl, hc1⟩, hV36⟩
         replace bi := Blk.below bi hV36 bi.lt
         have N8 := ex_trans N7 hV36
         go_wp2_with fail
         refine ⟨inEx N8, ?_⟩
         repeat (refine tq_quiet rfl ?_; go_big_quiet_step (fail); refine wpQuiet_nil ?_)
         refine tq_loud rfl ?_
         have XA13 := N8
         generalize V36 = V37 at *
         have sc0 : V37.cell? ⟨pi, 0, none⟩ = some (.int .i64 0) := bi.cell 0
         have sc1 : V37.cell? ⟨pi, 1, none⟩ = some (.int .i64 0) := bi.cell 1
         have sf := bi.frozen0
         have sl := bi.lt
         go_wp2_with fail
         replace bi := bi.set_ 0 (.int .i64 R1.lo)
         replace XA13 := ex_set (p := ⟨pi, 0, none⟩) XA13 yi (.int .i64 R1.lo)
         replace bi := bi.set_ 1 (.int .i64 R1.hi)
         replace XA13 := ex_set (p := ⟨pi, 1, none⟩) XA13 yi (.int .i64 R1.hi)
         simp only [List.setIfInBounds_toArray, List.set_cons_zero, List.set_cons_succ] at bi
         clear sf sl sc0 sc1
         generalize ((V37.setCell ⟨pi, 0, none⟩ (.int .i64 R1.lo)).setCell ⟨pi, 1, none⟩ (.int .i64 R1.hi)) = V38 at *
         refine ⟨inEx XA13, ?_⟩
         repeat (refine tq_quiet rfl ?_; go_big_quiet_step (fail); refine wpQuiet_nil ?_)
         refine tq_done (r := [_]) rfl ?_
         go_wp2_with fail
         exact hrest V38 pi R1 ev1 _ (XA13) yi bi hc1 (exFrame (by kernel_rfl))
       ·
        go_wp2_with fail
        have si := (N3).size
        try simp at si
        have N12 := ex_alloc N3 (.cells #[.int .i64 0, .int .i64 0] 41)
        have bi : Blk (V26.alloc (.cells #[.int .i64 0, .int .i64 0] 41)) (V26.heap.size) 41 #[.int .i64 0, .int .i64 0] := Blk.new' _ _ _ (by first | rfl | (simp; done) | (simp; omega))
        replace hg1 := hg1.go (ex_alloc (Below.refl V26.heap.size V26) (.cells #[.int .i64 0, .int .i64 0] 41))
        replace hh1 := hh1.go (ex_alloc (Below.refl V26.heap.size V26) (.cells #[.int .i64 0, .int .i64 0] 41))
        obtain ⟨pi, hpi⟩ : ∃ p, V26.heap.size = p := ⟨_, rfl⟩
        rw [hpi] at bi
        try rw [hpi]
        have yi : V6.heap.size ≤ pi := by omega
        clear si
        refine ⟨inEx N12, ?_⟩
        repeat (refine tq_quiet rfl ?_; go_big_quiet_step (fail); refine wpQuiet_nil ?_)
        refine tq_loud rfl ?_
        go_wp2_with fail
        refine (Ices_any _ _ l _ (by omega) (hi.go (N12))).mono ?_
        rintro e V39 ⟨⟨Ai1, ci1, rfl, -, -, hi1⟩, hV39⟩
        replace bi := Blk.below bi hV39 bi.lt
        have N5 := ex_trans N12 hV39
        go_wp2_with fail
        replace hg1 := hg1.go hV39
        replace hh1 := hh1.go hV39
        refine ⟨inEx N5, ?_⟩
        repeat (refine tq_quiet rfl ?_; go_big_quiet_step (fail); refine wpQuiet_nil ?_)
        refine tq_loud rfl ?_
        go_wp2_with fail
        refine (sr_Reading r _).mono ?_
        rintro e V40 ⟨rfl, hV40⟩
        replace bi := Blk.below bi hV40 bi.lt
        have N7 := ex_trans N5 hV40
        go_wp2_with fail
        replace hg1 := hg1.go hV40
        replace hh1 := hh1.go hV40
        replace hi1 := hi1.go hV40
        refine ⟨inEx N7, ?_⟩
        repeat (refine tq_quiet rfl ?_; go_big_quiet_step (fail); refine wpQuiet_nil ?_)
        refine tq_loud rfl ?_
        go_wp2_with fail
        refine (Correct_v t Ab1 Ad1 cb1 cd1 Ah1 Ai1 ch1 ci1 h l r _ hg1 hh1 hi1 (by omega)).mono ?_
        rintro e V41 ⟨⟨R1, ev1, rfl, hc1⟩, hV41⟩
        replace bi := Blk.below bi hV41 bi.lt
        have N8 := ex_trans N7 hV41
        go_wp2_with fail
        refine ⟨inEx N8, ?_⟩
        repeat (refine tq_quiet rfl ?_; go_big_quiet_step (fail); refine wpQuiet_nil ?_)
        refine tq_loud rfl ?_
        have XA13 := N8
        generalize V41 = V42 at *
        have sc0 : V42.cell? ⟨pi, 0, none⟩ = some (.int .i64 0) := bi.cell 0
        have sc1 : V42.cell? ⟨pi, 1, none⟩ = some (.int .i64 0) := bi.cell 1
        have sf := bi.frozen0
        have sl := bi.lt
        go_wp2_with fail
        replace bi := bi.set_ 0 (.int .i64 R1.lo)
        replace XA13 := ex_set (p := ⟨pi, 0, none⟩) XA13 yi (.int .i64 R1.lo)
        replace bi := bi.set_ 1 (.int .i64 R1.hi)
        replace XA13 := ex_set (p := ⟨pi, 1, none⟩) XA13 yi (.int .i64 R1.hi)
        simp only [List.setIfInBounds_toArray, List.set_cons_zero, List.set_cons_succ] at bi
        clear sf sl sc0 sc1
        generalize ((V42.setCell ⟨pi, 0, none⟩ (.int .i64 R1.lo)).setCell ⟨pi, 1, none⟩ (.int .i64 R1.hi)) = V43 at *
        refine ⟨inEx XA13, ?_⟩
        repeat (refine tq_quiet rfl ?_; go_big_quiet_step (fail); refine wpQuiet_nil ?_)
        refine tq_done (r := [_]) rfl ?_
        go_wp2_with fail
        exact hrest V43 pi R1 ev1 _ (XA13) yi bi hc1 (exFrame (by kernel_rfl))
      ·
       go_wp2_with fail
       have si := (N1).size
       try simp at si
       have N12 := ex_alloc N1 (.cells #[.int .i64 0, .int .i64 0] 41)
       have bi : Blk (V25.alloc (.cells #[.int .i64 0, .int .i64 0] 41)) (V25.heap.size) 41 #[.int .i64 0, .int .i64 0] := Blk.new' _ _ _ (by first | rfl | (simp; done) | (simp; omega))
       replace hg1 := hg1.go (ex_alloc (Below.refl V25.heap.size V25) (.cells #[.int .i64 0, .int .i64 0] 41))
       obtain ⟨pi, hpi⟩ : ∃ p, V25.heap.size = p := ⟨_, rfl⟩
       rw [hpi] at bi
       try rw [hpi]
       have yi : V6.heap.size ≤ pi := by omega
       clear si
       refine ⟨inEx N12, ?_⟩
       repeat (refine tq_quiet rfl ?_; go_big_quiet_step (fail); refine wpQuiet_nil ?_)
       refine tq_loud rfl ?_
       go_wp2_with fail
       refine (History_any _ _ h _ (by omega) (hh.go (N12))).mono ?_
       rintro e V44 ⟨⟨Ah1, ch1, rfl, -, -, hh1⟩, hV44⟩
       replace bi := Blk.below bi hV44 bi.lt
       have N3 := ex_trans N12 hV44
       go_wp2_with fail
       replace hg1 := hg1.go hV44
       refine ⟨inEx N3, ?_⟩
       repeat (refine tq_quiet rfl ?_; go_big_quiet_step (fail); refine wpQuiet_nil ?_)
       refine tq_loud rfl ?_
       go_wp2_with fail
       refine (Ices_any _ _ l _ (by omega) (hi.go (N3))).mono ?_
       rintro e V45 ⟨⟨Ai1, ci1, rfl, -, -, hi1⟩, hV45⟩
       replace bi := Blk.below bi hV45 bi.lt
       have N5 := ex_trans N3 hV45
       go_wp2_with fail
       replace hg1 := hg1.go hV45
       replace hh1 := hh1.go hV45
       refine ⟨inEx N5, ?_⟩
       repeat (refine tq_quiet rfl ?_; go_big_quiet_step (fail); refine wpQuiet_nil ?_)
       refine tq_loud rfl ?_
       go_wp2_with fail
       refine (sr_Reading r _).mono ?_
       rintro e V46 ⟨rfl, hV46⟩
       replace bi := Blk.below bi hV46 bi.lt
       have N7 := ex_trans N5 hV46
       go_wp2_with fail
       replace hg1 := hg1.go hV46
       replace hh1 := hh1.go hV46
       replace hi1 := hi1.go hV46
       refine ⟨inEx N7, ?_⟩
       repeat (refine tq_quiet rfl ?_; go_big_quiet_step (fail); refine wpQuiet_nil ?_)
       refine tq_loud rfl ?_
       go_wp2_with fail
       refine (Correct_v t Ab1 Ad1 cb1 cd1 Ah1 Ai1 ch1 ci1 h l r _ hg1 hh1 hi1 (by omega)).mono ?_
       rintro e V47 ⟨⟨R1, ev1, rfl, hc1⟩, hV47⟩
       replace bi := Blk.below bi hV47 bi.lt
       have N8 := ex_trans N7 hV47
       go_wp2_with fail
       refine ⟨inEx N8, ?_⟩
       repeat (refine tq_quiet rfl ?_; go_big_quiet_step (fail); refine wpQuiet_nil ?_)
       refine tq_loud rfl ?_
       have XA13 := N8
       generalize V47 = V48 at *
       have sc0 : V48.cell? ⟨pi, 0, none⟩ = some (.int .i64 0) := bi.cell 0
       have sc1 : V48.cell? ⟨pi, 1, none⟩ = some (.int .i64 0) := bi.cell 1
       have sf := bi.frozen0
       have sl := bi.lt
       go_wp2_with fail
       replace bi := bi.set_ 0 (.int .i64 R1.lo)
       replace XA13 := ex_set (p := ⟨pi, 0, none⟩) XA13 yi (.int .i64 R1.lo)
       replace bi := bi.set_ 1 (.int .i64 R1.hi)
       replace XA13 := ex_set (p := ⟨pi, 1, none⟩) XA13 yi (.int .i64 R1.hi)
       simp only [List.setIfInBounds_toArray, List.set_cons_zero, List.set_cons_succ] at bi
       clear sf sl sc0 sc1
       generalize ((V48.setCell ⟨pi, 0, none⟩ (.int .i64 R1.lo)).setCell ⟨pi, 1, none⟩ (.int .i64 R1.hi)) = V49 at *
       refine ⟨inEx XA13, ?_⟩
       repeat (refine tq_quiet rfl ?_; go_big_quiet_step (fail); refine wpQuiet_nil ?_)
       refine tq_done (r := [_]) rfl ?_
       go_wp2_with fail
       exact hrest V49 pi R1 ev1 _ (XA13) yi bi hc1 (exFrame (by kernel_rfl))
     ·
      go_wp2_with fail
      have si := ((Below.refl V6.heap.size V6)).size
      try simp at si
      have N12 := ex_alloc (Below.refl V6.heap.size V6) (.cells #[.int .i64 0, .int .i64 0] 41)
      have bi : Blk (V6.alloc (.cells #[.int .i64 0, .int .i64 0] 41)) (V6.heap.size) 41 #[.int .i64 0, .int .i64 0] := Blk.new' _ _ _ (by first | rfl | (simp; done) | (simp; omega))
      obtain ⟨pi, hpi⟩ : ∃ p, V6.heap.size = p := ⟨_, rfl⟩
      rw [hpi] at bi
      try rw [hpi]
      have yi : V6.heap.size ≤ pi := by omega
      clear si
      refine ⟨inEx (N12).drew, ?_⟩
      repeat (refine tq_quiet rfl ?_; go_big_quiet_step (fail); refine wpQuiet_nil ?_)
      refine tq_loud rfl ?_
      go_wp2_with fail
      refine (sr_Tube t Ab Ad cb cd _ (hg.go ((N12).drew)) (by omega) (by omega)).mono ?_
      rintro e V50 ⟨⟨Ab1, Ad1, cb1, cd1, rfl, hg1⟩, hV50⟩
      replace bi := Blk.below (Blk.drew bi) hV50 bi.lt
      have N1 := ex_trans (N12).drew hV50
      go_wp2_with fail
      refine ⟨inEx N1, ?_⟩
      repeat (refine tq_quiet rfl ?_; go_big_quiet_step (fail); refine wpQuiet_nil ?_)
      refine tq_loud rfl ?_
      go_wp2_with fail
      refine (History_any _ _ h _ (by omega) (hh.go (N1))).mono ?_
      rintro e V51 ⟨⟨Ah1, ch1, rfl, -, -, hh1⟩, hV51⟩
      replace bi := Blk.below bi hV51 bi.lt
      have N3 := ex_trans N1 hV51
      go_wp2_with fail
      replace hg1 := hg1.go hV51
      refine ⟨inEx N3, ?_⟩
      repeat (refine tq_quiet rfl ?_; go_big_quiet_step (fail); refine wpQuiet_nil ?_)
      refine tq_loud rfl ?_
      go_wp2_with fail
      refine (Ices_any _ _ l _ (by omega) (hi.go (N3))).mono ?_
      rintro e V52 ⟨⟨Ai1, ci1, rfl, -, -, hi1⟩, hV52⟩
      replace bi := Blk.below bi hV52 bi.lt
      have N5 := ex_trans N3 hV52
      go_wp2_with fail
      replace hg1 := hg1.go hV52
      replace hh1 := hh1.go hV52
      refine ⟨inEx N5, ?_⟩
      repeat (refine tq_quiet rfl ?_; go_big_quiet_step (fail); refine wpQuiet_nil ?_)
      refine tq_loud rfl ?_
      go_wp2_with fail
      refine (sr_Reading r _).mono ?_
      rintro e V53 ⟨rfl, hV53⟩
      replace bi := Blk.below bi hV53 bi.lt
      have N7 := ex_trans N5 hV53
      go_wp2_with fail
      replace hg1 := hg1.go hV53
      replace hh1 := hh1.go hV53
      replace hi1 := hi1.go hV53
      refine ⟨inEx N7, ?_⟩
      repeat (refine tq_quiet rfl ?_; go_big_quiet_step (fail); refine wpQuiet_nil ?_)
      refine tq_loud rfl ?_
      go_wp2_with fail
      refine (Correct_v t Ab1 Ad1 cb1 cd1 Ah1 Ai1 ch1 ci1 h l r _ hg1 hh1 hi1 (by omega)).mono ?_
      rintro e V54 ⟨⟨R1, ev1, rfl, hc1⟩, hV54⟩
      replace bi := Blk.below bi hV54 bi.lt
      have N8 := ex_trans N7 hV54
      go_wp2_with fail
      refine ⟨inEx N8, ?_⟩
      repeat (refine tq_quiet rfl ?_; go_big_quiet_step (fail); refine wpQuiet_nil ?_)
      refine tq_loud rfl ?_
      have XA13 := N8
      generalize V54 = V55 at *
      have sc0 : V55.cell? ⟨pi, 0, none⟩ = some (.int .i64 0) := bi.cell 0
      have sc1 : V55.cell? ⟨pi, 1, none⟩ = some (.int .i64 0) := bi.cell 1
      have sf := bi.frozen0
      have sl := bi.lt
      go_wp2_with fail
      replace bi := bi.set_ 0 (.int .i64 R1.lo)
      replace XA13 := ex_set (p := ⟨pi, 0, none⟩) XA13 yi (.int .i64 R1.lo)
      replace bi := bi.set_ 1 (.int .i64 R1.hi)
      replace XA13 := ex_set (p := ⟨pi, 1, none⟩) XA13 yi (.int .i64 R1.hi)
      simp only [List.setIfInBounds_toArray, List.set_cons_zero, List.set_cons_succ] at bi
      clear sf sl sc0 sc1
      generalize ((V55.setCell ⟨pi, 0, none⟩ (.int .i64 R1.lo)).setCell ⟨pi, 1, none⟩ (.int .i64 R1.hi)) = V56 at *
      refine ⟨inEx XA13, ?_⟩
      repeat (refine tq_quiet rfl ?_; go_big_quiet_step (fail); refine wpQuiet_nil ?_)
      refine tq_done (r := [_]) rfl ?_
      go_wp2_with fail
      exact hrest V56 pi R1 ev1 _ (XA13) yi bi hc1 (exFrame (by kernel_rfl))


end Go.Proofs.YtkaogjhnogkcdaaGreat
end
