/- The law StemSames (walk). -/
import Derived.Test.YtkaogjhnogkcdaaGreatH21
import Derived.Test.YtkaogjhnogkcdaaGreatH24
import Derived.Test.YtkaogjhnogkcdaaGreatH25
import Derived.Test.YtkaogjhnogkcdaaGreatH10
set_option linter.unusedVariables false
set_option linter.unusedSimpArgs false
set_option linter.unusedSectionVars false
section
namespace Go.Proofs.YtkaogjhnogkcdaaGreat
open Go.RowKit
attribute [local go_sem] Ex.cell? Ex.frozen?

def wantTo (w0 : Int) (rs : List Rd) (k : Nat) : Int := if w0 ≠ 0 then w0 else if allTo (fun j => !(gE rs j).broken) k = true then 0 else 8
theorem wantTo_0 {w0 : Int} {rs : List Rd} : wantTo w0 rs 0 = w0 := by
  unfold wantTo
  by_cases h : w0 = 0
  · subst h; rfl
  · rw [if_pos h]
theorem wantTo_yes {w0 : Int} {rs : List Rd} {k : Nat} (h : wantTo w0 rs k = 0) (hb : (gE rs k).broken = true) : wantTo w0 rs (k + 1) = 8 := by
  unfold wantTo at h ⊢
  by_cases h0 : w0 = 0
  · rw [if_neg (by simp [h0]), if_neg]
    rw [allTo, hb]; simp
  · rw [if_pos h0] at h; exact absurd h h0
theorem wantTo_no {w0 : Int} {rs : List Rd} {k : Nat} (hb : (gE rs k).broken = false) : wantTo w0 rs (k + 1) = wantTo w0 rs k := by
  unfold wantTo
  rw [allTo, hb]; simp
theorem wantTo_ne {w0 : Int} {rs : List Rd} {k : Nat} (h : wantTo w0 rs k ≠ 0) : ∀ {m : Nat}, k ≤ m → wantTo w0 rs m = wantTo w0 rs k
  | m, hm => by
    by_cases h0 : w0 = 0
    · have e : ∀ m, wantTo w0 rs m = if allTo (fun j => !(gE rs j).broken) m = true then 0 else 8 := by
        intro m; unfold wantTo; rw [if_neg (by simp [h0])]
      rw [e] at h; rw [e, e]
      by_cases ha : allTo (fun j => !(gE rs j).broken) k = true
      · rw [if_pos ha] at h; exact absurd rfl h
      · rw [if_neg ha, if_neg]
        intro hc
        exact ha (allTo_iff.2 fun j hj => allTo_iff.1 hc j (by omega))
    · unfold wantTo; rw [if_pos h0, if_pos h0]
theorem wantTo_e {w0 : Int} {rs : List Rd} {k : Nat} (h : w0 ≠ 0) : wantTo w0 rs k = w0 := if_pos h
theorem bathE_eq {t : Tb} {l : List Ic} {nh : Int} {rs : List Rd} {ag : Bool} : bathE t l nh rs ag = if bathL nh rs ≠ 0 then bathL nh rs else if wantTo 0 rs rs.length ≠ 0 then 8 else refE t l (gE rs 0) ag := by
  unfold bathE bathL wantTo
  by_cases h1 : 5 < rs.length
  · rw [if_pos h1, if_pos h1]; rfl
  · rw [if_neg h1, if_neg h1]
    by_cases h2 : rs.length = 0 ∨ allTo (fun k => dayB nh (gE rs 0).day (gE rs k)) rs.length = false
    · rw [if_pos h2, if_pos h2]; rfl
    · rw [if_neg h2, if_neg h2]
      cases h3 : allTo (fun j => !(gE rs j).broken) rs.length <;> simp
theorem bathL_ok {nh : Int} {rs : List Rd} (h : bathL nh rs = 0) : 0 < rs.length ∧ rs.length ≤ 5 ∧ RdsBd rs ∧ 0 ≤ (gE rs 0).day ∧ (gE rs 0).day ≤ nh - 1 := by
  unfold bathL at h
  split at h
  · cases h
  · rename_i h5
    split at h
    · cases h
    · rename_i h2
      have h0 : rs.length ≠ 0 := fun e => h2 (.inl e)
      have ha : allTo (fun k => dayB nh (gE rs 0).day (gE rs k)) rs.length = true := by
        cases hx : allTo (fun k => dayB nh (gE rs 0).day (gE rs k)) rs.length
        · exact absurd (.inr hx) h2
        · rfl
      have hr := fun k hk => rdOk_iff.1 (dayB_iff.1 (allTo_iff.1 ha k hk)).1
      exact ⟨by omega, by omega, fun k hk => (hr k hk).2, (hr 0 (by omega)).1⟩
theorem sam_cases {t : Tb} {h : List Rg} {l : List Ic} {rs : List Rd} {R : Rg} {ev : Int} (hs : SamV t h l rs R ev) :
    (useE t h l ≠ 0 ∧ R = ⟨0, 0⟩ ∧ ev = useE t h l) ∨ (useE t h l = 0 ∧ bathL h.length rs ≠ 0 ∧ R = ⟨0, 0⟩ ∧ ev = bathL h.length rs) ∨
    (useE t h l = 0 ∧ bathL h.length rs = 0 ∧ wantTo 0 rs rs.length ≠ 0 ∧ R = ⟨0, 0⟩ ∧ ev = wantTo 0 rs rs.length) ∨
    (useE t h l = 0 ∧ bathL h.length rs = 0 ∧ wantTo 0 rs rs.length = 0 ∧ refE t l (gE rs 0) (agreeB t.g h l off0) ≠ 0 ∧ R = ⟨0, 0⟩ ∧ ev = refE t l (gE rs 0) (agreeB t.g h l off0)) ∨
    (useE t h l = 0 ∧ bathL h.length rs = 0 ∧ wantTo 0 rs rs.length = 0 ∧ refE t l (gE rs 0) (agreeB t.g h l off0) = 0 ∧ ∃ zs, ZsOf t.g h l zs ∧ ∀ o b, SmEnd t rs (gR zs (gE rs 0).day.toNat) o b → (b = false ∧ R = ⟨0, 0⟩ ∧ ev = 9) ∨ (b = true ∧ R = o ∧ ev = 0)) := by
  have hw8 : wantTo 0 rs rs.length ≠ 0 → wantTo 0 rs rs.length = 8 := fun h => by
    unfold wantTo at h ⊢
    rw [if_neg (by simp)] at h ⊢
    split at h
    · exact absurd rfl h
    · rename_i h1; rw [if_neg h1]
  rcases hs with ⟨a, b, c⟩ | ⟨a, b, c, d⟩ | ⟨a, b, zs, hz, hr⟩
  · exact .inl ⟨a, c, b⟩
  · rw [bathE_eq] at b c
    by_cases h1 : bathL h.length rs = 0
    · rw [if_neg (by simp [h1])] at b c
      by_cases h2 : wantTo 0 rs rs.length = 0
      · rw [if_neg (by simp [h2])] at b c
        exact .inr (.inr (.inr (.inl ⟨a, h1, h2, b, d, c⟩)))
      · rw [if_pos h2] at c
        exact .inr (.inr (.inl ⟨a, h1, h2, d, by rw [hw8 h2]; exact c⟩))
    · rw [if_pos h1] at c
      exact .inr (.inl ⟨a, h1, d, c⟩)
  · rw [bathE_eq] at b
    have h1 : bathL h.length rs = 0 := by
      by_cases h1 : bathL h.length rs = 0
      · exact h1
      · rw [if_pos h1] at b; exact b
    rw [if_neg (by simp [h1])] at b
    have h2 : wantTo 0 rs rs.length = 0 := by
      by_cases h2 : wantTo 0 rs rs.length = 0
      · exact h2
      · rw [if_pos h2] at b; cases b
    rw [if_neg (by simp [h2])] at b
    refine .inr (.inr (.inr (.inr ⟨a, h1, h2, b, zs, hz, fun o b' he => ?_⟩)))
    rcases hr with ⟨n1, n2, n3⟩ | ⟨x, y, n1, n2, n3⟩
    · rcases he with ⟨e1, _⟩ | ⟨_, x, y, e2, _⟩
      · exact .inl ⟨e1, n3, n2⟩
      · exact absurd ⟨_, e2.1⟩ n1
    · rcases he with ⟨_, e2⟩ | ⟨e1, x', y', e2, e3⟩
      · exact absurd ⟨_, n1.1⟩ e2
      · obtain ⟨rfl, rfl⟩ := e2.uniq n1
        exact .inr ⟨e1, by rw [n3, e3], n2⟩
set_option maxRecDepth 100000 in
set_option maxHeartbeats 12800000 in
theorem sl_sames (t : Tb) (Ab Ad : Option Addr) (cb cd : Nat) (Ah Ai Ar : Option Addr) (ch ci cr : Nat) (h : List Rg) (l : List Ic) (rs : List Rd) (w : World) (hg : GlIn w w.heap.size t.g Ab Ad) (hh : SlAt w w.heap.size 2 Ah h.length (fR h)) (hi : SlAt w w.heap.size 3 Ai l.length (fC l)) (hs : SlAt w w.heap.size 10 Ar rs.length (fE rs)) :
    Calls Tryz.prog 4 #[.agg #[.int .i64 t.g.base, .slice Ab t.g.bands.length cb, .slice Ad t.g.depths.length cd, .int .i64 t.g.blo, .int .i64 t.g.bhi, .int .i64 t.k.lo, .int .i64 t.k.hi, .int .i64 t.lag.lo, .int .i64 t.lag.hi, .int .i64 t.sq.lo, .int .i64 t.sq.hi, .int .i64 t.term], .slice Ah h.length ch, .slice Ai l.length ci, .slice Ar rs.length cr] w fun e w' => e = .returned (.bool true) ∧ Below w.heap.size w w' := by
  cases hth : thinB t.g.bands.length t.g.depths.length h.length l.length
  · have HTH := Lib.hid hth
    clear hth
    go_enter Tryz.func4, Tryz.ntmps4
    go_upto_region 1 with fail
    show Code.wp _ _ _ _ _
    refine box1 (K := fun V => Code.wp _ _ _ _ V) ?_
    intro V hb1 q1
    replace hg := hg.go hb1
    replace hh := (hh.below hb1).up hb1.size
    replace hi := (hi.below hb1).up hb1.size
    replace hs := (hs.below hb1).up hb1.size
    obtain ⟨pq1, hpq1⟩ : ∃ p, w.heap.size = p := ⟨_, rfl⟩
    rw [hpq1] at q1 ⊢
    have hp1 : w.heap.size ≤ pq1 := by omega
    clear hpq1
    go_wp2_with (refine pause_at 15 rfl ?_)
    refine Paused.mk ?_
    refine wpList_load_row rfl 29 _ rfl _ rfl 29 _ (0, 0) _ (q1) Tryz.underlying29 rfl (by kernel_rfl) ?_
    go_wp2_with fail
    refine (sr_thin t Ab Ad cb cd Ah Ai h.length l.length ch ci _).mono ?_
    rintro e V1 ⟨rfl, hV1⟩
    replace q1 := q1.below hV1 q1.lt
    replace hg := hg.go hV1
    replace hh := (hh.below hV1).up hV1.size
    replace hi := (hi.below hV1).up hV1.size
    replace hs := (hs.below hV1).up hV1.size
    have B_V1 := ex_trans hb1 hV1
    rw [HTH.out]
    go_wp2_with fail
    refine (sl_awake _).mono ?_
    rintro e V2 ⟨rfl, hV2⟩
    replace q1 := q1.below hV2 q1.lt
    replace hg := hg.go hV2
    replace hh := (hh.below hV2).up hV2.size
    replace hi := (hi.below hV2).up hV2.size
    replace hs := (hs.below hV2).up hV2.size
    have B_V2 := ex_trans B_V1 hV2
    go_wp2
    go_ret
    exact ⟨rfl, B_V2⟩
  · have HTH := Lib.hid hth
    obtain ⟨hnb, hnd, hnh, hni⟩ := thinB_iff.1 hth
    clear hth
    go_enter Tryz.func4, Tryz.ntmps4
    go_upto_region 1 with fail
    show Code.wp _ _ _ _ _
    refine box1 (K := fun V => Code.wp _ _ _ _ V) ?_
    intro V hb1 q1
    replace hg := hg.go hb1
    replace hh := (hh.below hb1).up hb1.size
    replace hi := (hi.below hb1).up hb1.size
    replace hs := (hs.below hb1).up hb1.size
    obtain ⟨pq1, hpq1⟩ : ∃ p, w.heap.size = p := ⟨_, rfl⟩
    rw [hpq1] at q1 ⊢
    have hp1 : w.heap.size ≤ pq1 := by omega
    clear hpq1
    go_wp2_with (refine pause_at 15 rfl ?_)
    refine Paused.mk ?_
    refine wpList_load_row rfl 29 _ rfl _ rfl 29 _ (0, 0) _ (q1) Tryz.underlying29 rfl (by kernel_rfl) ?_
    go_wp2_with fail
    refine (sr_thin t Ab Ad cb cd Ah Ai h.length l.length ch ci _).mono ?_
    rintro e V3 ⟨rfl, hV3⟩
    replace q1 := q1.below hV3 q1.lt
    replace hg := hg.go hV3
    replace hh := (hh.below hV3).up hV3.size
    replace hi := (hi.below hV3).up hV3.size
    replace hs := (hs.below hV3).up hV3.size
    have B_V3 := ex_trans hb1 hV3
    rw [HTH.out]
    by_cases h7 : 7 < rs.length
    · have d1 : decide (7 < (rs.length : Int)) = true := decide_eq_true (by omega)
      go_wp2_with fail
      refine (sl_awake _).mono ?_
      rintro e V4 ⟨rfl, hV4⟩
      replace q1 := q1.below hV4 q1.lt
      replace hg := hg.go hV4
      replace hh := (hh.below hV4).up hV4.size
      replace hi := (hi.below hV4).up hV4.size
      replace hs := (hs.below hV4).up hV4.size
      have B_V4 := ex_trans B_V3 hV4
      go_wp2
      go_ret
      exact ⟨rfl, B_V4⟩
    · have d1 : decide (7 < (rs.length : Int)) = false := decide_eq_false (by omega)
      have hr7 : rs.length ≤ 7 := by omega
      clear h7
      go_wp2_with (refine pause_at 27 rfl ?_)
      refine Paused.mk ?_
      refine wpList_load_row rfl 29 _ rfl _ rfl 29 _ (0, 0) _ (q1) Tryz.underlying29 rfl (by kernel_rfl) ?_
      go_wp2_with fail
      refine (sr_Tube t Ab Ad cb cd _ hg (by omega) (by omega)).mono ?_
      rintro e V5 ⟨⟨Ab1, Ad1, cb1, cd1, rfl, hg1⟩, hV5⟩
      replace q1 := q1.below hV5 q1.lt
      replace hg := hg.go hV5
      replace hh := (hh.below hV5).up hV5.size
      replace hi := (hi.below hV5).up hV5.size
      replace hs := (hs.below hV5).up hV5.size
      have B_V5 := ex_trans B_V3 hV5
      go_wp2_with fail
      refine (History_any _ _ h _ (by omega) hh).mono ?_
      rintro e V6 ⟨⟨Ah1, ch1, rfl, -, -, hh1⟩, hV6⟩
      replace q1 := q1.below hV6 q1.lt
      replace hg := hg.go hV6
      replace hh := (hh.below hV6).up hV6.size
      replace hi := (hi.below hV6).up hV6.size
      replace hs := (hs.below hV6).up hV6.size
      replace hg1 := hg1.go hV6
      have B_V6 := ex_trans B_V5 hV6
      go_wp2_with fail
      refine (Ices_any _ _ l _ (by omega) hi).mono ?_
      rintro e V7 ⟨⟨Ai1, ci1, rfl, -, -, hi1⟩, hV7⟩
      replace q1 := q1.below hV7 q1.lt
      replace hg := hg.go hV7
      replace hh := (hh.below hV7).up hV7.size
      replace hi := (hi.below hV7).up hV7.size
      replace hs := (hs.below hV7).up hV7.size
      replace hg1 := hg1.go hV7
      replace hh1 := (hh1.below hV7).up hV7.size
      have B_V7 := ex_trans B_V6 hV7
      go_wp2_with fail
      refine (sl_readings _ _ rs _ (by omega) hs).mono ?_
      rintro e V8 ⟨⟨Ar1, cr1, rfl, -, -, hs1⟩, hV8⟩
      replace q1 := q1.below hV8 q1.lt
      replace hg := hg.go hV8
      replace hh := (hh.below hV8).up hV8.size
      replace hi := (hi.below hV8).up hV8.size
      replace hs := (hs.below hV8).up hV8.size
      replace hg1 := hg1.go hV8
      replace hh1 := (hh1.below hV8).up hV8.size
      replace hi1 := (hi1.below hV8).up hV8.size
      have B_V8 := ex_trans B_V7 hV8
      go_wp2_with fail
      refine (Same_v t Ab1 Ad1 cb1 cd1 Ah1 Ai1 Ar1 ch1 ci1 cr1 h l rs _ hg1 hh1 hi1 hs1 (by omega) (by omega)).mono ?_
      rintro e V9 ⟨⟨R1, ev1, rfl, hc1⟩, hV9⟩
      replace q1 := q1.below hV9 q1.lt
      replace hg := hg.go hV9
      replace hh := (hh.below hV9).up hV9.size
      replace hi := (hi.below hV9).up hV9.size
      replace hs := (hs.below hV9).up hV9.size
      replace hg1 := hg1.go hV9
      replace hh1 := (hh1.below hV9).up hV9.size
      replace hi1 := (hi1.below hV9).up hV9.size
      replace hs1 := (hs1.below hV9).up hV9.size
      have B_V9 := ex_trans B_V8 hV9
      clear hg1
      clear hh1
      clear hi1
      clear hs1
      have NG := ex_alloc (Below.refl V9.heap.size V9) (.cells #[.int .i64 0, .int .i64 0] 41)
      have bi : Blk (V9.alloc (.cells #[.int .i64 0, .int .i64 0] 41)) V9.heap.size 41 #[.int .i64 0, .int .i64 0] := Blk.new _ _ _
      have lt_q1 := q1.lt
      go_wp2_with (refine pause_store 41 rfl ?_)
      obtain ⟨pi, hpi'⟩ : ∃ p, V9.heap.size = p := ⟨_, rfl⟩
      rw [hpi'] at bi lt_q1 ⊢
      have zpi : w.heap.size ≤ pi := by have := B_V9.size; omega
      have yi : V9.heap.size ≤ pi := Nat.le_of_eq hpi'
      clear hpi'
      have nq1_pi : pq1 ≠ pi := by omega
      clear lt_q1
      replace q1 := q1.below NG q1.lt
      have B_V10 := ex_trans B_V9 NG
      have X_V10 := ex_trans (Below.refl V9.heap.size V9) NG
      clear NG
      generalize V9.alloc (.cells #[.int .i64 0, .int .i64 0] 41) = V10 at *
      refine Paused.mk ?_
      have XP := ex_set (p := ⟨pi, 1, none⟩) (ex_set (p := ⟨pi, 0, none⟩) X_V10 yi (.int .i64 R1.lo)) yi (.int .i64 R1.hi)
      have u0 := bi.cell 0
      have u1 := bi.cell 1
      have fu := bi.frozen0
      have lu := bi.lt
      simp at u0 u1
      go_wp2_with (refine pause_at 38 rfl ?_)
      clear fu lu u0 u1
      replace bi := bi.set_ 0 (.int .i64 R1.lo)
      replace q1 := q1.far (p := ⟨pi, 0, none⟩) nq1_pi (.int .i64 R1.lo)
      replace bi := bi.set_ 1 (.int .i64 R1.hi)
      replace q1 := q1.far (p := ⟨pi, 1, none⟩) nq1_pi (.int .i64 R1.hi)
      simp only [List.setIfInBounds_toArray, List.set_cons_zero, List.set_cons_succ] at bi
      have B_V11 := ex_set (p := ⟨pi, 1, none⟩) (ex_set (p := ⟨pi, 0, none⟩) (B_V10) zpi (.int .i64 R1.lo)) zpi (.int .i64 R1.hi)
      generalize ((V10.setCell ⟨pi, 0, none⟩ (.int .i64 R1.lo)).setCell ⟨pi, 1, none⟩ (.int .i64 R1.hi)) = V11 at *
      replace hg := hg.go XP
      replace hh := (hh.below XP).up XP.size
      replace hi := (hi.below XP).up XP.size
      replace hs := (hs.below XP).up XP.size
      clear XP
      clear d1
      have CA := Lib.hid (sam_cases hc1.out)
      clear hc1
      rcases CA.out with ⟨hu, rfl, rfl⟩ | ⟨hu, hb, rfl, rfl⟩ | ⟨hu, hb, hw, rfl, rfl⟩ | ⟨hu, hb, hw, hr, rfl, rfl⟩ | ⟨hu, hb, hw, hr, zs, hz, hE⟩
      · clear CA
        have e1 : (useE t h l == 0) = false := by simp [hu]
        have HN := Lib.hid hu
        refine Paused.mk ?_
        refine wpList_load_row rfl 29 _ rfl _ rfl 29 _ (0, 0) _ (q1) Tryz.underlying29 rfl (by kernel_rfl) ?_
        go_wp2_with fail
        refine (sr_lived t Ab Ad cb cd Ah Ai ch ci h l _ hg hh hi (by omega)).mono ?_
        rintro e V12 ⟨rfl, hV12⟩
        replace q1 := q1.below hV12 q1.lt
        replace bi := bi.below hV12 bi.lt
        replace hg := hg.go hV12
        replace hh := (hh.below hV12).up hV12.size
        replace hi := (hi.below hV12).up hV12.size
        replace hs := (hs.below hV12).up hV12.size
        have B_V12 := ex_trans B_V11 hV12
        clear hu
        go_wp2_with fail
        refine wp_loop (fun a wq => Rel (fun a wq => ∃ k : Nat, k ≤ rs.length ∧ Below V12.heap.size V12 wq ∧ ∃ u : Nat → Value, a = ⟨List.toArray (u 0 :: .slice Ah h.length ch :: .slice Ai l.length ci :: .slice Ar rs.length cr :: .pointer (some ⟨pq1, 0, none⟩) :: u 5 :: u 6 :: u 7 :: .bool false :: .pointer (some ⟨pi, 0, none⟩) :: .int .i64 (useE t h l) :: .int .i64 (wantTo (useE t h l) rs k) :: .int .i64 (k : Int) :: u 13 :: u 14 :: u 15 :: u 16 :: u 17 :: u 18 :: u 19 :: u 20 :: u 21 :: u 22 :: u 23 :: u 24 :: u 25 :: u 26 :: u 27 :: u 28 :: u 29 :: u 30 :: u 31 :: u 32 :: u 33 :: u 34 :: u 35 :: u 36 :: u 37 :: u 38 :: u 39 :: u 40 :: u 41 :: u 42 :: u 43 :: u 44 :: u 45 :: u 46 :: u 47 :: u 48 :: u 49 :: u 50 :: u 51 :: u 52 :: u 53 :: u 54 :: u 55 :: u 56 :: u 57 :: u 58 :: u 59 :: u 60 :: u 61 :: u 62 :: u 63 :: u 64 :: u 65 :: u 66 :: u 67 :: u 68 :: u 69 :: u 70 :: u 71 :: u 72 :: u 73 :: u 74 :: u 75 :: u 76 :: u 77 :: u 78 :: u 79 :: u 80 :: u 81 :: u 82 :: u 83 :: u 84 :: u 85 :: u 86 :: u 87 :: u 88 :: u 89 :: u 90 :: u 91 :: u 92 :: u 93 :: u 94 :: u 95 :: []), []⟩) a wq) (fun a _ => rs.length - (intOf (a.tmps.getD 12 undef)).toNat) ⟨⟨0, by omega, Below.refl _ _, by rw [wantTo_0]; exact exFrame (by kernel_rfl)⟩⟩ ?_
        rintro a wi ⟨⟨k, hk, hX, u, rfl⟩⟩
        have HX := hX
        replace q1 := q1.below hX q1.lt
        replace bi := bi.below hX bi.lt
        replace hg := hg.go hX
        replace hh := (hh.below hX).up hX.size
        replace hi := (hi.below hX).up hX.size
        replace hs := (hs.below hX).up hX.size
        have B_wi := ex_trans B_V12 hX
        by_cases hlt : k < rs.length ∧ wantTo (useE t h l) rs k = 0
        · have d1 : decide ((k : Int) < (rs.length : Int)) = true := decide_eq_true (by omega)
          have d2 : decide (k < rs.length) = true := decide_eq_true hlt.1
          have HW0 := Lib.hid hlt.2
          rw [hlt.2]
          obtain ⟨bj, oj, hA2, hbj, g0, g1, g2, g3, g4, g5, g6, g7, g8, g9⟩ := IsRds.at10 hs hlt.1
          have HA2 := Lib.hid hA2
          subst hA2
          clear g0 g1 g2 g3 g4 g5 g6 g7 g8
          have hltk := hlt.1
          clear hlt
          rcases Bool.eq_false_or_eq_true (gE rs k).broken with hb | hb
          · rw [hb] at g9
            have HW1 : Hid (wantTo (useE t h l) rs (k + 1) = 8) := Lib.hid (wantTo_yes HW0.out hb)
            clear hb
            go_wp2
            refine ⟨⟨⟨k + 1, by omega, HX, by rw [HW1.out]; exact exFrame (by kernel_rfl)⟩⟩, ?_⟩
            simp [intOf]
            omega
          · rw [hb] at g9
            have HW1 : Hid (wantTo (useE t h l) rs (k + 1) = 0) := Lib.hid (by rw [wantTo_no hb]; exact HW0.out)
            clear hb
            go_wp2
            refine ⟨⟨⟨k + 1, by omega, HX, by rw [HW1.out]; exact exFrame (by kernel_rfl)⟩⟩, ?_⟩
            simp [intOf]
            omega
        · have HWL : Hid (wantTo (useE t h l) rs k = wantTo (useE t h l) rs rs.length) := Lib.hid (by
            by_cases hk2 : k = rs.length
            · rw [hk2]
            · exact (wantTo_ne (fun e => hlt ⟨by omega, e⟩) hk).symm)
          have HST : Hid (k < rs.length → wantTo (useE t h l) rs k ≠ 0) := Lib.hid (fun h e => hlt ⟨h, e⟩)
          clear hlt
          by_cases hkl : k < rs.length
          · have d1 : decide ((k : Int) < (rs.length : Int)) = true := decide_eq_true (by omega)
            have d2 : decide (k < rs.length) = true := decide_eq_true hkl
            have hne := HST.out hkl
            have d3 : (wantTo (useE t h l) rs k == 0) = false := by simp [hne]
            have d4 : (wantTo (useE t h l) rs rs.length == 0) = false := by rw [← HWL.out]; exact d3
            clear hne
            have HV : Hid (wantTo (useE t h l) rs k = useE t h l) := Lib.hid (wantTo_e HN.out)
            rw [HV.out]
            rw [HV.out] at d3
            have NG := ex_alloc (Below.refl wi.heap.size wi) (.cells #[.int .i64 0, .int .i64 0] 25)
            have q7 : Blk (wi.alloc (.cells #[.int .i64 0, .int .i64 0] 25)) wi.heap.size 25 #[.int .i64 0, .int .i64 0] := Blk.new _ _ _
            have lt_q1 := q1.lt
            have lt_bi := bi.lt
            go_upto_region 20 with fail
            obtain ⟨p7, hp7'⟩ : ∃ p, wi.heap.size = p := ⟨_, rfl⟩
            rw [hp7'] at q7 lt_q1 lt_bi ⊢
            have zp7 : w.heap.size ≤ p7 := by have := B_wi.size; omega
            clear hp7'
            have nq1_p7 : pq1 ≠ p7 := by omega
            clear lt_q1
            have nbi_p7 : pi ≠ p7 := by omega
            clear lt_bi
            replace q1 := q1.below NG q1.lt
            replace bi := bi.below NG bi.lt
            replace hg := hg.go NG
            replace hh := hh.go NG
            replace hi := hi.go NG
            replace hs := hs.go NG
            have B_V13 := ex_trans B_wi NG
            clear NG
            generalize wi.alloc (.cells #[.int .i64 0, .int .i64 0] 25) = V13 at *
            have i0 := bi.cell 0
            have i1 := bi.cell 1
            have li := bi.lt
            simp at i0 i1
            have y0 := q7.cell 0
            have y1 := q7.cell 1
            have ly := q7.lt
            simp at y0 y1
            refine wp_region_ext (by kernel_rfl) (by kernel_rfl) ?_
            repeat (go_big_quiet_step ((first | (go_at_call 16; exact Calls.ext_of (sl_awake _)) | (go_at_call 31; exact Calls.ext_of (sr_to ⟨0, 0⟩ _)))))
            refine wpQuiet_nil ?_; intro _ hw'; obtain ⟨X, rfl⟩ := hw'
            go_wp2
            go_ret
            exact ⟨rfl, ex_trans B_V13 X.h⟩
          · have d1 : decide ((k : Int) < (rs.length : Int)) = false := decide_eq_false (by omega)
            have d2 : decide (k < rs.length) = false := decide_eq_false hkl
            have HV : Hid (wantTo (useE t h l) rs k = useE t h l) := Lib.hid (wantTo_e HN.out)
            rw [HV.out]
            have NG := ex_alloc (Below.refl wi.heap.size wi) (.cells #[.int .i64 0, .int .i64 0] 25)
            have q7 : Blk (wi.alloc (.cells #[.int .i64 0, .int .i64 0] 25)) wi.heap.size 25 #[.int .i64 0, .int .i64 0] := Blk.new _ _ _
            have lt_q1 := q1.lt
            have lt_bi := bi.lt
            go_upto_region 20 with fail
            obtain ⟨p7, hp7'⟩ : ∃ p, wi.heap.size = p := ⟨_, rfl⟩
            rw [hp7'] at q7 lt_q1 lt_bi ⊢
            have zp7 : w.heap.size ≤ p7 := by have := B_wi.size; omega
            clear hp7'
            have nq1_p7 : pq1 ≠ p7 := by omega
            clear lt_q1
            have nbi_p7 : pi ≠ p7 := by omega
            clear lt_bi
            replace q1 := q1.below NG q1.lt
            replace bi := bi.below NG bi.lt
            replace hg := hg.go NG
            replace hh := hh.go NG
            replace hi := hi.go NG
            replace hs := hs.go NG
            have B_V14 := ex_trans B_wi NG
            clear NG
            generalize wi.alloc (.cells #[.int .i64 0, .int .i64 0] 25) = V14 at *
            have i0 := bi.cell 0
            have i1 := bi.cell 1
            have li := bi.lt
            simp at i0 i1
            have y0 := q7.cell 0
            have y1 := q7.cell 1
            have ly := q7.lt
            simp at y0 y1
            refine wp_region_ext (by kernel_rfl) (by kernel_rfl) ?_
            repeat (go_big_quiet_step ((first | (go_at_call 16; exact Calls.ext_of (sl_awake _)) | (go_at_call 31; exact Calls.ext_of (sr_to ⟨0, 0⟩ _)))))
            refine wpQuiet_nil ?_; intro _ hw'; obtain ⟨X, rfl⟩ := hw'
            go_wp2
            go_ret
            exact ⟨rfl, ex_trans B_V14 X.h⟩
      · clear CA
        have HU := Lib.hid hu
        have HN := Lib.hid hb
        have e1 : (bathL h.length rs == 0) = false := by simp [hb]
        refine Paused.mk ?_
        refine wpList_load_row rfl 29 _ rfl _ rfl 29 _ (0, 0) _ (q1) Tryz.underlying29 rfl (by kernel_rfl) ?_
        go_wp2_with fail
        refine (sr_lived t Ab Ad cb cd Ah Ai ch ci h l _ hg hh hi (by omega)).mono ?_
        rintro e V15 ⟨rfl, hV15⟩
        replace q1 := q1.below hV15 q1.lt
        replace bi := bi.below hV15 bi.lt
        replace hg := hg.go hV15
        replace hh := (hh.below hV15).up hV15.size
        replace hi := (hi.below hV15).up hV15.size
        replace hs := (hs.below hV15).up hV15.size
        have B_V15 := ex_trans B_V11 hV15
        rw [HU.out]
        go_wp2_with fail
        refine (sl_bath Ah Ar h.length ch cr rs _ hs (by omega)).mono ?_
        rintro e V16 ⟨rfl, hV16⟩
        replace q1 := q1.below hV16 q1.lt
        replace bi := bi.below hV16 bi.lt
        replace hg := hg.go hV16
        replace hh := (hh.below hV16).up hV16.size
        replace hi := (hi.below hV16).up hV16.size
        replace hs := (hs.below hV16).up hV16.size
        have B_V16 := ex_trans B_V15 hV16
        clear hu hb
        go_wp2_with fail
        refine wp_loop (fun a wq => Rel (fun a wq => ∃ k : Nat, k ≤ rs.length ∧ Below V16.heap.size V16 wq ∧ ∃ u : Nat → Value, a = ⟨List.toArray (u 0 :: .slice Ah h.length ch :: .slice Ai l.length ci :: .slice Ar rs.length cr :: .pointer (some ⟨pq1, 0, none⟩) :: u 5 :: u 6 :: u 7 :: .bool false :: .pointer (some ⟨pi, 0, none⟩) :: .int .i64 (bathL h.length rs) :: .int .i64 (wantTo (bathL h.length rs) rs k) :: .int .i64 (k : Int) :: u 13 :: u 14 :: u 15 :: u 16 :: u 17 :: u 18 :: u 19 :: u 20 :: u 21 :: u 22 :: u 23 :: u 24 :: u 25 :: u 26 :: u 27 :: u 28 :: u 29 :: u 30 :: u 31 :: u 32 :: u 33 :: u 34 :: u 35 :: u 36 :: u 37 :: u 38 :: u 39 :: u 40 :: u 41 :: u 42 :: u 43 :: u 44 :: u 45 :: u 46 :: u 47 :: u 48 :: u 49 :: u 50 :: u 51 :: u 52 :: u 53 :: u 54 :: u 55 :: u 56 :: u 57 :: u 58 :: u 59 :: u 60 :: u 61 :: u 62 :: u 63 :: u 64 :: u 65 :: u 66 :: u 67 :: u 68 :: u 69 :: u 70 :: u 71 :: u 72 :: u 73 :: u 74 :: u 75 :: u 76 :: u 77 :: u 78 :: u 79 :: u 80 :: u 81 :: u 82 :: u 83 :: u 84 :: u 85 :: u 86 :: u 87 :: u 88 :: u 89 :: u 90 :: u 91 :: u 92 :: u 93 :: u 94 :: u 95 :: []), []⟩) a wq) (fun a _ => rs.length - (intOf (a.tmps.getD 12 undef)).toNat) ⟨⟨0, by omega, Below.refl _ _, by rw [wantTo_0]; exact exFrame (by kernel_rfl)⟩⟩ ?_
        rintro a wi ⟨⟨k, hk, hX, u, rfl⟩⟩
        have HX := hX
        replace q1 := q1.below hX q1.lt
        replace bi := bi.below hX bi.lt
        replace hg := hg.go hX
        replace hh := (hh.below hX).up hX.size
        replace hi := (hi.below hX).up hX.size
        replace hs := (hs.below hX).up hX.size
        have B_wi := ex_trans B_V16 hX
        by_cases hlt : k < rs.length ∧ wantTo (bathL h.length rs) rs k = 0
        · have d1 : decide ((k : Int) < (rs.length : Int)) = true := decide_eq_true (by omega)
          have d2 : decide (k < rs.length) = true := decide_eq_true hlt.1
          have HW0 := Lib.hid hlt.2
          rw [hlt.2]
          obtain ⟨bj, oj, hA2, hbj, g0, g1, g2, g3, g4, g5, g6, g7, g8, g9⟩ := IsRds.at10 hs hlt.1
          have HA2 := Lib.hid hA2
          subst hA2
          clear g0 g1 g2 g3 g4 g5 g6 g7 g8
          have hltk := hlt.1
          clear hlt
          rcases Bool.eq_false_or_eq_true (gE rs k).broken with hb | hb
          · rw [hb] at g9
            have HW1 : Hid (wantTo (bathL h.length rs) rs (k + 1) = 8) := Lib.hid (wantTo_yes HW0.out hb)
            clear hb
            go_wp2
            refine ⟨⟨⟨k + 1, by omega, HX, by rw [HW1.out]; exact exFrame (by kernel_rfl)⟩⟩, ?_⟩
            simp [intOf]
            omega
          · rw [hb] at g9
            have HW1 : Hid (wantTo (bathL h.length rs) rs (k + 1) = 0) := Lib.hid (by rw [wantTo_no hb]; exact HW0.out)
            clear hb
            go_wp2
            refine ⟨⟨⟨k + 1, by omega, HX, by rw [HW1.out]; exact exFrame (by kernel_rfl)⟩⟩, ?_⟩
            simp [intOf]
            omega
        · have HWL : Hid (wantTo (bathL h.length rs) rs k = wantTo (bathL h.length rs) rs rs.length) := Lib.hid (by
            by_cases hk2 : k = rs.length
            · rw [hk2]
            · exact (wantTo_ne (fun e => hlt ⟨by omega, e⟩) hk).symm)
          have HST : Hid (k < rs.length → wantTo (bathL h.length rs) rs k ≠ 0) := Lib.hid (fun h e => hlt ⟨h, e⟩)
          clear hlt
          by_cases hkl : k < rs.length
          · have d1 : decide ((k : Int) < (rs.length : Int)) = true := decide_eq_true (by omega)
            have d2 : decide (k < rs.length) = true := decide_eq_true hkl
            have hne := HST.out hkl
            have d3 : (wantTo (bathL h.length rs) rs k == 0) = false := by simp [hne]
            have d4 : (wantTo (bathL h.length rs) rs rs.length == 0) = false := by rw [← HWL.out]; exact d3
            clear hne
            have HV : Hid (wantTo (bathL h.length rs) rs k = bathL h.length rs) := Lib.hid (wantTo_e HN.out)
            rw [HV.out]
            rw [HV.out] at d3
            have NG := ex_alloc (Below.refl wi.heap.size wi) (.cells #[.int .i64 0, .int .i64 0] 25)
            have q7 : Blk (wi.alloc (.cells #[.int .i64 0, .int .i64 0] 25)) wi.heap.size 25 #[.int .i64 0, .int .i64 0] := Blk.new _ _ _
            have lt_q1 := q1.lt
            have lt_bi := bi.lt
            go_upto_region 20 with fail
            obtain ⟨p7, hp7'⟩ : ∃ p, wi.heap.size = p := ⟨_, rfl⟩
            rw [hp7'] at q7 lt_q1 lt_bi ⊢
            have zp7 : w.heap.size ≤ p7 := by have := B_wi.size; omega
            clear hp7'
            have nq1_p7 : pq1 ≠ p7 := by omega
            clear lt_q1
            have nbi_p7 : pi ≠ p7 := by omega
            clear lt_bi
            replace q1 := q1.below NG q1.lt
            replace bi := bi.below NG bi.lt
            replace hg := hg.go NG
            replace hh := hh.go NG
            replace hi := hi.go NG
            replace hs := hs.go NG
            have B_V17 := ex_trans B_wi NG
            clear NG
            generalize wi.alloc (.cells #[.int .i64 0, .int .i64 0] 25) = V17 at *
            have i0 := bi.cell 0
            have i1 := bi.cell 1
            have li := bi.lt
            simp at i0 i1
            have y0 := q7.cell 0
            have y1 := q7.cell 1
            have ly := q7.lt
            simp at y0 y1
            refine wp_region_ext (by kernel_rfl) (by kernel_rfl) ?_
            repeat (go_big_quiet_step ((first | (go_at_call 16; exact Calls.ext_of (sl_awake _)) | (go_at_call 31; exact Calls.ext_of (sr_to ⟨0, 0⟩ _)))))
            refine wpQuiet_nil ?_; intro _ hw'; obtain ⟨X, rfl⟩ := hw'
            go_wp2
            go_ret
            exact ⟨rfl, ex_trans B_V17 X.h⟩
          · have d1 : decide ((k : Int) < (rs.length : Int)) = false := decide_eq_false (by omega)
            have d2 : decide (k < rs.length) = false := decide_eq_false hkl
            have HV : Hid (wantTo (bathL h.length rs) rs k = bathL h.length rs) := Lib.hid (wantTo_e HN.out)
            rw [HV.out]
            have NG := ex_alloc (Below.refl wi.heap.size wi) (.cells #[.int .i64 0, .int .i64 0] 25)
            have q7 : Blk (wi.alloc (.cells #[.int .i64 0, .int .i64 0] 25)) wi.heap.size 25 #[.int .i64 0, .int .i64 0] := Blk.new _ _ _
            have lt_q1 := q1.lt
            have lt_bi := bi.lt
            go_upto_region 20 with fail
            obtain ⟨p7, hp7'⟩ : ∃ p, wi.heap.size = p := ⟨_, rfl⟩
            rw [hp7'] at q7 lt_q1 lt_bi ⊢
            have zp7 : w.heap.size ≤ p7 := by have := B_wi.size; omega
            clear hp7'
            have nq1_p7 : pq1 ≠ p7 := by omega
            clear lt_q1
            have nbi_p7 : pi ≠ p7 := by omega
            clear lt_bi
            replace q1 := q1.below NG q1.lt
            replace bi := bi.below NG bi.lt
            replace hg := hg.go NG
            replace hh := hh.go NG
            replace hi := hi.go NG
            replace hs := hs.go NG
            have B_V18 := ex_trans B_wi NG
            clear NG
            generalize wi.alloc (.cells #[.int .i64 0, .int .i64 0] 25) = V18 at *
            have i0 := bi.cell 0
            have i1 := bi.cell 1
            have li := bi.lt
            simp at i0 i1
            have y0 := q7.cell 0
            have y1 := q7.cell 1
            have ly := q7.lt
            simp at y0 y1
            refine wp_region_ext (by kernel_rfl) (by kernel_rfl) ?_
            repeat (go_big_quiet_step ((first | (go_at_call 16; exact Calls.ext_of (sl_awake _)) | (go_at_call 31; exact Calls.ext_of (sr_to ⟨0, 0⟩ _)))))
            refine wpQuiet_nil ?_; intro _ hw'; obtain ⟨X, rfl⟩ := hw'
            go_wp2
            go_ret
            exact ⟨rfl, ex_trans B_V18 X.h⟩
      · clear CA
        have HU := Lib.hid hu
        have HBL := Lib.hid hb
        have HN := Lib.hid hw
        have e1 : (wantTo 0 rs rs.length == 0) = false := by simp [hw]
        refine Paused.mk ?_
        refine wpList_load_row rfl 29 _ rfl _ rfl 29 _ (0, 0) _ (q1) Tryz.underlying29 rfl (by kernel_rfl) ?_
        go_wp2_with fail
        refine (sr_lived t Ab Ad cb cd Ah Ai ch ci h l _ hg hh hi (by omega)).mono ?_
        rintro e V19 ⟨rfl, hV19⟩
        replace q1 := q1.below hV19 q1.lt
        replace bi := bi.below hV19 bi.lt
        replace hg := hg.go hV19
        replace hh := (hh.below hV19).up hV19.size
        replace hi := (hi.below hV19).up hV19.size
        replace hs := (hs.below hV19).up hV19.size
        have B_V19 := ex_trans B_V11 hV19
        rw [HU.out]
        go_wp2_with fail
        refine (sl_bath Ah Ar h.length ch cr rs _ hs (by omega)).mono ?_
        rintro e V20 ⟨rfl, hV20⟩
        replace q1 := q1.below hV20 q1.lt
        replace bi := bi.below hV20 bi.lt
        replace hg := hg.go hV20
        replace hh := (hh.below hV20).up hV20.size
        replace hi := (hi.below hV20).up hV20.size
        replace hs := (hs.below hV20).up hV20.size
        have B_V20 := ex_trans B_V19 hV20
        rw [HBL.out]
        clear hu hb hw
        go_wp2_with fail
        refine wp_loop (fun a wq => Rel (fun a wq => ∃ k : Nat, k ≤ rs.length ∧ Below V20.heap.size V20 wq ∧ ∃ u : Nat → Value, a = ⟨List.toArray (u 0 :: .slice Ah h.length ch :: .slice Ai l.length ci :: .slice Ar rs.length cr :: .pointer (some ⟨pq1, 0, none⟩) :: u 5 :: u 6 :: u 7 :: .bool false :: .pointer (some ⟨pi, 0, none⟩) :: .int .i64 (wantTo 0 rs rs.length) :: .int .i64 (wantTo (0) rs k) :: .int .i64 (k : Int) :: u 13 :: u 14 :: u 15 :: u 16 :: u 17 :: u 18 :: u 19 :: u 20 :: u 21 :: u 22 :: u 23 :: u 24 :: u 25 :: u 26 :: u 27 :: u 28 :: u 29 :: u 30 :: u 31 :: u 32 :: u 33 :: u 34 :: u 35 :: u 36 :: u 37 :: u 38 :: u 39 :: u 40 :: u 41 :: u 42 :: u 43 :: u 44 :: u 45 :: u 46 :: u 47 :: u 48 :: u 49 :: u 50 :: u 51 :: u 52 :: u 53 :: u 54 :: u 55 :: u 56 :: u 57 :: u 58 :: u 59 :: u 60 :: u 61 :: u 62 :: u 63 :: u 64 :: u 65 :: u 66 :: u 67 :: u 68 :: u 69 :: u 70 :: u 71 :: u 72 :: u 73 :: u 74 :: u 75 :: u 76 :: u 77 :: u 78 :: u 79 :: u 80 :: u 81 :: u 82 :: u 83 :: u 84 :: u 85 :: u 86 :: u 87 :: u 88 :: u 89 :: u 90 :: u 91 :: u 92 :: u 93 :: u 94 :: u 95 :: []), []⟩) a wq) (fun a _ => rs.length - (intOf (a.tmps.getD 12 undef)).toNat) ⟨⟨0, by omega, Below.refl _ _, by rw [wantTo_0]; exact exFrame (by kernel_rfl)⟩⟩ ?_
        rintro a wi ⟨⟨k, hk, hX, u, rfl⟩⟩
        have HX := hX
        replace q1 := q1.below hX q1.lt
        replace bi := bi.below hX bi.lt
        replace hg := hg.go hX
        replace hh := (hh.below hX).up hX.size
        replace hi := (hi.below hX).up hX.size
        replace hs := (hs.below hX).up hX.size
        have B_wi := ex_trans B_V20 hX
        by_cases hlt : k < rs.length ∧ wantTo (0) rs k = 0
        · have d1 : decide ((k : Int) < (rs.length : Int)) = true := decide_eq_true (by omega)
          have d2 : decide (k < rs.length) = true := decide_eq_true hlt.1
          have HW0 := Lib.hid hlt.2
          rw [hlt.2]
          obtain ⟨bj, oj, hA2, hbj, g0, g1, g2, g3, g4, g5, g6, g7, g8, g9⟩ := IsRds.at10 hs hlt.1
          have HA2 := Lib.hid hA2
          subst hA2
          clear g0 g1 g2 g3 g4 g5 g6 g7 g8
          have hltk := hlt.1
          clear hlt
          rcases Bool.eq_false_or_eq_true (gE rs k).broken with hb | hb
          · rw [hb] at g9
            have HW1 : Hid (wantTo (0) rs (k + 1) = 8) := Lib.hid (wantTo_yes HW0.out hb)
            clear hb
            go_wp2
            refine ⟨⟨⟨k + 1, by omega, HX, by rw [HW1.out]; exact exFrame (by kernel_rfl)⟩⟩, ?_⟩
            simp [intOf]
            omega
          · rw [hb] at g9
            have HW1 : Hid (wantTo (0) rs (k + 1) = 0) := Lib.hid (by rw [wantTo_no hb]; exact HW0.out)
            clear hb
            go_wp2
            refine ⟨⟨⟨k + 1, by omega, HX, by rw [HW1.out]; exact exFrame (by kernel_rfl)⟩⟩, ?_⟩
            simp [intOf]
            omega
        · have HWL : Hid (wantTo (0) rs k = wantTo (0) rs rs.length) := Lib.hid (by
            by_cases hk2 : k = rs.length
            · rw [hk2]
            · exact (wantTo_ne (fun e => hlt ⟨by omega, e⟩) hk).symm)
          have HST : Hid (k < rs.length → wantTo (0) rs k ≠ 0) := Lib.hid (fun h e => hlt ⟨h, e⟩)
          clear hlt
          by_cases hkl : k < rs.length
          · have d1 : decide ((k : Int) < (rs.length : Int)) = true := decide_eq_true (by omega)
            have d2 : decide (k < rs.length) = true := decide_eq_true hkl
            have hne := HST.out hkl
            have d3 : (wantTo (0) rs k == 0) = false := by simp [hne]
            have d4 : (wantTo (0) rs rs.length == 0) = false := by rw [← HWL.out]; exact d3
            clear hne
            rw [HWL.out]
            rw [HWL.out] at d3
            have NG := ex_alloc (Below.refl wi.heap.size wi) (.cells #[.int .i64 0, .int .i64 0] 25)
            have q7 : Blk (wi.alloc (.cells #[.int .i64 0, .int .i64 0] 25)) wi.heap.size 25 #[.int .i64 0, .int .i64 0] := Blk.new _ _ _
            have lt_q1 := q1.lt
            have lt_bi := bi.lt
            go_upto_region 20 with fail
            obtain ⟨p7, hp7'⟩ : ∃ p, wi.heap.size = p := ⟨_, rfl⟩
            rw [hp7'] at q7 lt_q1 lt_bi ⊢
            have zp7 : w.heap.size ≤ p7 := by have := B_wi.size; omega
            clear hp7'
            have nq1_p7 : pq1 ≠ p7 := by omega
            clear lt_q1
            have nbi_p7 : pi ≠ p7 := by omega
            clear lt_bi
            replace q1 := q1.below NG q1.lt
            replace bi := bi.below NG bi.lt
            replace hg := hg.go NG
            replace hh := hh.go NG
            replace hi := hi.go NG
            replace hs := hs.go NG
            have B_V21 := ex_trans B_wi NG
            clear NG
            generalize wi.alloc (.cells #[.int .i64 0, .int .i64 0] 25) = V21 at *
            have i0 := bi.cell 0
            have i1 := bi.cell 1
            have li := bi.lt
            simp at i0 i1
            have y0 := q7.cell 0
            have y1 := q7.cell 1
            have ly := q7.lt
            simp at y0 y1
            refine wp_region_ext (by kernel_rfl) (by kernel_rfl) ?_
            repeat (go_big_quiet_step ((first | (go_at_call 16; exact Calls.ext_of (sl_awake _)) | (go_at_call 31; exact Calls.ext_of (sr_to ⟨0, 0⟩ _)))))
            refine wpQuiet_nil ?_; intro _ hw'; obtain ⟨X, rfl⟩ := hw'
            go_wp2
            go_ret
            exact ⟨rfl, ex_trans B_V21 X.h⟩
          · have d1 : decide ((k : Int) < (rs.length : Int)) = false := decide_eq_false (by omega)
            have d2 : decide (k < rs.length) = false := decide_eq_false hkl
            rw [HWL.out]
            have NG := ex_alloc (Below.refl wi.heap.size wi) (.cells #[.int .i64 0, .int .i64 0] 25)
            have q7 : Blk (wi.alloc (.cells #[.int .i64 0, .int .i64 0] 25)) wi.heap.size 25 #[.int .i64 0, .int .i64 0] := Blk.new _ _ _
            have lt_q1 := q1.lt
            have lt_bi := bi.lt
            go_upto_region 20 with fail
            obtain ⟨p7, hp7'⟩ : ∃ p, wi.heap.size = p := ⟨_, rfl⟩
            rw [hp7'] at q7 lt_q1 lt_bi ⊢
            have zp7 : w.heap.size ≤ p7 := by have := B_wi.size; omega
            clear hp7'
            have nq1_p7 : pq1 ≠ p7 := by omega
            clear lt_q1
            have nbi_p7 : pi ≠ p7 := by omega
            clear lt_bi
            replace q1 := q1.below NG q1.lt
            replace bi := bi.below NG bi.lt
            replace hg := hg.go NG
            replace hh := hh.go NG
            replace hi := hi.go NG
            replace hs := hs.go NG
            have B_V22 := ex_trans B_wi NG
            clear NG
            generalize wi.alloc (.cells #[.int .i64 0, .int .i64 0] 25) = V22 at *
            have i0 := bi.cell 0
            have i1 := bi.cell 1
            have li := bi.lt
            simp at i0 i1
            have y0 := q7.cell 0
            have y1 := q7.cell 1
            have ly := q7.lt
            simp at y0 y1
            refine wp_region_ext (by kernel_rfl) (by kernel_rfl) ?_
            repeat (go_big_quiet_step ((first | (go_at_call 16; exact Calls.ext_of (sl_awake _)) | (go_at_call 31; exact Calls.ext_of (sr_to ⟨0, 0⟩ _)))))
            refine wpQuiet_nil ?_; intro _ hw'; obtain ⟨X, rfl⟩ := hw'
            go_wp2
            go_ret
            exact ⟨rfl, ex_trans B_V22 X.h⟩
      · clear CA
        have HU := Lib.hid hu
        have HBL := Lib.hid hb
        have HN := Lib.hid hw
        obtain ⟨hp0, hp5, hrd, hd0, hd1⟩ := bathL_ok hb
        obtain ⟨k0, hk0⟩ : ∃ k : Nat, (gE rs 0).day = (k : Int) := ⟨(gE rs 0).day.toNat, by omega⟩
        have hkl0 : k0 < h.length := by omega
        have hday : 0 ≤ (gE rs 0).day ∧ (gE rs 0).day ≤ 1000000 := by omega
        have HK0 := Lib.hid hk0
        have HKT : Hid ((gE rs 0).day.toNat = k0) := Lib.hid (by omega)
        have HRD := Lib.hid hrd
        have HOK := Lib.hid (ok_of_iced (useE_0 hu).2)
        have HBD := Lib.hid (iced_bd (useE_0 hu).2)
        have HTB := Lib.hid (ck_bd (useE_0 hu).1)
        clear hk0 hd0 hd1 hrd
        refine Paused.mk ?_
        refine wpList_load_row rfl 29 _ rfl _ rfl 29 _ (0, 0) _ (q1) Tryz.underlying29 rfl (by kernel_rfl) ?_
        go_wp2_with fail
        refine (sr_lived t Ab Ad cb cd Ah Ai ch ci h l _ hg hh hi (by omega)).mono ?_
        rintro e V23 ⟨rfl, hV23⟩
        replace q1 := q1.below hV23 q1.lt
        replace bi := bi.below hV23 bi.lt
        replace hg := hg.go hV23
        replace hh := (hh.below hV23).up hV23.size
        replace hi := (hi.below hV23).up hV23.size
        replace hs := (hs.below hV23).up hV23.size
        have B_V23 := ex_trans B_V11 hV23
        rw [HU.out]
        go_wp2_with fail
        refine (sl_bath Ah Ar h.length ch cr rs _ hs (by omega)).mono ?_
        rintro e V24 ⟨rfl, hV24⟩
        replace q1 := q1.below hV24 q1.lt
        replace bi := bi.below hV24 bi.lt
        replace hg := hg.go hV24
        replace hh := (hh.below hV24).up hV24.size
        replace hi := (hi.below hV24).up hV24.size
        replace hs := (hs.below hV24).up hV24.size
        have B_V24 := ex_trans B_V23 hV24
        rw [HBL.out]
        have HR := Lib.hid hr
        have e1 : (refE t l (gE rs 0) (agreeB t.g h l off0) == 0) = false := by simp [hr]
        clear hu hb hw hr
        go_wp2_with fail
        refine wp_loop (fun a wq => Rel (fun a wq => ∃ k : Nat, k ≤ rs.length ∧ Below V24.heap.size V24 wq ∧ ∃ u : Nat → Value, a = ⟨List.toArray (u 0 :: .slice Ah h.length ch :: .slice Ai l.length ci :: .slice Ar rs.length cr :: .pointer (some ⟨pq1, 0, none⟩) :: u 5 :: u 6 :: u 7 :: .bool false :: .pointer (some ⟨pi, 0, none⟩) :: .int .i64 (refE t l (gE rs 0) (agreeB t.g h l off0)) :: .int .i64 (wantTo (0) rs k) :: .int .i64 (k : Int) :: u 13 :: u 14 :: u 15 :: u 16 :: u 17 :: u 18 :: u 19 :: u 20 :: u 21 :: u 22 :: u 23 :: u 24 :: u 25 :: u 26 :: u 27 :: u 28 :: u 29 :: u 30 :: u 31 :: u 32 :: u 33 :: u 34 :: u 35 :: u 36 :: u 37 :: u 38 :: u 39 :: u 40 :: u 41 :: u 42 :: u 43 :: u 44 :: u 45 :: u 46 :: u 47 :: u 48 :: u 49 :: u 50 :: u 51 :: u 52 :: u 53 :: u 54 :: u 55 :: u 56 :: u 57 :: u 58 :: u 59 :: u 60 :: u 61 :: u 62 :: u 63 :: u 64 :: u 65 :: u 66 :: u 67 :: u 68 :: u 69 :: u 70 :: u 71 :: u 72 :: u 73 :: u 74 :: u 75 :: u 76 :: u 77 :: u 78 :: u 79 :: u 80 :: u 81 :: u 82 :: u 83 :: u 84 :: u 85 :: u 86 :: u 87 :: u 88 :: u 89 :: u 90 :: u 91 :: u 92 :: u 93 :: u 94 :: u 95 :: []), []⟩) a wq) (fun a _ => rs.length - (intOf (a.tmps.getD 12 undef)).toNat) ⟨⟨0, by omega, Below.refl _ _, by rw [wantTo_0]; exact exFrame (by kernel_rfl)⟩⟩ ?_
        rintro a wi ⟨⟨k, hk, hX, u, rfl⟩⟩
        have HX := hX
        replace q1 := q1.below hX q1.lt
        replace bi := bi.below hX bi.lt
        replace hg := hg.go hX
        replace hh := (hh.below hX).up hX.size
        replace hi := (hi.below hX).up hX.size
        replace hs := (hs.below hX).up hX.size
        have B_wi := ex_trans B_V24 hX
        by_cases hlt : k < rs.length ∧ wantTo (0) rs k = 0
        · have d1 : decide ((k : Int) < (rs.length : Int)) = true := decide_eq_true (by omega)
          have d2 : decide (k < rs.length) = true := decide_eq_true hlt.1
          have HW0 := Lib.hid hlt.2
          rw [hlt.2]
          obtain ⟨bj, oj, hA2, hbj, g0, g1, g2, g3, g4, g5, g6, g7, g8, g9⟩ := IsRds.at10 hs hlt.1
          have HA2 := Lib.hid hA2
          subst hA2
          clear g0 g1 g2 g3 g4 g5 g6 g7 g8
          have hltk := hlt.1
          clear hlt
          rcases Bool.eq_false_or_eq_true (gE rs k).broken with hb | hb
          · rw [hb] at g9
            have HW1 : Hid (wantTo (0) rs (k + 1) = 8) := Lib.hid (wantTo_yes HW0.out hb)
            clear hb
            go_wp2
            refine ⟨⟨⟨k + 1, by omega, HX, by rw [HW1.out]; exact exFrame (by kernel_rfl)⟩⟩, ?_⟩
            simp [intOf]
            omega
          · rw [hb] at g9
            have HW1 : Hid (wantTo (0) rs (k + 1) = 0) := Lib.hid (by rw [wantTo_no hb]; exact HW0.out)
            clear hb
            go_wp2
            refine ⟨⟨⟨k + 1, by omega, HX, by rw [HW1.out]; exact exFrame (by kernel_rfl)⟩⟩, ?_⟩
            simp [intOf]
            omega
        · have HWL : Hid (wantTo (0) rs k = wantTo (0) rs rs.length) := Lib.hid (by
            by_cases hk2 : k = rs.length
            · rw [hk2]
            · exact (wantTo_ne (fun e => hlt ⟨by omega, e⟩) hk).symm)
          have HST : Hid (k < rs.length → wantTo (0) rs k ≠ 0) := Lib.hid (fun h e => hlt ⟨h, e⟩)
          clear hlt
          by_cases hkl : k < rs.length
          · have d1 : decide ((k : Int) < (rs.length : Int)) = true := decide_eq_true (by omega)
            have d2 : decide (k < rs.length) = true := decide_eq_true hkl
            have hne := HST.out hkl
            have d3 : (wantTo (0) rs k == 0) = false := by simp [hne]
            have d4 : (wantTo (0) rs rs.length == 0) = false := by rw [← HWL.out]; exact d3
            clear hne
            rw [HN.out] at d4
            cases d4
          · have d1 : decide ((k : Int) < (rs.length : Int)) = false := decide_eq_false (by omega)
            have d2 : decide (k < rs.length) = false := decide_eq_false hkl
            clear d1 d2
            rw [HWL.out, HN.out]
            obtain ⟨bj, oj, hA2, hbj, g0, g1, g2, g3, g4, g5, g6, g7, g8, g9⟩ := IsRds.at10 hs hp0
            rw [Nat.zero_mul, Nat.add_zero] at g0 g1 g2 g3 g4 g5 g6 g7 g8 g9
            subst hA2
            go_upto_region 13 with fail
            rename_i K0 hK0
            have hrest : ∀ (V25 : World) (a : Act), Below wi.heap.size wi V25 → (∃ u : Nat → Value, a = ⟨List.toArray (u 0 :: .slice Ah h.length ch :: .slice Ai l.length ci :: .slice (some ⟨bj, oj, none⟩) rs.length cr :: .pointer (some ⟨pq1, 0, none⟩) :: u 5 :: u 6 :: u 7 :: .bool false :: .pointer (some ⟨pi, 0, none⟩) :: .int .i64 (refE t l (gE rs 0) (agreeB t.g h l off0)) :: .int .i64 (refE t l (gE rs 0) (agreeB t.g h l off0)) :: u 12 :: u 13 :: u 14 :: u 15 :: u 16 :: u 17 :: u 18 :: u 19 :: u 20 :: u 21 :: u 22 :: u 23 :: u 24 :: u 25 :: u 26 :: u 27 :: u 28 :: u 29 :: u 30 :: u 31 :: u 32 :: u 33 :: u 34 :: u 35 :: u 36 :: u 37 :: u 38 :: u 39 :: u 40 :: u 41 :: u 42 :: u 43 :: u 44 :: u 45 :: u 46 :: u 47 :: u 48 :: u 49 :: u 50 :: u 51 :: u 52 :: u 53 :: u 54 :: u 55 :: u 56 :: u 57 :: u 58 :: u 59 :: u 60 :: u 61 :: u 62 :: u 63 :: u 64 :: u 65 :: u 66 :: u 67 :: u 68 :: u 69 :: u 70 :: u 71 :: u 72 :: u 73 :: u 74 :: u 75 :: u 76 :: u 77 :: u 78 :: u 79 :: u 80 :: u 81 :: u 82 :: u 83 :: u 84 :: u 85 :: u 86 :: u 87 :: u 88 :: u 89 :: u 90 :: u 91 :: u 92 :: u 93 :: u 94 :: u 95 :: []), []⟩) → K0 a V25 := by
              rintro V25  a hX9   ⟨u, rfl⟩
              refine hK0 _ _ ?_
              clear hK0 K0
              replace q1 := q1.below hX9 q1.lt
              replace bi := bi.below hX9 bi.lt
              replace hg := hg.go hX9
              replace hh := (hh.below hX9).up hX9.size
              replace hi := (hi.below hX9).up hX9.size
              replace hs := (hs.below hX9).up hX9.size
              have B_V25 := ex_trans B_wi hX9
              have NG := ex_alloc (Below.refl V25.heap.size V25) (.cells #[.int .i64 0, .int .i64 0] 25)
              have q7 : Blk (V25.alloc (.cells #[.int .i64 0, .int .i64 0] 25)) V25.heap.size 25 #[.int .i64 0, .int .i64 0] := Blk.new _ _ _
              have lt_q1 := q1.lt
              have lt_bi := bi.lt
              go_upto_region 20 with fail
              obtain ⟨p7, hp7'⟩ : ∃ p, V25.heap.size = p := ⟨_, rfl⟩
              rw [hp7'] at q7 lt_q1 lt_bi ⊢
              have zp7 : w.heap.size ≤ p7 := by have := B_V25.size; omega
              clear hp7'
              have nq1_p7 : pq1 ≠ p7 := by omega
              clear lt_q1
              have nbi_p7 : pi ≠ p7 := by omega
              clear lt_bi
              replace q1 := q1.below NG q1.lt
              replace bi := bi.below NG bi.lt
              replace hg := hg.go NG
              replace hh := hh.go NG
              replace hi := hi.go NG
              replace hs := hs.go NG
              have B_V26 := ex_trans B_V25 NG
              clear NG
              generalize V25.alloc (.cells #[.int .i64 0, .int .i64 0] 25) = V26 at *
              have i0 := bi.cell 0
              have i1 := bi.cell 1
              have li := bi.lt
              simp at i0 i1
              have y0 := q7.cell 0
              have y1 := q7.cell 1
              have ly := q7.lt
              simp at y0 y1
              refine wp_region_ext (by kernel_rfl) (by kernel_rfl) ?_
              repeat (go_big_quiet_step ((first | (go_at_call 16; exact Calls.ext_of (sl_awake _)) | (go_at_call 31; exact Calls.ext_of (sr_to ⟨0, 0⟩ _)))))
              refine wpQuiet_nil ?_; intro _ hw'; obtain ⟨X, rfl⟩ := hw'
              go_wp2
              go_ret
              exact ⟨rfl, ex_trans B_V26 X.h⟩
            refine wp_region_ext_tq 7 (.quiet 0 (.quiet 1 (.quiet 2 (.quiet 3 (.quiet 4 (.quiet 5 (.loud 6 .done))))))) (by kernel_rfl) (by kernel_rfl) (by intro d _ _ _ _ h; cases d <;> exact h) ?_
            have D0 := (Below.refl wi.heap.size wi).drew
            repeat (refine tq_quiet rfl ?_; first | (refine wpQuiet_load_row rfl 29 _ rfl _ rfl 29 _ (0, 0) _ q1.ex Tryz.underlying29 rfl (by kernel_rfl) ?_; simp only [Act.put, List.setIfInBounds_toArray, List.set_cons_zero, List.set_cons_succ]; refine wpQuiet_nil ?_) | (go_big_quiet_step (fail); refine wpQuiet_nil ?_))
            refine tq_loud rfl ?_
            go_wp2_with fail
            refine (sr_refused t Ab Ad cb cd Ah Ai ch ci h l (gE rs 0) _ (hg.go (((Below.refl wi.heap.size wi)).drew)) (hh.go (((Below.refl wi.heap.size wi)).drew)) (hi.go (((Below.refl wi.heap.size wi)).drew)) HOK.out HBD.out (by omega) hday).mono ?_
            rintro e V27 ⟨rfl, hV27⟩
            have N6 := ex_trans ((Below.refl wi.heap.size wi)).drew hV27
            go_wp2_with fail
            refine ⟨inEx N6, ?_⟩
            refine tq_done (r := [_]) rfl ?_
            go_wp2_with fail
            exact hrest V27  _ (N6)  (exFrame (by kernel_rfl))
      · clear CA
        have HU := Lib.hid hu
        have HBL := Lib.hid hb
        have HN := Lib.hid hw
        obtain ⟨hp0, hp5, hrd, hd0, hd1⟩ := bathL_ok hb
        obtain ⟨k0, hk0⟩ : ∃ k : Nat, (gE rs 0).day = (k : Int) := ⟨(gE rs 0).day.toNat, by omega⟩
        have hkl0 : k0 < h.length := by omega
        have hday : 0 ≤ (gE rs 0).day ∧ (gE rs 0).day ≤ 1000000 := by omega
        have HK0 := Lib.hid hk0
        have HKT : Hid ((gE rs 0).day.toNat = k0) := Lib.hid (by omega)
        have HRD := Lib.hid hrd
        have HOK := Lib.hid (ok_of_iced (useE_0 hu).2)
        have HBD := Lib.hid (iced_bd (useE_0 hu).2)
        have HTB := Lib.hid (ck_bd (useE_0 hu).1)
        clear hk0 hd0 hd1 hrd
        refine Paused.mk ?_
        refine wpList_load_row rfl 29 _ rfl _ rfl 29 _ (0, 0) _ (q1) Tryz.underlying29 rfl (by kernel_rfl) ?_
        go_wp2_with fail
        refine (sr_lived t Ab Ad cb cd Ah Ai ch ci h l _ hg hh hi (by omega)).mono ?_
        rintro e V28 ⟨rfl, hV28⟩
        replace q1 := q1.below hV28 q1.lt
        replace bi := bi.below hV28 bi.lt
        replace hg := hg.go hV28
        replace hh := (hh.below hV28).up hV28.size
        replace hi := (hi.below hV28).up hV28.size
        replace hs := (hs.below hV28).up hV28.size
        have B_V28 := ex_trans B_V11 hV28
        rw [HU.out]
        go_wp2_with fail
        refine (sl_bath Ah Ar h.length ch cr rs _ hs (by omega)).mono ?_
        rintro e V29 ⟨rfl, hV29⟩
        replace q1 := q1.below hV29 q1.lt
        replace bi := bi.below hV29 bi.lt
        replace hg := hg.go hV29
        replace hh := (hh.below hV29).up hV29.size
        replace hi := (hi.below hV29).up hV29.size
        replace hs := (hs.below hV29).up hV29.size
        have B_V29 := ex_trans B_V28 hV29
        rw [HBL.out]
        have HR := Lib.hid hr
        have HZ := Lib.hid hz
        have HE5 := Lib.hid hE
        have HAG := Lib.hid (ref_ag hr)
        clear hu hb hw hr hz hE
        go_wp2_with fail
        refine wp_loop (fun a wq => Rel (fun a wq => ∃ k : Nat, k ≤ rs.length ∧ Below V29.heap.size V29 wq ∧ ∃ u : Nat → Value, a = ⟨List.toArray (u 0 :: .slice Ah h.length ch :: .slice Ai l.length ci :: .slice Ar rs.length cr :: .pointer (some ⟨pq1, 0, none⟩) :: u 5 :: u 6 :: u 7 :: .bool false :: .pointer (some ⟨pi, 0, none⟩) :: .int .i64 ev1 :: .int .i64 (wantTo (0) rs k) :: .int .i64 (k : Int) :: u 13 :: u 14 :: u 15 :: u 16 :: u 17 :: u 18 :: u 19 :: u 20 :: u 21 :: u 22 :: u 23 :: u 24 :: u 25 :: u 26 :: u 27 :: u 28 :: u 29 :: u 30 :: u 31 :: u 32 :: u 33 :: u 34 :: u 35 :: u 36 :: u 37 :: u 38 :: u 39 :: u 40 :: u 41 :: u 42 :: u 43 :: u 44 :: u 45 :: u 46 :: u 47 :: u 48 :: u 49 :: u 50 :: u 51 :: u 52 :: u 53 :: u 54 :: u 55 :: u 56 :: u 57 :: u 58 :: u 59 :: u 60 :: u 61 :: u 62 :: u 63 :: u 64 :: u 65 :: u 66 :: u 67 :: u 68 :: u 69 :: u 70 :: u 71 :: u 72 :: u 73 :: u 74 :: u 75 :: u 76 :: u 77 :: u 78 :: u 79 :: u 80 :: u 81 :: u 82 :: u 83 :: u 84 :: u 85 :: u 86 :: u 87 :: u 88 :: u 89 :: u 90 :: u 91 :: u 92 :: u 93 :: u 94 :: u 95 :: []), []⟩) a wq) (fun a _ => rs.length - (intOf (a.tmps.getD 12 undef)).toNat) ⟨⟨0, by omega, Below.refl _ _, by rw [wantTo_0]; exact exFrame (by kernel_rfl)⟩⟩ ?_
        rintro a wi ⟨⟨k, hk, hX, u, rfl⟩⟩
        have HX := hX
        replace q1 := q1.below hX q1.lt
        replace bi := bi.below hX bi.lt
        replace hg := hg.go hX
        replace hh := (hh.below hX).up hX.size
        replace hi := (hi.below hX).up hX.size
        replace hs := (hs.below hX).up hX.size
        have B_wi := ex_trans B_V29 hX
        by_cases hlt : k < rs.length ∧ wantTo (0) rs k = 0
        · have d1 : decide ((k : Int) < (rs.length : Int)) = true := decide_eq_true (by omega)
          have d2 : decide (k < rs.length) = true := decide_eq_true hlt.1
          have HW0 := Lib.hid hlt.2
          rw [hlt.2]
          obtain ⟨bj, oj, hA2, hbj, g0, g1, g2, g3, g4, g5, g6, g7, g8, g9⟩ := IsRds.at10 hs hlt.1
          have HA2 := Lib.hid hA2
          subst hA2
          clear g0 g1 g2 g3 g4 g5 g6 g7 g8
          have hltk := hlt.1
          clear hlt
          rcases Bool.eq_false_or_eq_true (gE rs k).broken with hb | hb
          · rw [hb] at g9
            have HW1 : Hid (wantTo (0) rs (k + 1) = 8) := Lib.hid (wantTo_yes HW0.out hb)
            clear hb
            go_wp2
            refine ⟨⟨⟨k + 1, by omega, HX, by rw [HW1.out]; exact exFrame (by kernel_rfl)⟩⟩, ?_⟩
            simp [intOf]
            omega
          · rw [hb] at g9
            have HW1 : Hid (wantTo (0) rs (k + 1) = 0) := Lib.hid (by rw [wantTo_no hb]; exact HW0.out)
            clear hb
            go_wp2
            refine ⟨⟨⟨k + 1, by omega, HX, by rw [HW1.out]; exact exFrame (by kernel_rfl)⟩⟩, ?_⟩
            simp [intOf]
            omega
        · have HWL : Hid (wantTo (0) rs k = wantTo (0) rs rs.length) := Lib.hid (by
            by_cases hk2 : k = rs.length
            · rw [hk2]
            · exact (wantTo_ne (fun e => hlt ⟨by omega, e⟩) hk).symm)
          have HST : Hid (k < rs.length → wantTo (0) rs k ≠ 0) := Lib.hid (fun h e => hlt ⟨h, e⟩)
          clear hlt
          by_cases hkl : k < rs.length
          · have d1 : decide ((k : Int) < (rs.length : Int)) = true := decide_eq_true (by omega)
            have d2 : decide (k < rs.length) = true := decide_eq_true hkl
            have hne := HST.out hkl
            have d3 : (wantTo (0) rs k == 0) = false := by simp [hne]
            have d4 : (wantTo (0) rs rs.length == 0) = false := by rw [← HWL.out]; exact d3
            clear hne
            rw [HN.out] at d4
            cases d4
          · have d1 : decide ((k : Int) < (rs.length : Int)) = false := decide_eq_false (by omega)
            have d2 : decide (k < rs.length) = false := decide_eq_false hkl
            clear d1 d2
            rw [HWL.out, HN.out]
            obtain ⟨bj, oj, hA2, hbj, g0, g1, g2, g3, g4, g5, g6, g7, g8, g9⟩ := IsRds.at10 hs hp0
            rw [Nat.zero_mul, Nat.add_zero] at g0 g1 g2 g3 g4 g5 g6 g7 g8 g9
            subst hA2
            go_upto_region 13 with fail
            rename_i K0 hK0
            have hrest : ∀ (V30 : World) (a : Act), Below wi.heap.size wi V30 → (∃ u : Nat → Value, a = ⟨List.toArray (u 0 :: .slice Ah h.length ch :: .slice Ai l.length ci :: .slice (some ⟨bj, oj, none⟩) rs.length cr :: .pointer (some ⟨pq1, 0, none⟩) :: u 5 :: u 6 :: u 7 :: .bool false :: .pointer (some ⟨pi, 0, none⟩) :: .int .i64 ev1 :: .int .i64 (refE t l (gE rs 0) (agreeB t.g h l off0)) :: u 12 :: u 13 :: u 14 :: u 15 :: u 16 :: u 17 :: u 18 :: u 19 :: u 20 :: u 21 :: u 22 :: u 23 :: u 24 :: u 25 :: u 26 :: u 27 :: u 28 :: u 29 :: u 30 :: u 31 :: u 32 :: u 33 :: u 34 :: u 35 :: u 36 :: u 37 :: u 38 :: u 39 :: u 40 :: u 41 :: u 42 :: u 43 :: u 44 :: u 45 :: u 46 :: u 47 :: u 48 :: u 49 :: u 50 :: u 51 :: u 52 :: u 53 :: u 54 :: u 55 :: u 56 :: u 57 :: u 58 :: u 59 :: u 60 :: u 61 :: u 62 :: u 63 :: u 64 :: u 65 :: u 66 :: u 67 :: u 68 :: u 69 :: u 70 :: u 71 :: u 72 :: u 73 :: u 74 :: u 75 :: u 76 :: u 77 :: u 78 :: u 79 :: u 80 :: u 81 :: u 82 :: u 83 :: u 84 :: u 85 :: u 86 :: u 87 :: u 88 :: u 89 :: u 90 :: u 91 :: u 92 :: u 93 :: u 94 :: u 95 :: []), []⟩) → K0 a V30 := by
              rintro V30  a hX9   ⟨u, rfl⟩
              refine hK0 _ _ ?_
              clear hK0 K0
              replace q1 := q1.below hX9 q1.lt
              replace bi := bi.below hX9 bi.lt
              replace hg := hg.go hX9
              replace hh := (hh.below hX9).up hX9.size
              replace hi := (hi.below hX9).up hX9.size
              replace hs := (hs.below hX9).up hX9.size
              have B_V30 := ex_trans B_wi hX9
              rw [HR.out]
              have NG := ex_alloc (Below.refl V30.heap.size V30) (.cells #[.int .i64 0, .int .i64 0] 25)
              have q7 : Blk (V30.alloc (.cells #[.int .i64 0, .int .i64 0] 25)) V30.heap.size 25 #[.int .i64 0, .int .i64 0] := Blk.new _ _ _
              have lt_q1 := q1.lt
              have lt_bi := bi.lt
              go_upto_region 17 with fail
              obtain ⟨p7, hp7'⟩ : ∃ p, V30.heap.size = p := ⟨_, rfl⟩
              rw [hp7'] at q7 lt_q1 lt_bi ⊢
              have zp7 : w.heap.size ≤ p7 := by have := B_V30.size; omega
              clear hp7'
              have nq1_p7 : pq1 ≠ p7 := by omega
              clear lt_q1
              have nbi_p7 : pi ≠ p7 := by omega
              clear lt_bi
              replace q1 := q1.below NG q1.lt
              replace bi := bi.below NG bi.lt
              replace hg := hg.go NG
              replace hh := hh.go NG
              replace hi := hi.go NG
              replace hs := hs.go NG
              have B_V31 := ex_trans B_V30 NG
              clear NG
              generalize V30.alloc (.cells #[.int .i64 0, .int .i64 0] 25) = V31 at *
              go_wp2_with (refine pause_at 74 rfl ?_)
              refine Paused.mk ?_
              refine wpList_load_row rfl 29 _ rfl _ rfl 29 _ (0, 0) _ (q1) Tryz.underlying29 rfl (by kernel_rfl) ?_
              go_wp2_with fail
              refine (sr_same t Ab Ad cb cd Ah Ai (some ⟨bj, oj, none⟩) ch ci cr h l rs zs k0 _ hg hh hi hs HTB.out HRD.out hp0 (by omega) HOK.out HBD.out (by omega) HZ.out HAG.out HK0.out hkl0).mono ?_
              rintro e V32 ⟨hsm, hV32⟩
              replace q1 := q1.below hV32 q1.lt
              replace bi := bi.below hV32 bi.lt
              replace hg := hg.go hV32
              replace hh := (hh.below hV32).up hV32.size
              replace hi := (hi.below hV32).up hV32.size
              replace hs := (hs.below hV32).up hV32.size
              replace q7 := q7.below hV32 q7.lt
              have B_V32 := ex_trans B_V31 hV32
              obtain ⟨⟨o, b, rfl, hse⟩⟩ := hsm.out
              have hfin := HE5.out o b (by rw [HKT.out]; exact hse)
              clear hsm hse
              rcases hfin with ⟨rfl, rfl, rfl⟩ | ⟨rfl, rfl, rfl⟩
              · have u0 := q7.cell 0
                have u1 := q7.cell 1
                have fu := q7.frozen0
                have lu := q7.lt
                simp at u0 u1
                go_upto_region 19 with fail
                clear fu lu u0 u1
                clear q1
                clear hg
                clear hh
                clear hi
                clear hs
                replace q7 := q7.set_ 0 (.int .i64 o.lo)
                replace bi := bi.far (p := ⟨p7, 0, none⟩) nbi_p7 (.int .i64 o.lo)
                replace q7 := q7.set_ 1 (.int .i64 o.hi)
                replace bi := bi.far (p := ⟨p7, 1, none⟩) nbi_p7 (.int .i64 o.hi)
                simp only [List.setIfInBounds_toArray, List.set_cons_zero, List.set_cons_succ] at q7
                have B_V33 := ex_set (p := ⟨p7, 1, none⟩) (ex_set (p := ⟨p7, 0, none⟩) (B_V32) zp7 (.int .i64 o.lo)) zp7 (.int .i64 o.hi)
                generalize ((V32.setCell ⟨p7, 0, none⟩ (.int .i64 o.lo)).setCell ⟨p7, 1, none⟩ (.int .i64 o.hi)) = V33 at *
                have u0 := q7.cell 0
                have u1 := q7.cell 1
                have fu := q7.frozen0
                have lu := q7.lt
                simp at u0 u1
                go_upto_region 20 with fail
                clear fu lu u0 u1
                replace q7 := q7.set_ 0 (.int .i64 0)
                replace bi := bi.far (p := ⟨p7, 0, none⟩) nbi_p7 (.int .i64 0)
                replace q7 := q7.set_ 1 (.int .i64 0)
                replace bi := bi.far (p := ⟨p7, 1, none⟩) nbi_p7 (.int .i64 0)
                simp only [List.setIfInBounds_toArray, List.set_cons_zero, List.set_cons_succ] at q7
                have B_V34 := ex_set (p := ⟨p7, 1, none⟩) (ex_set (p := ⟨p7, 0, none⟩) (B_V33) zp7 (.int .i64 0)) zp7 (.int .i64 0)
                generalize ((V33.setCell ⟨p7, 0, none⟩ (.int .i64 0)).setCell ⟨p7, 1, none⟩ (.int .i64 0)) = V34 at *
                have i0 := bi.cell 0
                have i1 := bi.cell 1
                have li := bi.lt
                simp at i0 i1
                have y0 := q7.cell 0
                have y1 := q7.cell 1
                have ly := q7.lt
                simp at y0 y1
                refine wp_region_ext (by kernel_rfl) (by kernel_rfl) ?_
                repeat (go_big_quiet_step ((first | (go_at_call 16; exact Calls.ext_of (sl_awake _)) | (go_at_call 31; exact Calls.ext_of (sr_to ⟨0, 0⟩ _)))))
                refine wpQuiet_nil ?_; intro _ hw'; obtain ⟨X, rfl⟩ := hw'
                go_wp2
                go_ret
                exact ⟨rfl, ex_trans B_V34 X.h⟩
              · have u0 := q7.cell 0
                have u1 := q7.cell 1
                have fu := q7.frozen0
                have lu := q7.lt
                simp at u0 u1
                go_upto_region 20 with fail
                clear fu lu u0 u1
                clear q1
                clear hg
                clear hh
                clear hi
                clear hs
                replace q7 := q7.set_ 0 (.int .i64 R1.lo)
                replace bi := bi.far (p := ⟨p7, 0, none⟩) nbi_p7 (.int .i64 R1.lo)
                replace q7 := q7.set_ 1 (.int .i64 R1.hi)
                replace bi := bi.far (p := ⟨p7, 1, none⟩) nbi_p7 (.int .i64 R1.hi)
                simp only [List.setIfInBounds_toArray, List.set_cons_zero, List.set_cons_succ] at q7
                have B_V35 := ex_set (p := ⟨p7, 1, none⟩) (ex_set (p := ⟨p7, 0, none⟩) (B_V32) zp7 (.int .i64 R1.lo)) zp7 (.int .i64 R1.hi)
                generalize ((V32.setCell ⟨p7, 0, none⟩ (.int .i64 R1.lo)).setCell ⟨p7, 1, none⟩ (.int .i64 R1.hi)) = V35 at *
                have i0 := bi.cell 0
                have i1 := bi.cell 1
                have li := bi.lt
                simp at i0 i1
                have y0 := q7.cell 0
                have y1 := q7.cell 1
                have ly := q7.lt
                simp at y0 y1
                refine wp_region_ext (by kernel_rfl) (by kernel_rfl) ?_
                repeat (go_big_quiet_step ((first | (go_at_call 16; exact Calls.ext_of (sl_awake _)) | (go_at_call 31; exact Calls.ext_of (sr_to R1 _)))))
                refine wpQuiet_nil ?_; intro _ hw'; obtain ⟨X, rfl⟩ := hw'
                go_wp2
                go_ret
                exact ⟨rfl, ex_trans B_V35 X.h⟩
            refine wp_region_ext_tq 7 (.quiet 0 (.quiet 1 (.quiet 2 (.quiet 3 (.quiet 4 (.quiet 5 (.loud 6 .done))))))) (by kernel_rfl) (by kernel_rfl) (by intro d _ _ _ _ h; cases d <;> exact h) ?_
            have D0 := (Below.refl wi.heap.size wi).drew
            repeat (refine tq_quiet rfl ?_; first | (refine wpQuiet_load_row rfl 29 _ rfl _ rfl 29 _ (0, 0) _ q1.ex Tryz.underlying29 rfl (by kernel_rfl) ?_; simp only [Act.put, List.setIfInBounds_toArray, List.set_cons_zero, List.set_cons_succ]; refine wpQuiet_nil ?_) | (go_big_quiet_step (fail); refine wpQuiet_nil ?_))
            refine tq_loud rfl ?_
            go_wp2_with fail
            refine (sr_refused t Ab Ad cb cd Ah Ai ch ci h l (gE rs 0) _ (hg.go (((Below.refl wi.heap.size wi)).drew)) (hh.go (((Below.refl wi.heap.size wi)).drew)) (hi.go (((Below.refl wi.heap.size wi)).drew)) HOK.out HBD.out (by omega) hday).mono ?_
            rintro e V36 ⟨rfl, hV36⟩
            have N6 := ex_trans ((Below.refl wi.heap.size wi)).drew hV36
            go_wp2_with fail
            refine ⟨inEx N6, ?_⟩
            refine tq_done (r := [_]) rfl ?_
            go_wp2_with fail
            exact hrest V36  _ (N6)  (exFrame (by kernel_rfl))


end Go.Proofs.YtkaogjhnogkcdaaGreat
end
