/- Spill: moves and weighings that may be; all of a list; CheckWorks (walks). · Spill: spots as keys; a stock's range made narrower (walk). · Spill: nets in memory. · Spill: a spot's number (walk). · Spill: an arc is laid (walk). -/
import Derived.Test.YthihdiilokdidaaV2
import Derived.Test.YthihdiilokdidaaV3
set_option linter.unusedVariables false
set_option linter.unusedSimpArgs false
set_option linter.unusedSectionVars false
section
namespace Go.Proofs.Ythihdiilokdidaa
open Go.RowKit
attribute [local go_sem] Ex.cell? Ex.frozen?

set_option maxRecDepth 100000 in
set_option maxHeartbeats 3200000 in
theorem move_any (s : Ws) (Ar Am Aw : Option Addr) (cr cm cw : Nat) (m : Mv) (w : World) (hr : s.rooms.length ≤ 1000000) (hd : 1 ≤ s.days ∧ s.days ≤ 6) :
  Calls Try.prog 90 #[.agg #[.slice Ar s.rooms.length cr, .int .i64 s.days, .slice Am s.moves.length cm, .slice Aw s.wgs.length cw], .agg #[.int .i64 m.day, .int .i64 m.src, .int .i64 m.dst, .int .i64 m.g.lo, .int .i64 m.g.hi]] w fun e w' => e = .returned (.bool (moveB s.rooms.length s.days m)) ∧ Below w.heap.size w w' := by
 obtain ⟨day, src, dst, ⟨glo, ghi⟩⟩ := m
 have hb1 := ex_alloc (ex_alloc (Below.refl w.heap.size w) (.cells #[.slice Ar s.rooms.length cr, .int .i64 s.days, .slice Am s.moves.length cm, .slice Aw s.wgs.length cw] 42)) (.cells #[.int .i64 day, .int .i64 src, .int .i64 dst, .int .i64 glo, .int .i64 ghi] 122)
 have qw : Blk ((w.alloc (.cells #[.slice Ar s.rooms.length cr, .int .i64 s.days, .slice Am s.moves.length cm, .slice Aw s.wgs.length cw] 42)).alloc (.cells #[.int .i64 day, .int .i64 src, .int .i64 dst, .int .i64 glo, .int .i64 ghi] 122)) w.heap.size 42 #[.slice Ar s.rooms.length cr, .int .i64 s.days, .slice Am s.moves.length cm, .slice Aw s.wgs.length cw] := (Blk.new _ _ _).alloc _
 have qm : Blk ((w.alloc (.cells #[.slice Ar s.rooms.length cr, .int .i64 s.days, .slice Am s.moves.length cm, .slice Aw s.wgs.length cw] 42)).alloc (.cells #[.int .i64 day, .int .i64 src, .int .i64 dst, .int .i64 glo, .int .i64 ghi] 122)) (w.heap.size + 1) 122 #[.int .i64 day, .int .i64 src, .int .i64 dst, .int .i64 glo, .int .i64 ghi] := Blk.new' _ _ _ (by simp)
 go_enter Try.func90, Try.ntmps90
 go_wp2_with fail
 generalize (w.alloc (.cells #[.slice Ar s.rooms.length cr, .int .i64 s.days, .slice Am s.moves.length cm, .slice Aw s.wgs.length cw] 42)).alloc (.cells #[.int .i64 day, .int .i64 src, .int .i64 dst, .int .i64 glo, .int .i64 ghi] 122) = V at *
 obtain ⟨pw, hpw⟩ : ∃ p, w.heap.size = p := ⟨_, rfl⟩
 rw [hpw] at qw qm ⊢
 obtain ⟨pm, hpm⟩ : ∃ p, pw + 1 = p := ⟨_, rfl⟩
 rw [hpm] at qm ⊢
 clear hpm
 have aV0 : V.cell? ⟨pw, 0, none⟩ = some (.slice Ar s.rooms.length cr) := qw.cell 0
 have aV1 : V.cell? ⟨pw, 1, none⟩ = some (.int .i64 s.days) := qw.cell 1
 have aV2 : V.cell? ⟨pw, 2, none⟩ = some (.slice Am s.moves.length cm) := qw.cell 2
 have aV3 : V.cell? ⟨pw, 3, none⟩ = some (.slice Aw s.wgs.length cw) := qw.cell 3
 have bV0 : V.cell? ⟨pm, 0, none⟩ = some (.int .i64 day) := qm.cell 0
 have bV1 : V.cell? ⟨pm, 1, none⟩ = some (.int .i64 src) := qm.cell 1
 have bV2 : V.cell? ⟨pm, 2, none⟩ = some (.int .i64 dst) := qm.cell 2
 have bV3 : V.cell? ⟨pm, 3, none⟩ = some (.int .i64 glo) := qm.cell 3
 have bV4 : V.cell? ⟨pm, 4, none⟩ = some (.int .i64 ghi) := qm.cell 4
 have alV := qw.lt
 have blV := qm.lt
 refine (dayN_any s Ar Am Aw cr cm cw day V hd).mono ?_
 rintro e U1 ⟨rfl, hU1⟩
 replace qw := qw.below hU1 qw.lt
 replace qm := qm.below hU1 qm.lt
 have B_U1 := ex_trans hb1 hU1
 cases hday : inB day 0 (s.days - 1)
 ·
  have aU10 : U1.cell? ⟨pw, 0, none⟩ = some (.slice Ar s.rooms.length cr) := qw.cell 0
  have aU11 : U1.cell? ⟨pw, 1, none⟩ = some (.int .i64 s.days) := qw.cell 1
  have aU12 : U1.cell? ⟨pw, 2, none⟩ = some (.slice Am s.moves.length cm) := qw.cell 2
  have aU13 : U1.cell? ⟨pw, 3, none⟩ = some (.slice Aw s.wgs.length cw) := qw.cell 3
  have bU10 : U1.cell? ⟨pm, 0, none⟩ = some (.int .i64 day) := qm.cell 0
  have bU11 : U1.cell? ⟨pm, 1, none⟩ = some (.int .i64 src) := qm.cell 1
  have bU12 : U1.cell? ⟨pm, 2, none⟩ = some (.int .i64 dst) := qm.cell 2
  have bU13 : U1.cell? ⟨pm, 3, none⟩ = some (.int .i64 glo) := qm.cell 3
  have bU14 : U1.cell? ⟨pm, 4, none⟩ = some (.int .i64 ghi) := qm.cell 4
  have alU1 := qw.lt
  have blU1 := qm.lt
  go_wp2
  go_ret
  exact ⟨ret_bool (by simp [moveB, hday]), B_U1⟩
 ·
  have aU10 : U1.cell? ⟨pw, 0, none⟩ = some (.slice Ar s.rooms.length cr) := qw.cell 0
  have aU11 : U1.cell? ⟨pw, 1, none⟩ = some (.int .i64 s.days) := qw.cell 1
  have aU12 : U1.cell? ⟨pw, 2, none⟩ = some (.slice Am s.moves.length cm) := qw.cell 2
  have aU13 : U1.cell? ⟨pw, 3, none⟩ = some (.slice Aw s.wgs.length cw) := qw.cell 3
  have bU10 : U1.cell? ⟨pm, 0, none⟩ = some (.int .i64 day) := qm.cell 0
  have bU11 : U1.cell? ⟨pm, 1, none⟩ = some (.int .i64 src) := qm.cell 1
  have bU12 : U1.cell? ⟨pm, 2, none⟩ = some (.int .i64 dst) := qm.cell 2
  have bU13 : U1.cell? ⟨pm, 3, none⟩ = some (.int .i64 glo) := qm.cell 3
  have bU14 : U1.cell? ⟨pm, 4, none⟩ = some (.int .i64 ghi) := qm.cell 4
  have alU1 := qw.lt
  have blU1 := qm.lt
  by_cases hvsrc : src = -1
  ·
   subst hvsrc
   by_cases hvdst : dst = -1
   ·
    subst hvdst
    go_wp2
    go_ret
    exact ⟨ret_bool (by simp [moveB, sideB, hday]), B_U1⟩
   ·
    have hwdst : (dst == (-1 : Int)) = false := by simp [hvdst]
    go_wp2_with fail
    refine (roomN_any s Ar Am Aw cr cm cw dst U1 hr).mono ?_
    rintro e U2 ⟨rfl, hU2⟩
    replace qw := qw.below hU2 qw.lt
    replace qm := qm.below hU2 qm.lt
    have B_U2 := ex_trans B_U1 hU2
    cases hdst : inB dst 0 ((s.rooms.length : Int) - 1)
    ·
     have aU20 : U2.cell? ⟨pw, 0, none⟩ = some (.slice Ar s.rooms.length cr) := qw.cell 0
     have aU21 : U2.cell? ⟨pw, 1, none⟩ = some (.int .i64 s.days) := qw.cell 1
     have aU22 : U2.cell? ⟨pw, 2, none⟩ = some (.slice Am s.moves.length cm) := qw.cell 2
     have aU23 : U2.cell? ⟨pw, 3, none⟩ = some (.slice Aw s.wgs.length cw) := qw.cell 3
     have bU20 : U2.cell? ⟨pm, 0, none⟩ = some (.int .i64 day) := qm.cell 0
     have bU21 : U2.cell? ⟨pm, 1, none⟩ = some (.int .i64 (-1)) := qm.cell 1
     have bU22 : U2.cell? ⟨pm, 2, none⟩ = some (.int .i64 dst) := qm.cell 2
     have bU23 : U2.cell? ⟨pm, 3, none⟩ = some (.int .i64 glo) := qm.cell 3
     have bU24 : U2.cell? ⟨pm, 4, none⟩ = some (.int .i64 ghi) := qm.cell 4
     have alU2 := qw.lt
     have blU2 := qm.lt
     go_wp2
     go_ret
     exact ⟨ret_bool (by simp [moveB, sideB, hday, hvdst, hdst]), B_U2⟩
    ·
     have aU20 : U2.cell? ⟨pw, 0, none⟩ = some (.slice Ar s.rooms.length cr) := qw.cell 0
     have aU21 : U2.cell? ⟨pw, 1, none⟩ = some (.int .i64 s.days) := qw.cell 1
     have aU22 : U2.cell? ⟨pw, 2, none⟩ = some (.slice Am s.moves.length cm) := qw.cell 2
     have aU23 : U2.cell? ⟨pw, 3, none⟩ = some (.slice Aw s.wgs.length cw) := qw.cell 3
     have bU20 : U2.cell? ⟨pm, 0, none⟩ = some (.int .i64 day) := qm.cell 0
     have bU21 : U2.cell? ⟨pm, 1, none⟩ = some (.int .i64 (-1)) := qm.cell 1
     have bU22 : U2.cell? ⟨pm, 2, none⟩ = some (.int .i64 dst) := qm.cell 2
     have bU23 : U2.cell? ⟨pm, 3, none⟩ = some (.int .i64 glo) := qm.cell 3
     have bU24 : U2.cell? ⟨pm, 4, none⟩ = some (.int .i64 ghi) := qm.cell 4
     have alU2 := qw.lt
     have blU2 := qm.lt
     by_cases hne : (-1 : Int) = dst
     ·
      have hnw : ((-1 : Int) != dst) = false := by simp [hne]
      have HNE := Lib.hid hne
      clear hne
      go_wp2
      go_ret
      exact ⟨ret_bool (by simp [moveB, sideB, hday, hvdst, hdst, HNE.out]), B_U2⟩
     ·
      have hnw : ((-1 : Int) != dst) = true := by simp [hne]
      have HNE := Lib.hid hne
      clear hne
      go_wp2_with fail
      refine (toR_any glo ghi 2000 U2).mono ?_
      rintro e U3 ⟨rfl, hU3⟩
      replace qw := qw.below hU3 qw.lt
      replace qm := qm.below hU3 qm.lt
      have B_U3 := ex_trans B_U2 hU3
      cases hto : toB glo ghi 2000
      ·
       have aU30 : U3.cell? ⟨pw, 0, none⟩ = some (.slice Ar s.rooms.length cr) := qw.cell 0
       have aU31 : U3.cell? ⟨pw, 1, none⟩ = some (.int .i64 s.days) := qw.cell 1
       have aU32 : U3.cell? ⟨pw, 2, none⟩ = some (.slice Am s.moves.length cm) := qw.cell 2
       have aU33 : U3.cell? ⟨pw, 3, none⟩ = some (.slice Aw s.wgs.length cw) := qw.cell 3
       have bU30 : U3.cell? ⟨pm, 0, none⟩ = some (.int .i64 day) := qm.cell 0
       have bU31 : U3.cell? ⟨pm, 1, none⟩ = some (.int .i64 (-1)) := qm.cell 1
       have bU32 : U3.cell? ⟨pm, 2, none⟩ = some (.int .i64 dst) := qm.cell 2
       have bU33 : U3.cell? ⟨pm, 3, none⟩ = some (.int .i64 glo) := qm.cell 3
       have bU34 : U3.cell? ⟨pm, 4, none⟩ = some (.int .i64 ghi) := qm.cell 4
       have alU3 := qw.lt
       have blU3 := qm.lt
       go_wp2
       go_ret
       exact ⟨ret_bool (by simp [moveB, sideB, hday, hvdst, hdst, HNE.out, hto]), B_U3⟩
      ·
       have aU30 : U3.cell? ⟨pw, 0, none⟩ = some (.slice Ar s.rooms.length cr) := qw.cell 0
       have aU31 : U3.cell? ⟨pw, 1, none⟩ = some (.int .i64 s.days) := qw.cell 1
       have aU32 : U3.cell? ⟨pw, 2, none⟩ = some (.slice Am s.moves.length cm) := qw.cell 2
       have aU33 : U3.cell? ⟨pw, 3, none⟩ = some (.slice Aw s.wgs.length cw) := qw.cell 3
       have bU30 : U3.cell? ⟨pm, 0, none⟩ = some (.int .i64 day) := qm.cell 0
       have bU31 : U3.cell? ⟨pm, 1, none⟩ = some (.int .i64 (-1)) := qm.cell 1
       have bU32 : U3.cell? ⟨pm, 2, none⟩ = some (.int .i64 dst) := qm.cell 2
       have bU33 : U3.cell? ⟨pm, 3, none⟩ = some (.int .i64 glo) := qm.cell 3
       have bU34 : U3.cell? ⟨pm, 4, none⟩ = some (.int .i64 ghi) := qm.cell 4
       have alU3 := qw.lt
       have blU3 := qm.lt
       go_wp2
       go_ret
       exact ⟨ret_bool (by simp [moveB, sideB, hday, hvdst, hdst, HNE.out, hto]), B_U3⟩
  ·
   have hwsrc : (src == (-1 : Int)) = false := by simp [hvsrc]
   go_wp2_with fail
   refine (roomN_any s Ar Am Aw cr cm cw src U1 hr).mono ?_
   rintro e U4 ⟨rfl, hU4⟩
   replace qw := qw.below hU4 qw.lt
   replace qm := qm.below hU4 qm.lt
   have B_U4 := ex_trans B_U1 hU4
   cases hsrc : inB src 0 ((s.rooms.length : Int) - 1)
   ·
    have aU40 : U4.cell? ⟨pw, 0, none⟩ = some (.slice Ar s.rooms.length cr) := qw.cell 0
    have aU41 : U4.cell? ⟨pw, 1, none⟩ = some (.int .i64 s.days) := qw.cell 1
    have aU42 : U4.cell? ⟨pw, 2, none⟩ = some (.slice Am s.moves.length cm) := qw.cell 2
    have aU43 : U4.cell? ⟨pw, 3, none⟩ = some (.slice Aw s.wgs.length cw) := qw.cell 3
    have bU40 : U4.cell? ⟨pm, 0, none⟩ = some (.int .i64 day) := qm.cell 0
    have bU41 : U4.cell? ⟨pm, 1, none⟩ = some (.int .i64 src) := qm.cell 1
    have bU42 : U4.cell? ⟨pm, 2, none⟩ = some (.int .i64 dst) := qm.cell 2
    have bU43 : U4.cell? ⟨pm, 3, none⟩ = some (.int .i64 glo) := qm.cell 3
    have bU44 : U4.cell? ⟨pm, 4, none⟩ = some (.int .i64 ghi) := qm.cell 4
    have alU4 := qw.lt
    have blU4 := qm.lt
    go_wp2
    go_ret
    exact ⟨ret_bool (by simp [moveB, sideB, hday, hvsrc, hsrc]), B_U4⟩
   ·
    have aU40 : U4.cell? ⟨pw, 0, none⟩ = some (.slice Ar s.rooms.length cr) := qw.cell 0
    have aU41 : U4.cell? ⟨pw, 1, none⟩ = some (.int .i64 s.days) := qw.cell 1
    have aU42 : U4.cell? ⟨pw, 2, none⟩ = some (.slice Am s.moves.length cm) := qw.cell 2
    have aU43 : U4.cell? ⟨pw, 3, none⟩ = some (.slice Aw s.wgs.length cw) := qw.cell 3
    have bU40 : U4.cell? ⟨pm, 0, none⟩ = some (.int .i64 day) := qm.cell 0
    have bU41 : U4.cell? ⟨pm, 1, none⟩ = some (.int .i64 src) := qm.cell 1
    have bU42 : U4.cell? ⟨pm, 2, none⟩ = some (.int .i64 dst) := qm.cell 2
    have bU43 : U4.cell? ⟨pm, 3, none⟩ = some (.int .i64 glo) := qm.cell 3
    have bU44 : U4.cell? ⟨pm, 4, none⟩ = some (.int .i64 ghi) := qm.cell 4
    have alU4 := qw.lt
    have blU4 := qm.lt
    by_cases hvdst : dst = -1
    ·
     subst hvdst
     by_cases hne : src = (-1 : Int)
     ·
      have hnw : (src != (-1 : Int)) = false := by simp [hne]
      have HNE := Lib.hid hne
      clear hne
      go_wp2
      go_ret
      exact ⟨ret_bool (by simp [moveB, sideB, hday, hvsrc, hsrc, HNE.out]), B_U4⟩
     ·
      have hnw : (src != (-1 : Int)) = true := by simp [hne]
      have HNE := Lib.hid hne
      clear hne
      go_wp2_with fail
      refine (toR_any glo ghi 2000 U4).mono ?_
      rintro e U5 ⟨rfl, hU5⟩
      replace qw := qw.below hU5 qw.lt
      replace qm := qm.below hU5 qm.lt
      have B_U5 := ex_trans B_U4 hU5
      cases hto : toB glo ghi 2000
      ·
       have aU50 : U5.cell? ⟨pw, 0, none⟩ = some (.slice Ar s.rooms.length cr) := qw.cell 0
       have aU51 : U5.cell? ⟨pw, 1, none⟩ = some (.int .i64 s.days) := qw.cell 1
       have aU52 : U5.cell? ⟨pw, 2, none⟩ = some (.slice Am s.moves.length cm) := qw.cell 2
       have aU53 : U5.cell? ⟨pw, 3, none⟩ = some (.slice Aw s.wgs.length cw) := qw.cell 3
       have bU50 : U5.cell? ⟨pm, 0, none⟩ = some (.int .i64 day) := qm.cell 0
       have bU51 : U5.cell? ⟨pm, 1, none⟩ = some (.int .i64 src) := qm.cell 1
       have bU52 : U5.cell? ⟨pm, 2, none⟩ = some (.int .i64 (-1)) := qm.cell 2
       have bU53 : U5.cell? ⟨pm, 3, none⟩ = some (.int .i64 glo) := qm.cell 3
       have bU54 : U5.cell? ⟨pm, 4, none⟩ = some (.int .i64 ghi) := qm.cell 4
       have alU5 := qw.lt
       have blU5 := qm.lt
       go_wp2
       go_ret
       exact ⟨ret_bool (by simp [moveB, sideB, hday, hvsrc, hsrc, HNE.out, hto]), B_U5⟩
      ·
       have aU50 : U5.cell? ⟨pw, 0, none⟩ = some (.slice Ar s.rooms.length cr) := qw.cell 0
       have aU51 : U5.cell? ⟨pw, 1, none⟩ = some (.int .i64 s.days) := qw.cell 1
       have aU52 : U5.cell? ⟨pw, 2, none⟩ = some (.slice Am s.moves.length cm) := qw.cell 2
       have aU53 : U5.cell? ⟨pw, 3, none⟩ = some (.slice Aw s.wgs.length cw) := qw.cell 3
       have bU50 : U5.cell? ⟨pm, 0, none⟩ = some (.int .i64 day) := qm.cell 0
       have bU51 : U5.cell? ⟨pm, 1, none⟩ = some (.int .i64 src) := qm.cell 1
       have bU52 : U5.cell? ⟨pm, 2, none⟩ = some (.int .i64 (-1)) := qm.cell 2
       have bU53 : U5.cell? ⟨pm, 3, none⟩ = some (.int .i64 glo) := qm.cell 3
       have bU54 : U5.cell? ⟨pm, 4, none⟩ = some (.int .i64 ghi) := qm.cell 4
       have alU5 := qw.lt
       have blU5 := qm.lt
       go_wp2
       go_ret
       exact ⟨ret_bool (by simp [moveB, sideB, hday, hvsrc, hsrc, HNE.out, hto]), B_U5⟩
    ·
     have hwdst : (dst == (-1 : Int)) = false := by simp [hvdst]
     go_wp2_with fail
     refine (roomN_any s Ar Am Aw cr cm cw dst U4 hr).mono ?_
     rintro e U6 ⟨rfl, hU6⟩
     replace qw := qw.below hU6 qw.lt
     replace qm := qm.below hU6 qm.lt
     have B_U6 := ex_trans B_U4 hU6
     cases hdst : inB dst 0 ((s.rooms.length : Int) - 1)
     ·
      have aU60 : U6.cell? ⟨pw, 0, none⟩ = some (.slice Ar s.rooms.length cr) := qw.cell 0
      have aU61 : U6.cell? ⟨pw, 1, none⟩ = some (.int .i64 s.days) := qw.cell 1
      have aU62 : U6.cell? ⟨pw, 2, none⟩ = some (.slice Am s.moves.length cm) := qw.cell 2
      have aU63 : U6.cell? ⟨pw, 3, none⟩ = some (.slice Aw s.wgs.length cw) := qw.cell 3
      have bU60 : U6.cell? ⟨pm, 0, none⟩ = some (.int .i64 day) := qm.cell 0
      have bU61 : U6.cell? ⟨pm, 1, none⟩ = some (.int .i64 src) := qm.cell 1
      have bU62 : U6.cell? ⟨pm, 2, none⟩ = some (.int .i64 dst) := qm.cell 2
      have bU63 : U6.cell? ⟨pm, 3, none⟩ = some (.int .i64 glo) := qm.cell 3
      have bU64 : U6.cell? ⟨pm, 4, none⟩ = some (.int .i64 ghi) := qm.cell 4
      have alU6 := qw.lt
      have blU6 := qm.lt
      go_wp2
      go_ret
      exact ⟨ret_bool (by simp [moveB, sideB, hday, hvsrc, hsrc, hvdst, hdst]), B_U6⟩
     ·
      have aU60 : U6.cell? ⟨pw, 0, none⟩ = some (.slice Ar s.rooms.length cr) := qw.cell 0
      have aU61 : U6.cell? ⟨pw, 1, none⟩ = some (.int .i64 s.days) := qw.cell 1
      have aU62 : U6.cell? ⟨pw, 2, none⟩ = some (.slice Am s.moves.length cm) := qw.cell 2
      have aU63 : U6.cell? ⟨pw, 3, none⟩ = some (.slice Aw s.wgs.length cw) := qw.cell 3
      have bU60 : U6.cell? ⟨pm, 0, none⟩ = some (.int .i64 day) := qm.cell 0
      have bU61 : U6.cell? ⟨pm, 1, none⟩ = some (.int .i64 src) := qm.cell 1
      have bU62 : U6.cell? ⟨pm, 2, none⟩ = some (.int .i64 dst) := qm.cell 2
      have bU63 : U6.cell? ⟨pm, 3, none⟩ = some (.int .i64 glo) := qm.cell 3
      have bU64 : U6.cell? ⟨pm, 4, none⟩ = some (.int .i64 ghi) := qm.cell 4
      have alU6 := qw.lt
      have blU6 := qm.lt
      by_cases hne : src = dst
      ·
       have hnw : (src != dst) = false := by simp [hne]
       have HNE := Lib.hid hne
       clear hne
       go_wp2
       go_ret
       exact ⟨ret_bool (by simp [moveB, sideB, hday, hvsrc, hsrc, hvdst, hdst, HNE.out]), B_U6⟩
      ·
       have hnw : (src != dst) = true := by simp [hne]
       have HNE := Lib.hid hne
       clear hne
       go_wp2_with fail
       refine (toR_any glo ghi 2000 U6).mono ?_
       rintro e U7 ⟨rfl, hU7⟩
       replace qw := qw.below hU7 qw.lt
       replace qm := qm.below hU7 qm.lt
       have B_U7 := ex_trans B_U6 hU7
       cases hto : toB glo ghi 2000
       ·
        have aU70 : U7.cell? ⟨pw, 0, none⟩ = some (.slice Ar s.rooms.length cr) := qw.cell 0
        have aU71 : U7.cell? ⟨pw, 1, none⟩ = some (.int .i64 s.days) := qw.cell 1
        have aU72 : U7.cell? ⟨pw, 2, none⟩ = some (.slice Am s.moves.length cm) := qw.cell 2
        have aU73 : U7.cell? ⟨pw, 3, none⟩ = some (.slice Aw s.wgs.length cw) := qw.cell 3
        have bU70 : U7.cell? ⟨pm, 0, none⟩ = some (.int .i64 day) := qm.cell 0
        have bU71 : U7.cell? ⟨pm, 1, none⟩ = some (.int .i64 src) := qm.cell 1
        have bU72 : U7.cell? ⟨pm, 2, none⟩ = some (.int .i64 dst) := qm.cell 2
        have bU73 : U7.cell? ⟨pm, 3, none⟩ = some (.int .i64 glo) := qm.cell 3
        have bU74 : U7.cell? ⟨pm, 4, none⟩ = some (.int .i64 ghi) := qm.cell 4
        have alU7 := qw.lt
        have blU7 := qm.lt
        go_wp2
        go_ret
        exact ⟨ret_bool (by simp [moveB, sideB, hday, hvsrc, hsrc, hvdst, hdst, HNE.out, hto]), B_U7⟩
       ·
        have aU70 : U7.cell? ⟨pw, 0, none⟩ = some (.slice Ar s.rooms.length cr) := qw.cell 0
        have aU71 : U7.cell? ⟨pw, 1, none⟩ = some (.int .i64 s.days) := qw.cell 1
        have aU72 : U7.cell? ⟨pw, 2, none⟩ = some (.slice Am s.moves.length cm) := qw.cell 2
        have aU73 : U7.cell? ⟨pw, 3, none⟩ = some (.slice Aw s.wgs.length cw) := qw.cell 3
        have bU70 : U7.cell? ⟨pm, 0, none⟩ = some (.int .i64 day) := qm.cell 0
        have bU71 : U7.cell? ⟨pm, 1, none⟩ = some (.int .i64 src) := qm.cell 1
        have bU72 : U7.cell? ⟨pm, 2, none⟩ = some (.int .i64 dst) := qm.cell 2
        have bU73 : U7.cell? ⟨pm, 3, none⟩ = some (.int .i64 glo) := qm.cell 3
        have bU74 : U7.cell? ⟨pm, 4, none⟩ = some (.int .i64 ghi) := qm.cell 4
        have alU7 := qw.lt
        have blU7 := qm.lt
        go_wp2
        go_ret
        exact ⟨ret_bool (by simp [moveB, sideB, hday, hvsrc, hsrc, hvdst, hdst, HNE.out, hto]), B_U7⟩
set_option maxRecDepth 100000 in
set_option maxHeartbeats 3200000 in
theorem weighing_any (s : Ws) (Ar Am Aw : Option Addr) (cr cm cw : Nat) (x : Wg) (w : World) (hr : s.rooms.length ≤ 1000000) (hd : 1 ≤ s.days ∧ s.days ≤ 6) :
  Calls Try.prog 92 #[.agg #[.slice Ar s.rooms.length cr, .int .i64 s.days, .slice Am s.moves.length cm, .slice Aw s.wgs.length cw], .agg #[.int .i64 x.room, .int .i64 x.day, .int .i64 x.g.lo, .int .i64 x.g.hi]] w fun e w' => e = .returned (.bool (wgB s.rooms.length s.days x)) ∧ Below w.heap.size w w' := by
 obtain ⟨room, day, ⟨glo, ghi⟩⟩ := x
 have hb1 := ex_alloc (ex_alloc (Below.refl w.heap.size w) (.cells #[.slice Ar s.rooms.length cr, .int .i64 s.days, .slice Am s.moves.length cm, .slice Aw s.wgs.length cw] 42)) (.cells #[.int .i64 room, .int .i64 day, .int .i64 glo, .int .i64 ghi] 128)
 have qw : Blk ((w.alloc (.cells #[.slice Ar s.rooms.length cr, .int .i64 s.days, .slice Am s.moves.length cm, .slice Aw s.wgs.length cw] 42)).alloc (.cells #[.int .i64 room, .int .i64 day, .int .i64 glo, .int .i64 ghi] 128)) w.heap.size 42 #[.slice Ar s.rooms.length cr, .int .i64 s.days, .slice Am s.moves.length cm, .slice Aw s.wgs.length cw] := (Blk.new _ _ _).alloc _
 have qm : Blk ((w.alloc (.cells #[.slice Ar s.rooms.length cr, .int .i64 s.days, .slice Am s.moves.length cm, .slice Aw s.wgs.length cw] 42)).alloc (.cells #[.int .i64 room, .int .i64 day, .int .i64 glo, .int .i64 ghi] 128)) (w.heap.size + 1) 128 #[.int .i64 room, .int .i64 day, .int .i64 glo, .int .i64 ghi] := Blk.new' _ _ _ (by simp)
 go_enter Try.func92, Try.ntmps92
 go_wp2_with fail
 generalize (w.alloc (.cells #[.slice Ar s.rooms.length cr, .int .i64 s.days, .slice Am s.moves.length cm, .slice Aw s.wgs.length cw] 42)).alloc (.cells #[.int .i64 room, .int .i64 day, .int .i64 glo, .int .i64 ghi] 128) = V at *
 obtain ⟨pw, hpw⟩ : ∃ p, w.heap.size = p := ⟨_, rfl⟩
 rw [hpw] at qw qm ⊢
 obtain ⟨pm, hpm⟩ : ∃ p, pw + 1 = p := ⟨_, rfl⟩
 rw [hpm] at qm ⊢
 clear hpm
 have aV0 : V.cell? ⟨pw, 0, none⟩ = some (.slice Ar s.rooms.length cr) := qw.cell 0
 have aV1 : V.cell? ⟨pw, 1, none⟩ = some (.int .i64 s.days) := qw.cell 1
 have aV2 : V.cell? ⟨pw, 2, none⟩ = some (.slice Am s.moves.length cm) := qw.cell 2
 have aV3 : V.cell? ⟨pw, 3, none⟩ = some (.slice Aw s.wgs.length cw) := qw.cell 3
 have bV0 : V.cell? ⟨pm, 0, none⟩ = some (.int .i64 room) := qm.cell 0
 have bV1 : V.cell? ⟨pm, 1, none⟩ = some (.int .i64 day) := qm.cell 1
 have bV2 : V.cell? ⟨pm, 2, none⟩ = some (.int .i64 glo) := qm.cell 2
 have bV3 : V.cell? ⟨pm, 3, none⟩ = some (.int .i64 ghi) := qm.cell 3
 have alV := qw.lt
 have blV := qm.lt
 refine (roomN_any s Ar Am Aw cr cm cw room V hr).mono ?_
 rintro e U8 ⟨rfl, hU8⟩
 replace qw := qw.below hU8 qw.lt
 replace qm := qm.below hU8 qm.lt
 have B_U8 := ex_trans hb1 hU8
 cases hroom : inB room 0 ((s.rooms.length : Int) - 1)
 ·
  have aU80 : U8.cell? ⟨pw, 0, none⟩ = some (.slice Ar s.rooms.length cr) := qw.cell 0
  have aU81 : U8.cell? ⟨pw, 1, none⟩ = some (.int .i64 s.days) := qw.cell 1
  have aU82 : U8.cell? ⟨pw, 2, none⟩ = some (.slice Am s.moves.length cm) := qw.cell 2
  have aU83 : U8.cell? ⟨pw, 3, none⟩ = some (.slice Aw s.wgs.length cw) := qw.cell 3
  have bU80 : U8.cell? ⟨pm, 0, none⟩ = some (.int .i64 room) := qm.cell 0
  have bU81 : U8.cell? ⟨pm, 1, none⟩ = some (.int .i64 day) := qm.cell 1
  have bU82 : U8.cell? ⟨pm, 2, none⟩ = some (.int .i64 glo) := qm.cell 2
  have bU83 : U8.cell? ⟨pm, 3, none⟩ = some (.int .i64 ghi) := qm.cell 3
  have alU8 := qw.lt
  have blU8 := qm.lt
  go_wp2
  go_ret
  exact ⟨ret_bool (by simp [wgB, hroom]), B_U8⟩
 ·
  have aU80 : U8.cell? ⟨pw, 0, none⟩ = some (.slice Ar s.rooms.length cr) := qw.cell 0
  have aU81 : U8.cell? ⟨pw, 1, none⟩ = some (.int .i64 s.days) := qw.cell 1
  have aU82 : U8.cell? ⟨pw, 2, none⟩ = some (.slice Am s.moves.length cm) := qw.cell 2
  have aU83 : U8.cell? ⟨pw, 3, none⟩ = some (.slice Aw s.wgs.length cw) := qw.cell 3
  have bU80 : U8.cell? ⟨pm, 0, none⟩ = some (.int .i64 room) := qm.cell 0
  have bU81 : U8.cell? ⟨pm, 1, none⟩ = some (.int .i64 day) := qm.cell 1
  have bU82 : U8.cell? ⟨pm, 2, none⟩ = some (.int .i64 glo) := qm.cell 2
  have bU83 : U8.cell? ⟨pm, 3, none⟩ = some (.int .i64 ghi) := qm.cell 3
  have alU8 := qw.lt
  have blU8 := qm.lt
  go_wp2_with fail
  refine (dayN_any s Ar Am Aw cr cm cw day U8 hd).mono ?_
  rintro e U9 ⟨rfl, hU9⟩
  replace qw := qw.below hU9 qw.lt
  replace qm := qm.below hU9 qm.lt
  have B_U9 := ex_trans B_U8 hU9
  cases hday : inB day 0 (s.days - 1)
  ·
   have aU90 : U9.cell? ⟨pw, 0, none⟩ = some (.slice Ar s.rooms.length cr) := qw.cell 0
   have aU91 : U9.cell? ⟨pw, 1, none⟩ = some (.int .i64 s.days) := qw.cell 1
   have aU92 : U9.cell? ⟨pw, 2, none⟩ = some (.slice Am s.moves.length cm) := qw.cell 2
   have aU93 : U9.cell? ⟨pw, 3, none⟩ = some (.slice Aw s.wgs.length cw) := qw.cell 3
   have bU90 : U9.cell? ⟨pm, 0, none⟩ = some (.int .i64 room) := qm.cell 0
   have bU91 : U9.cell? ⟨pm, 1, none⟩ = some (.int .i64 day) := qm.cell 1
   have bU92 : U9.cell? ⟨pm, 2, none⟩ = some (.int .i64 glo) := qm.cell 2
   have bU93 : U9.cell? ⟨pm, 3, none⟩ = some (.int .i64 ghi) := qm.cell 3
   have alU9 := qw.lt
   have blU9 := qm.lt
   go_wp2
   go_ret
   exact ⟨ret_bool (by simp [wgB, hroom, hday]), B_U9⟩
  ·
   have aU90 : U9.cell? ⟨pw, 0, none⟩ = some (.slice Ar s.rooms.length cr) := qw.cell 0
   have aU91 : U9.cell? ⟨pw, 1, none⟩ = some (.int .i64 s.days) := qw.cell 1
   have aU92 : U9.cell? ⟨pw, 2, none⟩ = some (.slice Am s.moves.length cm) := qw.cell 2
   have aU93 : U9.cell? ⟨pw, 3, none⟩ = some (.slice Aw s.wgs.length cw) := qw.cell 3
   have bU90 : U9.cell? ⟨pm, 0, none⟩ = some (.int .i64 room) := qm.cell 0
   have bU91 : U9.cell? ⟨pm, 1, none⟩ = some (.int .i64 day) := qm.cell 1
   have bU92 : U9.cell? ⟨pm, 2, none⟩ = some (.int .i64 glo) := qm.cell 2
   have bU93 : U9.cell? ⟨pm, 3, none⟩ = some (.int .i64 ghi) := qm.cell 3
   have alU9 := qw.lt
   have blU9 := qm.lt
   go_wp2_with fail
   refine (toR_any glo ghi 2000 U9).mono ?_
   rintro e U10 ⟨rfl, hU10⟩
   replace qw := qw.below hU10 qw.lt
   replace qm := qm.below hU10 qm.lt
   have B_U10 := ex_trans B_U9 hU10
   cases hto : toB glo ghi 2000
   ·
    have aU100 : U10.cell? ⟨pw, 0, none⟩ = some (.slice Ar s.rooms.length cr) := qw.cell 0
    have aU101 : U10.cell? ⟨pw, 1, none⟩ = some (.int .i64 s.days) := qw.cell 1
    have aU102 : U10.cell? ⟨pw, 2, none⟩ = some (.slice Am s.moves.length cm) := qw.cell 2
    have aU103 : U10.cell? ⟨pw, 3, none⟩ = some (.slice Aw s.wgs.length cw) := qw.cell 3
    have bU100 : U10.cell? ⟨pm, 0, none⟩ = some (.int .i64 room) := qm.cell 0
    have bU101 : U10.cell? ⟨pm, 1, none⟩ = some (.int .i64 day) := qm.cell 1
    have bU102 : U10.cell? ⟨pm, 2, none⟩ = some (.int .i64 glo) := qm.cell 2
    have bU103 : U10.cell? ⟨pm, 3, none⟩ = some (.int .i64 ghi) := qm.cell 3
    have alU10 := qw.lt
    have blU10 := qm.lt
    go_wp2
    go_ret
    exact ⟨ret_bool (by simp [wgB, hroom, hday, hto]), B_U10⟩
   ·
    have aU100 : U10.cell? ⟨pw, 0, none⟩ = some (.slice Ar s.rooms.length cr) := qw.cell 0
    have aU101 : U10.cell? ⟨pw, 1, none⟩ = some (.int .i64 s.days) := qw.cell 1
    have aU102 : U10.cell? ⟨pw, 2, none⟩ = some (.slice Am s.moves.length cm) := qw.cell 2
    have aU103 : U10.cell? ⟨pw, 3, none⟩ = some (.slice Aw s.wgs.length cw) := qw.cell 3
    have bU100 : U10.cell? ⟨pm, 0, none⟩ = some (.int .i64 room) := qm.cell 0
    have bU101 : U10.cell? ⟨pm, 1, none⟩ = some (.int .i64 day) := qm.cell 1
    have bU102 : U10.cell? ⟨pm, 2, none⟩ = some (.int .i64 glo) := qm.cell 2
    have bU103 : U10.cell? ⟨pm, 3, none⟩ = some (.int .i64 ghi) := qm.cell 3
    have alU10 := qw.lt
    have blU10 := qm.lt
    go_wp2
    go_ret
    exact ⟨ret_bool (by simp [wgB, hroom, hday, hto]), B_U10⟩

set_option maxHeartbeats 1600000 in
theorem all1_room (n : Nat) (l : List Rm) (w : World)  (k pb : Nat) (hk : k < n) (hp : pb < w.heap.size) (hc : w.cell? ⟨pb, 0, none⟩ = some (.func (.func 88) #[] #[])) :
  Calls Try.prog 115 #[.agg #[.int .i64 (gRm l k).fst.lo, .int .i64 (gRm l k).fst.hi, .int .i64 (gRm l k).vap.lo, .int .i64 (gRm l k).vap.hi], .pointer (some ⟨pb, 0, none⟩)] w fun e w' => e = .returned (.bool (!(roomB (gRm l k)))) ∧ Below w.heap.size w w' := by
 go_enter Try.func115, Try.ntmps115
 go_wp2_with fail
 refine (roomV_any _ _).mono ?_
 rintro e w2 ⟨rfl, hb2⟩
 go_wp2
 go_ret
 exact ⟨rfl, ex_trans (ex_alloc (Below.refl _ _) _) hb2⟩

set_option maxHeartbeats 1600000 in
theorem index_room (n : Nat) (l : List Rm) (A : Option Addr) (c : Nat) (w : World)  (hA : SlAt w w.heap.size 4 A n (fRm l)) (hl : n ≤ 1000000) (pb : Nat) (hp : pb < w.heap.size) (hc : w.cell? ⟨pb, 0, none⟩ = some (.func (.func 88) #[] #[])) :
  Calls Try.prog 129 #[.slice A n c, .func (.func 115) #[] #[.pointer (some ⟨pb, 0, none⟩)]] w fun e w' => e = .returned (.int .i64 (firstOf (fun k => !(roomB (gRm l k))) n)) ∧ Below w.heap.size w w' := by
 go_enter Try.func129, Try.ntmps129
 go_wp2
 go_loopw [8] (fun i wr => ∃ k : Nat, k ≤ n ∧ i = .int .i64 k ∧ (∀ k', k' < k → (roomB (gRm l k')) = true) ∧ Below w.heap.size w wr)
  (fun i _ => n - (intOf i).toNat)
 case atStart => exact ⟨0, by omega, rfl, fun j hj => by omega, Below.refl _ _⟩
 case round =>
  obtain ⟨k, hk, rfl, hok, hbl⟩ := hrel
  by_cases hlt : k < n
  ·
   have hAW := (hA.below hbl).up hbl.size
   obtain ⟨bi, oi, rfl, hbi, g0, g1, g2, g3⟩ := IsRms.at_ hAW hlt
   have hcr : wr.cell? ⟨pb, 0, none⟩ = some (.func (.func 88) #[] #[]) := (hbl.cell (p := ⟨pb, 0, none⟩) hp).trans hc
   have hpr : pb < wr.heap.size := by have := hbl.size; omega
   have HOK := Lib.hid hok
   clear hok
   cases ht : (roomB (gRm l k))
   ·
    have HT := Lib.hid ht
    have HF : Hid (firstOf (fun k => !(roomB (gRm l k))) n = (k : Int)) := Lib.hid (firstOf_at hlt (fun j hj => by have := HOK.out j hj; simp only [this]; rfl) (by simp only [ht]; rfl))
    clear ht
    go_wp2_with fail
    refine (all1_room n l wr  k pb hlt hpr hcr).mono ?_
    rintro e w2 ⟨rfl, hb2⟩
    rw [HT.out]
    go_wp2
    go_ret
    exact ⟨ret_int HF.out.symm, ex_trans hbl hb2⟩
   ·
    have HT := Lib.hid ht
    clear ht
    go_wp2_with fail
    refine (all1_room n l wr  k pb hlt hpr hcr).mono ?_
    rintro e w2 ⟨rfl, hb2⟩
    rw [HT.out]
    go_wp2
    go_roundw
    case rel => exact ⟨k + 1, by omega, by go_num, fun j hj => by rcases Nat.lt_succ_iff_lt_or_eq.1 hj with h | h; exact HOK.out j h; exact h ▸ HT.out, ex_trans hbl hb2⟩
    case measure => simp [intOf]; omega
  ·
   obtain rfl : k = n := by omega
   have HF : Hid (firstOf (fun k => !(roomB (gRm l k))) k = -1) := Lib.hid (firstOf_neg fun j hj => by have := hok j hj; simp only [this]; rfl)
   go_wp2
   go_ret
   exact ⟨ret_int HF.out.symm, hbl⟩

theorem contains_room (n : Nat) (l : List Rm) (A : Option Addr) (c : Nat) (w : World)  (hA : SlAt w w.heap.size 4 A n (fRm l)) (hl : n ≤ 1000000) (pb : Nat) (hp : pb < w.heap.size) (hc : w.cell? ⟨pb, 0, none⟩ = some (.func (.func 88) #[] #[])) :
  Calls Try.prog 114 #[.slice A n c, .func (.func 115) #[] #[.pointer (some ⟨pb, 0, none⟩)]] w fun e w' => e = .returned (.bool (!allTo (fun k => (roomB (gRm l k))) n)) ∧ Below w.heap.size w w' := by
 have HF : Hid (decide (0 ≤ firstOf (fun k => !(roomB (gRm l k))) n) = !allTo (fun k => (roomB (gRm l k))) n) := Lib.hid (by rw [firstOf_nonneg]; simp)
 go_enter Try.func114, Try.ntmps114
 go_wp2_with fail
 refine (index_room n l A c w  hA hl pb hp hc).mono ?_
 rintro e w2 ⟨rfl, hb2⟩
 go_wp2
 go_ret
 exact ⟨ret_bool HF.out, hb2⟩

theorem all_room (n : Nat) (l : List Rm) (A : Option Addr) (c : Nat) (w : World)  (hA : SlAt w w.heap.size 4 A n (fRm l)) (hl : n ≤ 1000000) :
  Calls Try.prog 87 #[.slice A n c, .func (.func 88) #[] #[]] w fun e w' => e = .returned (.bool (allTo (fun k => (roomB (gRm l k))) n)) ∧ Below w.heap.size w w' := by
 have hb1 := ex_alloc (Below.refl w.heap.size w) (.cells #[.func (.func 88) #[] #[]] 161)
 have hA1 := (hA.below hb1).up hb1.size
 go_enter Try.func87, Try.ntmps87
 go_wp2_with fail
 refine (contains_room n l A c _  hA1 hl w.heap.size (by simp) (by simp [go_sem])).mono ?_
 rintro e w2 ⟨rfl, hb2⟩
 go_wp2
 go_ret
 exact ⟨by simp, ex_trans hb1 hb2⟩

set_option maxHeartbeats 1600000 in
theorem all1_move (s : Ws) (Ar Am Aw : Option Addr) (cr cm cw : Nat) (hr : s.rooms.length ≤ 1000000) (hd : 1 ≤ s.days ∧ s.days ≤ 6) (n : Nat) (l : List Mv) (w : World)  (k pb : Nat) (hk : k < n) (hp : pb < w.heap.size) (hc : w.cell? ⟨pb, 0, none⟩ = some (.func (.func 90) #[.agg #[.slice Ar s.rooms.length cr, .int .i64 s.days, .slice Am s.moves.length cm, .slice Aw s.wgs.length cw]] #[])) :
  Calls Try.prog 117 #[.agg #[.int .i64 (gMv l k).day, .int .i64 (gMv l k).src, .int .i64 (gMv l k).dst, .int .i64 (gMv l k).g.lo, .int .i64 (gMv l k).g.hi], .pointer (some ⟨pb, 0, none⟩)] w fun e w' => e = .returned (.bool (!(moveB s.rooms.length s.days (gMv l k)))) ∧ Below w.heap.size w w' := by
 go_enter Try.func117, Try.ntmps117
 go_wp2_with fail
 refine (move_any s Ar Am Aw cr cm cw _ _ hr hd).mono ?_
 rintro e w2 ⟨rfl, hb2⟩
 go_wp2
 go_ret
 exact ⟨rfl, ex_trans (ex_alloc (Below.refl _ _) _) hb2⟩

set_option maxHeartbeats 1600000 in
theorem index_move (s : Ws) (Ar Am Aw : Option Addr) (cr cm cw : Nat) (hr : s.rooms.length ≤ 1000000) (hd : 1 ≤ s.days ∧ s.days ≤ 6) (n : Nat) (l : List Mv) (A : Option Addr) (c : Nat) (w : World)  (hA : SlAt w w.heap.size 5 A n (fMv l)) (hl : n ≤ 1000000) (pb : Nat) (hp : pb < w.heap.size) (hc : w.cell? ⟨pb, 0, none⟩ = some (.func (.func 90) #[.agg #[.slice Ar s.rooms.length cr, .int .i64 s.days, .slice Am s.moves.length cm, .slice Aw s.wgs.length cw]] #[])) :
  Calls Try.prog 130 #[.slice A n c, .func (.func 117) #[] #[.pointer (some ⟨pb, 0, none⟩)]] w fun e w' => e = .returned (.int .i64 (firstOf (fun k => !(moveB s.rooms.length s.days (gMv l k))) n)) ∧ Below w.heap.size w w' := by
 go_enter Try.func130, Try.ntmps130
 go_wp2
 go_loopw [8] (fun i wr => ∃ k : Nat, k ≤ n ∧ i = .int .i64 k ∧ (∀ k', k' < k → (moveB s.rooms.length s.days (gMv l k')) = true) ∧ Below w.heap.size w wr)
  (fun i _ => n - (intOf i).toNat)
 case atStart => exact ⟨0, by omega, rfl, fun j hj => by omega, Below.refl _ _⟩
 case round =>
  obtain ⟨k, hk, rfl, hok, hbl⟩ := hrel
  by_cases hlt : k < n
  ·
   have hAW := (hA.below hbl).up hbl.size
   obtain ⟨bi, oi, rfl, hbi, g0, g1, g2, g3, g4⟩ := IsMvs.at_ hAW hlt
   have hcr : wr.cell? ⟨pb, 0, none⟩ = some (.func (.func 90) #[.agg #[.slice Ar s.rooms.length cr, .int .i64 s.days, .slice Am s.moves.length cm, .slice Aw s.wgs.length cw]] #[]) := (hbl.cell (p := ⟨pb, 0, none⟩) hp).trans hc
   have hpr : pb < wr.heap.size := by have := hbl.size; omega
   have HOK := Lib.hid hok
   clear hok
   cases ht : (moveB s.rooms.length s.days (gMv l k))
   ·
    have HT := Lib.hid ht
    have HF : Hid (firstOf (fun k => !(moveB s.rooms.length s.days (gMv l k))) n = (k : Int)) := Lib.hid (firstOf_at hlt (fun j hj => by have := HOK.out j hj; simp only [this]; rfl) (by simp only [ht]; rfl))
    clear ht
    go_wp2_with fail
    refine (all1_move s Ar Am Aw cr cm cw hr hd n l wr  k pb hlt hpr hcr).mono ?_
    rintro e w2 ⟨rfl, hb2⟩
    rw [HT.out]
    go_wp2
    go_ret
    exact ⟨ret_int HF.out.symm, ex_trans hbl hb2⟩
   ·
    have HT := Lib.hid ht
    clear ht
    go_wp2_with fail
    refine (all1_move s Ar Am Aw cr cm cw hr hd n l wr  k pb hlt hpr hcr).mono ?_
    rintro e w2 ⟨rfl, hb2⟩
    rw [HT.out]
    go_wp2
    go_roundw
    case rel => exact ⟨k + 1, by omega, by go_num, fun j hj => by rcases Nat.lt_succ_iff_lt_or_eq.1 hj with h | h; exact HOK.out j h; exact h ▸ HT.out, ex_trans hbl hb2⟩
    case measure => simp [intOf]; omega
  ·
   obtain rfl : k = n := by omega
   have HF : Hid (firstOf (fun k => !(moveB s.rooms.length s.days (gMv l k))) k = -1) := Lib.hid (firstOf_neg fun j hj => by have := hok j hj; simp only [this]; rfl)
   go_wp2
   go_ret
   exact ⟨ret_int HF.out.symm, hbl⟩

theorem contains_move (s : Ws) (Ar Am Aw : Option Addr) (cr cm cw : Nat) (hr : s.rooms.length ≤ 1000000) (hd : 1 ≤ s.days ∧ s.days ≤ 6) (n : Nat) (l : List Mv) (A : Option Addr) (c : Nat) (w : World)  (hA : SlAt w w.heap.size 5 A n (fMv l)) (hl : n ≤ 1000000) (pb : Nat) (hp : pb < w.heap.size) (hc : w.cell? ⟨pb, 0, none⟩ = some (.func (.func 90) #[.agg #[.slice Ar s.rooms.length cr, .int .i64 s.days, .slice Am s.moves.length cm, .slice Aw s.wgs.length cw]] #[])) :
  Calls Try.prog 116 #[.slice A n c, .func (.func 117) #[] #[.pointer (some ⟨pb, 0, none⟩)]] w fun e w' => e = .returned (.bool (!allTo (fun k => (moveB s.rooms.length s.days (gMv l k))) n)) ∧ Below w.heap.size w w' := by
 have HF : Hid (decide (0 ≤ firstOf (fun k => !(moveB s.rooms.length s.days (gMv l k))) n) = !allTo (fun k => (moveB s.rooms.length s.days (gMv l k))) n) := Lib.hid (by rw [firstOf_nonneg]; simp)
 go_enter Try.func116, Try.ntmps116
 go_wp2_with fail
 refine (index_move s Ar Am Aw cr cm cw hr hd n l A c w  hA hl pb hp hc).mono ?_
 rintro e w2 ⟨rfl, hb2⟩
 go_wp2
 go_ret
 exact ⟨ret_bool HF.out, hb2⟩

theorem all_move (s : Ws) (Ar Am Aw : Option Addr) (cr cm cw : Nat) (hr : s.rooms.length ≤ 1000000) (hd : 1 ≤ s.days ∧ s.days ≤ 6) (n : Nat) (l : List Mv) (A : Option Addr) (c : Nat) (w : World)  (hA : SlAt w w.heap.size 5 A n (fMv l)) (hl : n ≤ 1000000) :
  Calls Try.prog 89 #[.slice A n c, .func (.func 90) #[.agg #[.slice Ar s.rooms.length cr, .int .i64 s.days, .slice Am s.moves.length cm, .slice Aw s.wgs.length cw]] #[]] w fun e w' => e = .returned (.bool (allTo (fun k => (moveB s.rooms.length s.days (gMv l k))) n)) ∧ Below w.heap.size w w' := by
 have hb1 := ex_alloc (Below.refl w.heap.size w) (.cells #[.func (.func 90) #[.agg #[.slice Ar s.rooms.length cr, .int .i64 s.days, .slice Am s.moves.length cm, .slice Aw s.wgs.length cw]] #[]] 163)
 have hA1 := (hA.below hb1).up hb1.size
 go_enter Try.func89, Try.ntmps89
 go_wp2_with fail
 refine (contains_move s Ar Am Aw cr cm cw hr hd n l A c _  hA1 hl w.heap.size (by simp) (by simp [go_sem])).mono ?_
 rintro e w2 ⟨rfl, hb2⟩
 go_wp2
 go_ret
 exact ⟨by simp, ex_trans hb1 hb2⟩

set_option maxHeartbeats 1600000 in
theorem all1_wg (s : Ws) (Ar Am Aw : Option Addr) (cr cm cw : Nat) (hr : s.rooms.length ≤ 1000000) (hd : 1 ≤ s.days ∧ s.days ≤ 6) (n : Nat) (l : List Wg) (w : World)  (k pb : Nat) (hk : k < n) (hp : pb < w.heap.size) (hc : w.cell? ⟨pb, 0, none⟩ = some (.func (.func 92) #[.agg #[.slice Ar s.rooms.length cr, .int .i64 s.days, .slice Am s.moves.length cm, .slice Aw s.wgs.length cw]] #[])) :
  Calls Try.prog 119 #[.agg #[.int .i64 (gWg l k).room, .int .i64 (gWg l k).day, .int .i64 (gWg l k).g.lo, .int .i64 (gWg l k).g.hi], .pointer (some ⟨pb, 0, none⟩)] w fun e w' => e = .returned (.bool (!(wgB s.rooms.length s.days (gWg l k)))) ∧ Below w.heap.size w w' := by
 go_enter Try.func119, Try.ntmps119
 go_wp2_with fail
 refine (weighing_any s Ar Am Aw cr cm cw _ _ hr hd).mono ?_
 rintro e w2 ⟨rfl, hb2⟩
 go_wp2
 go_ret
 exact ⟨rfl, ex_trans (ex_alloc (Below.refl _ _) _) hb2⟩

set_option maxHeartbeats 1600000 in
theorem index_wg (s : Ws) (Ar Am Aw : Option Addr) (cr cm cw : Nat) (hr : s.rooms.length ≤ 1000000) (hd : 1 ≤ s.days ∧ s.days ≤ 6) (n : Nat) (l : List Wg) (A : Option Addr) (c : Nat) (w : World)  (hA : SlAt w w.heap.size 4 A n (fWg l)) (hl : n ≤ 1000000) (pb : Nat) (hp : pb < w.heap.size) (hc : w.cell? ⟨pb, 0, none⟩ = some (.func (.func 92) #[.agg #[.slice Ar s.rooms.length cr, .int .i64 s.days, .slice Am s.moves.length cm, .slice Aw s.wgs.length cw]] #[])) :
  Calls Try.prog 131 #[.slice A n c, .func (.func 119) #[] #[.pointer (some ⟨pb, 0, none⟩)]] w fun e w' => e = .returned (.int .i64 (firstOf (fun k => !(wgB s.rooms.length s.days (gWg l k))) n)) ∧ Below w.heap.size w w' := by
 go_enter Try.func131, Try.ntmps131
 go_wp2
 go_loopw [8] (fun i wr => ∃ k : Nat, k ≤ n ∧ i = .int .i64 k ∧ (∀ k', k' < k → (wgB s.rooms.length s.days (gWg l k')) = true) ∧ Below w.heap.size w wr)
  (fun i _ => n - (intOf i).toNat)
 case atStart => exact ⟨0, by omega, rfl, fun j hj => by omega, Below.refl _ _⟩
 case round =>
  obtain ⟨k, hk, rfl, hok, hbl⟩ := hrel
  by_cases hlt : k < n
  ·
   have hAW := (hA.below hbl).up hbl.size
   obtain ⟨bi, oi, rfl, hbi, g0, g1, g2, g3⟩ := IsWgs.at_ hAW hlt
   have hcr : wr.cell? ⟨pb, 0, none⟩ = some (.func (.func 92) #[.agg #[.slice Ar s.rooms.length cr, .int .i64 s.days, .slice Am s.moves.length cm, .slice Aw s.wgs.length cw]] #[]) := (hbl.cell (p := ⟨pb, 0, none⟩) hp).trans hc
   have hpr : pb < wr.heap.size := by have := hbl.size; omega
   have HOK := Lib.hid hok
   clear hok
   cases ht : (wgB s.rooms.length s.days (gWg l k))
   ·
    have HT := Lib.hid ht
    have HF : Hid (firstOf (fun k => !(wgB s.rooms.length s.days (gWg l k))) n = (k : Int)) := Lib.hid (firstOf_at hlt (fun j hj => by have := HOK.out j hj; simp only [this]; rfl) (by simp only [ht]; rfl))
    clear ht
    go_wp2_with fail
    refine (all1_wg s Ar Am Aw cr cm cw hr hd n l wr  k pb hlt hpr hcr).mono ?_
    rintro e w2 ⟨rfl, hb2⟩
    rw [HT.out]
    go_wp2
    go_ret
    exact ⟨ret_int HF.out.symm, ex_trans hbl hb2⟩
   ·
    have HT := Lib.hid ht
    clear ht
    go_wp2_with fail
    refine (all1_wg s Ar Am Aw cr cm cw hr hd n l wr  k pb hlt hpr hcr).mono ?_
    rintro e w2 ⟨rfl, hb2⟩
    rw [HT.out]
    go_wp2
    go_roundw
    case rel => exact ⟨k + 1, by omega, by go_num, fun j hj => by rcases Nat.lt_succ_iff_lt_or_eq.1 hj with h | h; exact HOK.out j h; exact h ▸ HT.out, ex_trans hbl hb2⟩
    case measure => simp [intOf]; omega
  ·
   obtain rfl : k = n := by omega
   have HF : Hid (firstOf (fun k => !(wgB s.rooms.length s.days (gWg l k))) k = -1) := Lib.hid (firstOf_neg fun j hj => by have := hok j hj; simp only [this]; rfl)
   go_wp2
   go_ret
   exact ⟨ret_int HF.out.symm, hbl⟩

theorem contains_wg (s : Ws) (Ar Am Aw : Option Addr) (cr cm cw : Nat) (hr : s.rooms.length ≤ 1000000) (hd : 1 ≤ s.days ∧ s.days ≤ 6) (n : Nat) (l : List Wg) (A : Option Addr) (c : Nat) (w : World)  (hA : SlAt w w.heap.size 4 A n (fWg l)) (hl : n ≤ 1000000) (pb : Nat) (hp : pb < w.heap.size) (hc : w.cell? ⟨pb, 0, none⟩ = some (.func (.func 92) #[.agg #[.slice Ar s.rooms.length cr, .int .i64 s.days, .slice Am s.moves.length cm, .slice Aw s.wgs.length cw]] #[])) :
  Calls Try.prog 118 #[.slice A n c, .func (.func 119) #[] #[.pointer (some ⟨pb, 0, none⟩)]] w fun e w' => e = .returned (.bool (!allTo (fun k => (wgB s.rooms.length s.days (gWg l k))) n)) ∧ Below w.heap.size w w' := by
 have HF : Hid (decide (0 ≤ firstOf (fun k => !(wgB s.rooms.length s.days (gWg l k))) n) = !allTo (fun k => (wgB s.rooms.length s.days (gWg l k))) n) := Lib.hid (by rw [firstOf_nonneg]; simp)
 go_enter Try.func118, Try.ntmps118
 go_wp2_with fail
 refine (index_wg s Ar Am Aw cr cm cw hr hd n l A c w  hA hl pb hp hc).mono ?_
 rintro e w2 ⟨rfl, hb2⟩
 go_wp2
 go_ret
 exact ⟨ret_bool HF.out, hb2⟩

theorem all_wg (s : Ws) (Ar Am Aw : Option Addr) (cr cm cw : Nat) (hr : s.rooms.length ≤ 1000000) (hd : 1 ≤ s.days ∧ s.days ≤ 6) (n : Nat) (l : List Wg) (A : Option Addr) (c : Nat) (w : World)  (hA : SlAt w w.heap.size 4 A n (fWg l)) (hl : n ≤ 1000000) :
  Calls Try.prog 91 #[.slice A n c, .func (.func 92) #[.agg #[.slice Ar s.rooms.length cr, .int .i64 s.days, .slice Am s.moves.length cm, .slice Aw s.wgs.length cw]] #[]] w fun e w' => e = .returned (.bool (allTo (fun k => (wgB s.rooms.length s.days (gWg l k))) n)) ∧ Below w.heap.size w w' := by
 have hb1 := ex_alloc (Below.refl w.heap.size w) (.cells #[.func (.func 92) #[.agg #[.slice Ar s.rooms.length cr, .int .i64 s.days, .slice Am s.moves.length cm, .slice Aw s.wgs.length cw]] #[]] 165)
 have hA1 := (hA.below hb1).up hb1.size
 go_enter Try.func91, Try.ntmps91
 go_wp2_with fail
 refine (contains_wg s Ar Am Aw cr cm cw hr hd n l A c _  hA1 hl w.heap.size (by simp) (by simp [go_sem])).mono ?_
 rintro e w2 ⟨rfl, hb2⟩
 go_wp2
 go_ret
 exact ⟨by simp, ex_trans hb1 hb2⟩
set_option maxRecDepth 100000 in
set_option maxHeartbeats 3200000 in
theorem check_any (s : Ws) (Ar Am Aw : Option Addr) (cr cm cw : Nat) (w : World) (hs : WsIn w w.heap.size s Ar Am Aw) :
  Calls Try.prog 50 #[.agg #[.slice Ar s.rooms.length cr, .int .i64 s.days, .slice Am s.moves.length cm, .slice Aw s.wgs.length cw]] w fun e w' => e = .returned (.int .i64 (ckWs s)) ∧ Below w.heap.size w w' := by
 have hb1 := ex_alloc (Below.refl w.heap.size w) (.cells #[.slice Ar s.rooms.length cr, .int .i64 s.days, .slice Am s.moves.length cm, .slice Aw s.wgs.length cw] 42)
 have qw : Blk (w.alloc (.cells #[.slice Ar s.rooms.length cr, .int .i64 s.days, .slice Am s.moves.length cm, .slice Aw s.wgs.length cw] 42)) w.heap.size 42 #[.slice Ar s.rooms.length cr, .int .i64 s.days, .slice Am s.moves.length cm, .slice Aw s.wgs.length cw] := Blk.new _ _ _
 by_cases hl3 : 3 < s.rooms.length
 ·
  have hg3 : decide ((s.rooms.length : Int) > 3) = true := by simp; omega
  rw [show ckWs s = 3 from by unfold ckWs bigWs; rw [if_pos (by simp; omega)]]
  go_enter Try.func50, Try.ntmps50
  go_wp2
  go_ret
  exact ⟨rfl, hb1⟩
 ·
  have hg3 : decide ((s.rooms.length : Int) > 3) = false := by simp; omega
  by_cases hl12 : 12 < s.moves.length
  ·
   have hg12 : decide ((s.moves.length : Int) > 12) = true := by simp; omega
   rw [show ckWs s = 3 from by unfold ckWs bigWs; rw [if_pos (by simp; omega)]]
   go_enter Try.func50, Try.ntmps50
   go_wp2
   go_ret
   exact ⟨rfl, hb1⟩
  ·
   have hg12 : decide ((s.moves.length : Int) > 12) = false := by simp; omega
   by_cases hl8 : 8 < s.wgs.length
   ·
    have hg8 : decide ((s.wgs.length : Int) > 8) = true := by simp; omega
    rw [show ckWs s = 3 from by unfold ckWs bigWs; rw [if_pos (by simp; omega)]]
    go_enter Try.func50, Try.ntmps50
    go_wp2
    go_ret
    exact ⟨rfl, hb1⟩
   ·
    have hg8 : decide ((s.wgs.length : Int) > 8) = false := by simp; omega
    have HB : Hid (¬ bigWs s = true) := Lib.hid (by unfold bigWs; simp; omega)
    by_cases h0 : s.rooms.length = 0
    ·
     have hz : ((s.rooms.length : Int) == 0) = true := by simp [h0]
     have HZ := Lib.hid h0
     clear h0
     go_enter Try.func50, Try.ntmps50
     go_wp2
     go_ret
     exact ⟨ret_int (by unfold ckWs goodWs; rw [if_neg HB.out]; simp [HZ.out]), hb1⟩
    ·
     have hz : ((s.rooms.length : Int) == 0) = false := by simp [h0]
     have HZ := Lib.hid h0
     clear h0
     go_enter Try.func50, Try.ntmps50
     go_wp2_with fail
     generalize w.alloc (.cells #[.slice Ar s.rooms.length cr, .int .i64 s.days, .slice Am s.moves.length cm, .slice Aw s.wgs.length cw] 42) = V at *
     refine (within_any _ _ _ _).mono ?_
     rintro e w' ⟨rfl, rfl⟩
     cases hdy : inB s.days 1 6
     ·
      have aV0 : V.cell? ⟨w.heap.size, 0, none⟩ = some (.slice Ar s.rooms.length cr) := qw.cell 0
      have aV1 : V.cell? ⟨w.heap.size, 1, none⟩ = some (.int .i64 s.days) := qw.cell 1
      have aV2 : V.cell? ⟨w.heap.size, 2, none⟩ = some (.slice Am s.moves.length cm) := qw.cell 2
      have aV3 : V.cell? ⟨w.heap.size, 3, none⟩ = some (.slice Aw s.wgs.length cw) := qw.cell 3
      have alV := qw.lt
      go_wp2
      go_ret
      exact ⟨ret_int (by unfold ckWs goodWs; rw [if_neg HB.out]; simp [hdy]), hb1⟩
     ·
      have aV0 : V.cell? ⟨w.heap.size, 0, none⟩ = some (.slice Ar s.rooms.length cr) := qw.cell 0
      have aV1 : V.cell? ⟨w.heap.size, 1, none⟩ = some (.int .i64 s.days) := qw.cell 1
      have aV2 : V.cell? ⟨w.heap.size, 2, none⟩ = some (.slice Am s.moves.length cm) := qw.cell 2
      have aV3 : V.cell? ⟨w.heap.size, 3, none⟩ = some (.slice Aw s.wgs.length cw) := qw.cell 3
      have alV := qw.lt
      have hd := inB_iff.1 hdy
      replace hs := hs.go hb1
      go_wp2_with fail
      refine (all_room s.rooms.length s.rooms Ar cr V hs.rooms (by omega)).mono ?_
      rintro e V2 ⟨rfl, hV2⟩
      replace qw := qw.below hV2 qw.lt
      replace hs := hs.go hV2
      have B_V2 := ex_trans hb1 hV2
      cases har : allTo (fun k => roomB (gRm s.rooms k)) s.rooms.length
      ·
       have aV20 : V2.cell? ⟨w.heap.size, 0, none⟩ = some (.slice Ar s.rooms.length cr) := qw.cell 0
       have aV21 : V2.cell? ⟨w.heap.size, 1, none⟩ = some (.int .i64 s.days) := qw.cell 1
       have aV22 : V2.cell? ⟨w.heap.size, 2, none⟩ = some (.slice Am s.moves.length cm) := qw.cell 2
       have aV23 : V2.cell? ⟨w.heap.size, 3, none⟩ = some (.slice Aw s.wgs.length cw) := qw.cell 3
       have alV2 := qw.lt
       go_wp2
       go_ret
       exact ⟨ret_int (by unfold ckWs goodWs; rw [if_neg HB.out]; simp [har]), B_V2⟩
      ·
       have aV20 : V2.cell? ⟨w.heap.size, 0, none⟩ = some (.slice Ar s.rooms.length cr) := qw.cell 0
       have aV21 : V2.cell? ⟨w.heap.size, 1, none⟩ = some (.int .i64 s.days) := qw.cell 1
       have aV22 : V2.cell? ⟨w.heap.size, 2, none⟩ = some (.slice Am s.moves.length cm) := qw.cell 2
       have aV23 : V2.cell? ⟨w.heap.size, 3, none⟩ = some (.slice Aw s.wgs.length cw) := qw.cell 3
       have alV2 := qw.lt
       go_wp2_with fail
       refine (all_move s Ar Am Aw cr cm cw (by omega) hd s.moves.length s.moves Am cm V2 hs.moves (by omega)).mono ?_
       rintro e V3 ⟨rfl, hV3⟩
       replace qw := qw.below hV3 qw.lt
       replace hs := hs.go hV3
       have B_V3 := ex_trans B_V2 hV3
       cases ham : allTo (fun k => moveB s.rooms.length s.days (gMv s.moves k)) s.moves.length
       ·
        have aV30 : V3.cell? ⟨w.heap.size, 0, none⟩ = some (.slice Ar s.rooms.length cr) := qw.cell 0
        have aV31 : V3.cell? ⟨w.heap.size, 1, none⟩ = some (.int .i64 s.days) := qw.cell 1
        have aV32 : V3.cell? ⟨w.heap.size, 2, none⟩ = some (.slice Am s.moves.length cm) := qw.cell 2
        have aV33 : V3.cell? ⟨w.heap.size, 3, none⟩ = some (.slice Aw s.wgs.length cw) := qw.cell 3
        have alV3 := qw.lt
        go_wp2
        go_ret
        exact ⟨ret_int (by unfold ckWs goodWs; rw [if_neg HB.out]; simp [ham]), B_V3⟩
       ·
        have aV30 : V3.cell? ⟨w.heap.size, 0, none⟩ = some (.slice Ar s.rooms.length cr) := qw.cell 0
        have aV31 : V3.cell? ⟨w.heap.size, 1, none⟩ = some (.int .i64 s.days) := qw.cell 1
        have aV32 : V3.cell? ⟨w.heap.size, 2, none⟩ = some (.slice Am s.moves.length cm) := qw.cell 2
        have aV33 : V3.cell? ⟨w.heap.size, 3, none⟩ = some (.slice Aw s.wgs.length cw) := qw.cell 3
        have alV3 := qw.lt
        go_wp2_with fail
        refine (all_wg s Ar Am Aw cr cm cw (by omega) hd s.wgs.length s.wgs Aw cw V3 hs.wgs (by omega)).mono ?_
        rintro e V4 ⟨rfl, hV4⟩
        replace qw := qw.below hV4 qw.lt
        replace hs := hs.go hV4
        have B_V4 := ex_trans B_V3 hV4
        cases haw : allTo (fun k => wgB s.rooms.length s.days (gWg s.wgs k)) s.wgs.length
        ·
         have aV40 : V4.cell? ⟨w.heap.size, 0, none⟩ = some (.slice Ar s.rooms.length cr) := qw.cell 0
         have aV41 : V4.cell? ⟨w.heap.size, 1, none⟩ = some (.int .i64 s.days) := qw.cell 1
         have aV42 : V4.cell? ⟨w.heap.size, 2, none⟩ = some (.slice Am s.moves.length cm) := qw.cell 2
         have aV43 : V4.cell? ⟨w.heap.size, 3, none⟩ = some (.slice Aw s.wgs.length cw) := qw.cell 3
         have alV4 := qw.lt
         go_wp2
         go_ret
         exact ⟨ret_int (by unfold ckWs goodWs; rw [if_neg HB.out]; simp [haw]), B_V4⟩
        ·
         have aV40 : V4.cell? ⟨w.heap.size, 0, none⟩ = some (.slice Ar s.rooms.length cr) := qw.cell 0
         have aV41 : V4.cell? ⟨w.heap.size, 1, none⟩ = some (.int .i64 s.days) := qw.cell 1
         have aV42 : V4.cell? ⟨w.heap.size, 2, none⟩ = some (.slice Am s.moves.length cm) := qw.cell 2
         have aV43 : V4.cell? ⟨w.heap.size, 3, none⟩ = some (.slice Aw s.wgs.length cw) := qw.cell 3
         have alV4 := qw.lt
         go_wp2
         go_ret
         exact ⟨ret_int (by unfold ckWs goodWs; rw [if_neg HB.out]; simp [HZ.out, hdy, har, ham, haw]), B_V4⟩
end Go.Proofs.Ythihdiilokdidaa
end

section
namespace Go.Proofs.Ythihdiilokdidaa
open Go.RowKit
attribute [local go_sem] Ex.cell? Ex.frozen?

theorem sp_eq (s u : Spot) (w : World) : (Op.equal 169 (cSp s) (cSp u)).run Try.prog w = .ok (decide (s = u)) w := by
 obtain ⟨a, b⟩ := s
 obtain ⟨c, d⟩ := u
 unfold cSp
 simp [Op.equal, Op.maxDepth, go_sem]
 by_cases h1 : a = c <;> by_cases h2 : b = d <;> simp [h1, h2]
theorem cSp_ok : KeyOk 169 cSp where
 eq := sp_eq
 check := fun em s w => by
  have hc : ∀ (n : Nat) (x : Int) (w : World), (Instr.checkKey em (n + 1) 3 (.int .i64 x)).run Try.prog w = .ok () w := fun n x w => by
   rw [Instr.checkKey]
   simp [go_sem, run_underlying Try.underlying3]
  show (Instr.checkKey em (9999 + 1) 169 (cSp s)).run Try.prog w = _
  rw [Instr.checkKey]
  unfold cSp
  simp only [Sem.run_bind, run_underlying Try.underlying169, Result.andThen_ok]
  have hc' := fun x w => hc 9998 x w
  simp [go_sem, List.forIn_cons, hc']
 und := ⟨_, Try.underlying169, fun s e es i => by simp [Instr.findNow, Instr.sameNow, cSp]⟩
theorem cSp_fd : KeyFd 169 cSp := KeyFd.of cSp_ok (fun s w => by simp [Instr.keyThatStays, Instr.sameBits, cSp])
def cRg (r : Rg) : Value := .agg #[.int .i64 r.lo, .int .i64 r.hi]
abbrev StMp (W : World) (m : Nat) (F : Spot → Option Rg) : Prop := MpIs cSp cRg W m F
theorem range_info : (Try.prog.info? 50).map (fun i => (i.zero, i.size, i.bytes)) = some (some (.agg #[.int .i64 0, .int .i64 0]), 2, 16) := by kernel_rfl
set_option maxRecDepth 100000 in
set_option maxHeartbeats 3200000 in
theorem narrow_any (s : Ws) (Ar Am Aw : Option Addr) (cr cm cw m : Nat) (p : Spot) (lo hi : Int) (old : Rg) (F : Spot → Option Rg) (w : World) (hm : StMp w m F) (hp : F p = some old) :
  Calls Try.prog 107 #[.agg #[.slice Ar s.rooms.length cr, .int .i64 s.days, .slice Am s.moves.length cm, .slice Aw s.wgs.length cw, .map (some m)], cSp p, .agg #[.int .i64 lo, .int .i64 hi]] w fun e w' => e = .returned (.tuple #[]) ∧ StMp w' m (fun x => if x = p then some ⟨max old.lo lo, min old.hi hi⟩ else F x) ∧ Fr (fun b => b = m) w w' := by
 unfold cSp
 obtain ⟨olo, ohi⟩ := old
 have hb3 := ex_alloc (ex_alloc (ex_alloc (Below.refl w.heap.size w) (.cells #[.slice Ar s.rooms.length cr, .int .i64 s.days, .slice Am s.moves.length cm, .slice Aw s.wgs.length cw, .map (some m)] 153)) (.cells #[.int .i64 p.1, .int .i64 p.2] 169)) (.cells #[.int .i64 lo, .int .i64 hi] 50)
 have hb4 := ex_alloc hb3 (.cells #[.int .i64 olo, .int .i64 ohi] 50)
 have hm3 := hm.below hb3
 have hlk := MpIs.at_ (et := 50) Try.underlying151 cSp_fd hm3 p hp
 unfold cSp cRg at hlk
 go_enter Try.func107, Try.ntmps107
 go_upto_region 2 with fail
 have q0 : Blk ((((w.alloc (.cells #[.slice Ar s.rooms.length cr, .int .i64 s.days, .slice Am s.moves.length cm, .slice Aw s.wgs.length cw, .map (some m)] 153)).alloc (.cells #[.int .i64 p.1, .int .i64 p.2] 169)).alloc (.cells #[.int .i64 lo, .int .i64 hi] 50)).alloc (.cells #[.int .i64 olo, .int .i64 ohi] 50)) (w.heap.size) 153 #[.slice Ar s.rooms.length cr, .int .i64 s.days, .slice Am s.moves.length cm, .slice Aw s.wgs.length cw, .map (some m)] := (((Blk.new' _ _ _ (by simp)).alloc _).alloc _).alloc _
 have q1 : Blk ((((w.alloc (.cells #[.slice Ar s.rooms.length cr, .int .i64 s.days, .slice Am s.moves.length cm, .slice Aw s.wgs.length cw, .map (some m)] 153)).alloc (.cells #[.int .i64 p.1, .int .i64 p.2] 169)).alloc (.cells #[.int .i64 lo, .int .i64 hi] 50)).alloc (.cells #[.int .i64 olo, .int .i64 ohi] 50)) (w.heap.size + 1) 169 #[.int .i64 p.1, .int .i64 p.2] := ((Blk.new' _ _ _ (by simp)).alloc _).alloc _
 have q2 : Blk ((((w.alloc (.cells #[.slice Ar s.rooms.length cr, .int .i64 s.days, .slice Am s.moves.length cm, .slice Aw s.wgs.length cw, .map (some m)] 153)).alloc (.cells #[.int .i64 p.1, .int .i64 p.2] 169)).alloc (.cells #[.int .i64 lo, .int .i64 hi] 50)).alloc (.cells #[.int .i64 olo, .int .i64 ohi] 50)) (w.heap.size + 1 + 1) 50 #[.int .i64 lo, .int .i64 hi] := (Blk.new' _ _ _ (by simp)).alloc _
 have q3 : Blk ((((w.alloc (.cells #[.slice Ar s.rooms.length cr, .int .i64 s.days, .slice Am s.moves.length cm, .slice Aw s.wgs.length cw, .map (some m)] 153)).alloc (.cells #[.int .i64 p.1, .int .i64 p.2] 169)).alloc (.cells #[.int .i64 lo, .int .i64 hi] 50)).alloc (.cells #[.int .i64 olo, .int .i64 ohi] 50)) (w.heap.size + 1 + 1 + 1) 50 #[.int .i64 olo, .int .i64 ohi] := Blk.new' _ _ _ (by simp)
 show Code.wp _ _ _ _ ((((w.alloc (.cells #[.slice Ar s.rooms.length cr, .int .i64 s.days, .slice Am s.moves.length cm, .slice Aw s.wgs.length cw, .map (some m)] 153)).alloc (.cells #[.int .i64 p.1, .int .i64 p.2] 169)).alloc (.cells #[.int .i64 lo, .int .i64 hi] 50)).alloc (.cells #[.int .i64 olo, .int .i64 ohi] 50))
 have hm4 := hm.below hb4
 generalize (((w.alloc (.cells #[.slice Ar s.rooms.length cr, .int .i64 s.days, .slice Am s.moves.length cm, .slice Aw s.wgs.length cw, .map (some m)] 153)).alloc (.cells #[.int .i64 p.1, .int .i64 p.2] 169)).alloc (.cells #[.int .i64 lo, .int .i64 hi] 50)).alloc (.cells #[.int .i64 olo, .int .i64 ohi] 50) = V at *
 clear hlk hm3 hb3
 obtain ⟨p0, hp0⟩ : ∃ p, w.heap.size = p := ⟨_, rfl⟩
 rw [hp0] at q0 q1 q2 q3 ⊢
 have c00 : V.cell? ⟨p0, 0, none⟩ = some (.slice Ar s.rooms.length cr) := q0.cell 0
 have c01 : V.cell? ⟨p0, 1, none⟩ = some (.int .i64 s.days) := q0.cell 1
 have c02 : V.cell? ⟨p0, 2, none⟩ = some (.slice Am s.moves.length cm) := q0.cell 2
 have c03 : V.cell? ⟨p0, 3, none⟩ = some (.slice Aw s.wgs.length cw) := q0.cell 3
 have c04 : V.cell? ⟨p0, 4, none⟩ = some (.map (some m)) := q0.cell 4
 have l0 := q0.lt
 have c10 : V.cell? ⟨p0 + 1, 0, none⟩ = some (.int .i64 p.1) := q1.cell 0
 have c11 : V.cell? ⟨p0 + 1, 1, none⟩ = some (.int .i64 p.2) := q1.cell 1
 have l1 := q1.lt
 have c20 : V.cell? ⟨p0 + 1 + 1, 0, none⟩ = some (.int .i64 lo) := q2.cell 0
 have c21 : V.cell? ⟨p0 + 1 + 1, 1, none⟩ = some (.int .i64 hi) := q2.cell 1
 have l2 := q2.lt
 have c30 : V.cell? ⟨p0 + 1 + 1 + 1, 0, none⟩ = some (.int .i64 olo) := q3.cell 0
 have c31 : V.cell? ⟨p0 + 1 + 1 + 1, 1, none⟩ = some (.int .i64 ohi) := q3.cell 1
 have l3 := q3.lt
 refine wp_region_ext_tqF 15 (.quiet 0 (.quiet 1 (.quiet 2 (.quiet 3 (.quiet 4 (.quiet 5 (.quiet 6 (.quiet 8 (.quiet 9 (.quiet 10 (.quiet 11 (.fork 7 (.loud 12 (.loud 13 (.quiet 14 .done))) 12 (.fork 7 (.loud 13 (.quiet 14 .done)) 13 (.loud 7 (.quiet 14 .done))))))))))))))) (by kernel_rfl) (by kernel_rfl) (by intro d _ _ _ _ h; cases d <;> exact h) ?_
 have D0 := (Below.refl V.heap.size V).drew
 repeat (refine tq_quiet rfl ?_; go_big_quiet_step (fail); refine wpQuiet_nil ?_)
 obtain ⟨Y, hY⟩ : ∃ Y, V.drew = Y := ⟨_, rfl⟩
 rw [hY] at D0 ⊢
 clear hY
 have hmx : (if lo > olo then lo else olo) = max olo lo := by split <;> omega
 refine tq_fork rfl rfl ?_ ?_
 ·
  go_wp2_with fail
  refine ⟨inEx D0, ?_⟩
  repeat (refine tq_quiet rfl ?_; go_big_quiet_step (fail); refine wpQuiet_nil ?_)
  refine tq_loud rfl ?_
  have N1 := ex_trans D0 (ex_alloc (Below.refl Y.heap.size Y) (.cells #[.int .i64 ohi, .int .i64 hi] 3))
  have nb1 : Blk (Y.alloc (.cells #[.int .i64 ohi, .int .i64 hi] 3)) Y.heap.size 3 #[.int .i64 ohi, .int .i64 hi] := Blk.new _ _ _
  go_wp2_with fail
  generalize hZ1 : Y.alloc (.cells #[.int .i64 ohi, .int .i64 hi] 3) = Z1 at *
  refine ⟨inEx N1, ?_⟩
  repeat (refine tq_quiet rfl ?_; go_big_quiet_step (fail); refine wpQuiet_nil ?_)
  refine tq_loud rfl ?_
  go_wp2_with fail
  refine (least2 Y.heap.size 2 ohi hi Z1 (nb1.cell 0) (nb1.cell 1)).mono ?_
  rintro e w' ⟨rfl, rfl⟩
  go_wp2_with fail
  refine ⟨inEx N1, ?_⟩
  repeat (refine tq_quiet rfl ?_; go_big_quiet_step (fail); refine wpQuiet_nil ?_)
  obtain ⟨o, hup, hnew⟩ := MpIs.put (et := 50) Try.underlying151 cSp_fd (hm4.below N1) p (⟨max olo lo, min ohi hi⟩ : Rg)
  unfold cSp cRg at hup
  have HN := Lib.hid hnew
  clear hnew
  refine tq_done (r := [_]) rfl ?_
  go_wp2
  refine bodyPost_end (v := .tuple #[]) (results_none Try.results107 _ _ _) rfl ⟨rfl, HN.out, (Fr.below (ex_trans hb4 N1)).trans (fr_putO (fun b => b = m) _ m o rfl) (fun _ _ h => h)⟩
 ·
  have N2 := ex_trans D0 (ex_alloc (Below.refl Y.heap.size Y) (.cells #[.int .i64 ohi, .int .i64 hi] 3))
  have nb2 : Blk (Y.alloc (.cells #[.int .i64 ohi, .int .i64 hi] 3)) Y.heap.size 3 #[.int .i64 ohi, .int .i64 hi] := Blk.new _ _ _
  go_wp2_with fail
  generalize hZ2 : Y.alloc (.cells #[.int .i64 ohi, .int .i64 hi] 3) = Z2 at *
  refine ⟨inEx N2, ?_⟩
  repeat (refine tq_quiet rfl ?_; go_big_quiet_step (fail); refine wpQuiet_nil ?_)
  refine tq_fork rfl rfl ?_ ?_
  ·
   go_wp2_with fail
   refine ⟨inEx N2, ?_⟩
   repeat (refine tq_quiet rfl ?_; go_big_quiet_step (fail); refine wpQuiet_nil ?_)
   refine tq_loud rfl ?_
   go_wp2_with fail
   refine (least2 Y.heap.size 2 ohi hi Z2 (nb2.cell 0) (nb2.cell 1)).mono ?_
   rintro e w' ⟨rfl, rfl⟩
   go_wp2_with fail
   refine ⟨inEx N2, ?_⟩
   repeat (refine tq_quiet rfl ?_; go_big_quiet_step (fail); refine wpQuiet_nil ?_)
   obtain ⟨o, hup, hnew⟩ := MpIs.put (et := 50) Try.underlying151 cSp_fd (hm4.below N2) p (⟨max olo lo, min ohi hi⟩ : Rg)
   unfold cSp cRg at hup
   have HN := Lib.hid hnew
   clear hnew
   refine tq_done (r := [_]) rfl ?_
   go_wp2
   refine bodyPost_end (v := .tuple #[]) (results_none Try.results107 _ _ _) rfl ⟨rfl, HN.out, (Fr.below (ex_trans hb4 N2)).trans (fr_putO (fun b => b = m) _ m o rfl) (fun _ _ h => h)⟩
  ·
   go_wp2_with fail
   refine (least2 Y.heap.size 2 ohi hi Z2 (nb2.cell 0) (nb2.cell 1)).mono ?_
   rintro e w' ⟨rfl, rfl⟩
   go_wp2_with fail
   refine ⟨inEx N2, ?_⟩
   repeat (refine tq_quiet rfl ?_; go_big_quiet_step (fail); refine wpQuiet_nil ?_)
   refine tq_loud rfl ?_
   go_wp2_with fail
   refine ⟨inEx N2, ?_⟩
   repeat (refine tq_quiet rfl ?_; go_big_quiet_step (fail); refine wpQuiet_nil ?_)
   obtain ⟨o, hup, hnew⟩ := MpIs.put (et := 50) Try.underlying151 cSp_fd (hm4.below N2) p (⟨max olo lo, min ohi hi⟩ : Rg)
   unfold cSp cRg at hup
   have HN := Lib.hid hnew
   clear hnew
   refine tq_done (r := [_]) rfl ?_
   go_wp2
   refine bodyPost_end (v := .tuple #[]) (results_none Try.results107 _ _ _) rfl ⟨rfl, HN.out, (Fr.below (ex_trans hb4 N2)).trans (fr_putO (fun b => b = m) _ m o rfl) (fun _ _ h => h)⟩
end Go.Proofs.Ythihdiilokdidaa
end

section
namespace Go.Proofs.Ythihdiilokdidaa
open Go.RowKit
attribute [local go_sem] Ex.cell? Ex.frozen?

def cAr (a : Ar) : List Value := [.int .i64 (a.tgt : Int), .int .i64 a.room, .int .i64 (a.back : Int)]
theorem cAr_len (a : Ar) : (cAr a).length = 3 := rfl
def vA (vals : List Value) (i : Nat) : Value := vals.getD i undef
def numF (sp : List Spot) : Spot → Option Int := fun s => if s ∈ sp then some (sp.idxOf s : Int) else none
def NetTy (t : TypeId) : Prop := t = 207 ∨ t = 205 ∨ t = 185
def NetObj (o : Obj) : Prop := ∃ cs t fr, o = .cells cs t fr ∧ NetTy t
structure NetFr (base mb : Nat) (w w' : World) : Prop where
  os : w'.os = w.os
  tape : w'.tape = w.tape
  output : w'.output = w.output
  size : w.heap.size ≤ w'.heap.size
  low : ∀ k, k < base → k < w.heap.size → w'.heap[k]? = w.heap[k]?
  same : ∀ k o, w.heap[k]? = some o → k ≠ mb → ¬ NetObj o → w'.heap[k]? = some o
section
variable {base mb : Nat} {w w' w2 : World}
theorem NetFr.refl (base mb : Nat) (w : World) : NetFr base mb w w := ⟨rfl, rfl, rfl, Nat.le_refl _, fun _ _ _ => rfl, fun _ _ h _ _ => h⟩
theorem NetFr.trans (h : NetFr base mb w w') (k : NetFr base mb w' w2) : NetFr base mb w w2 :=
  ⟨k.os.trans h.os, k.tape.trans h.tape, k.output.trans h.output, Nat.le_trans h.size k.size, fun i hi hs => (k.low i hi (Nat.lt_of_lt_of_le hs h.size)).trans (h.low i hi hs), fun i o ho hne hn => k.same i o (h.same i o ho hne hn) hne hn⟩
theorem NetFr.below (h : Below w.heap.size w w') : NetFr base mb w w' := ⟨h.os, h.tape, h.output, h.size, fun k _ hs => h.block k hs, fun k o ho _ _ => (h.block k (Array.getElem?_eq_some_iff.1 ho).1).trans ho⟩
theorem NetFr.drew (h : NetFr base mb w w') : NetFr base mb w w'.drew := ⟨h.os, h.tape, h.output, h.size, h.low, h.same⟩
theorem NetFr.toBelow {w0 : World} {B : Nat} (h : NetFr base mb w w') (hb : Below B w0 w) (hB : B ≤ base) (hs : B ≤ w.heap.size) : Below B w0 w' :=
  ⟨h.os.trans hb.os, h.tape.trans hb.tape, h.output.trans hb.output, Nat.le_trans hb.size h.size, fun k hk => (h.low k (by omega) (by omega)).trans (hb.block k hk)⟩
theorem NetFr.set {g : Nat} {cs : Array Value} {t : TypeId} {fr : Nat × Nat} (hg : w.heap[g]? = some (.cells cs t fr)) (ht : NetTy t) (hb : base ≤ g) (i : Nat) (v : Value) : NetFr base mb w (w.setCell ⟨g, i, none⟩ v) :=
  ⟨rfl, rfl, rfl, by simp, fun k hk _ => Below.heap_setCell w ⟨g, i, none⟩ v k (fun e => by have : k = g := e; omega), fun k o ho _ hn => (Below.heap_setCell w ⟨g, i, none⟩ v k (fun e => hn (by
    have : k = g := e
    subst this
    rw [hg] at ho; cases ho; exact ⟨_, _, _, rfl, ht⟩))).trans ho⟩
theorem NetFr.grown {e : TypeId} {sz n : Nat} {v : Value} {xs : List Value} (ho : w.ownsRow base e sz v n xs) (ht : NetTy e) (h : w.grownBy w' v.ownBlock) : NetFr base mb w w' := by
  refine ⟨h.os, h.tape, h.output, h.size, fun k hk hs => h.block k hs (fun e => ?_), fun k o hk _ hn => (h.block k (Array.getElem?_eq_some_iff.1 hk).1 (fun e => ?_)).trans hk⟩
  · have := own_ge ho e.symm; omega
  · rcases ho.2 with ⟨rfl, _⟩ | ⟨g, cap, cur, rfl, _, hh, _⟩
    · simp [Value.ownBlock] at e
    · have hg : k = g := by simpa [Value.ownBlock] using e
      subst hg
      rw [hh] at hk; cases hk
      exact hn ⟨_, _, _, rfl, ht⟩
theorem NetFr.putO {o : Obj} (hb : base ≤ mb) : NetFr base mb w (w.putObj mb o) :=
  ⟨rfl, rfl, rfl, by simp, fun k hk _ => World.putObj_heap_other (by omega), fun k o ho hne _ => (World.putObj_heap_other hne).trans ho⟩
theorem Blk.nf {g : Nat} {t : TypeId} {cs : Array Value} (h : Blk w g t cs) (hf : NetFr base mb w w') (hm : g ≠ mb) (ht : ¬ NetTy t) : Blk w' g t cs := hf.same g _ h hm (fun ⟨_, _, _, e, h'⟩ => by cases e; exact ht h')
theorem MpIs.nf {α β : Type} [DecidableEq α] {kV : α → Value} {vV : β → Value} {b : Nat} {F : α → Option β} (h : MpIs kV vV w b F) (hf : NetFr base mb w w') (hm : b ≠ mb) : MpIs kV vV w' b F := by
  obtain ⟨L, h1, h2⟩ := h
  exact ⟨L, hf.same b _ h1 hm (fun ⟨_, _, _, e, _⟩ => by cases e), h2⟩
end
structure NetM (W : World) (base q mb : Nat) (sp : List Spot) (N : Nat) (R : Nat → List Ar) (vo : Value) (vals : List Value) : Prop where
  blk : Blk W q 185 #[.map (some mb), vo]
  out : W.ownsRow base 205 1 vo vals.length vals
  len : vals.length = N
  rows : ∀ i, i < N → W.ownsRow base 207 3 (vA vals i) (R i).length ((R i).flatMap cAr)
  ne : ∀ i j b, i < N → j < N → (vA vals i).ownBlock = some b → (vA vals j).ownBlock = some b → i = j
  num : MpIs cSp keyI W mb (numF sp)
  qb : base ≤ q ∧ base ≤ mb
section
variable {W W' : World} {base q mb N : Nat} {sp : List Spot} {R : Nat → List Ar} {vo : Value} {vals : List Value}
theorem NetM.below (h : NetM W base q mb sp N R vo vals) (hb : Below W.heap.size W W') : NetM W' base q mb sp N R vo vals :=
  ⟨h.blk.below hb h.blk.lt, own_below h.out hb, h.len, fun i hi => own_below (h.rows i hi) hb, h.ne, h.num.below hb, h.qb⟩
theorem own_isMap {w : World} {base : Nat} {e : TypeId} {sz n : Nat} {v : Value} {xs : List Value} (h : w.ownsRow base e sz v n xs) {α β : Type} [DecidableEq α] {kV : α → Value} {vV : β → Value} {m : Nat} {F : α → Option β} (hm : MpIs kV vV w m F) : v.ownBlock ≠ some m := by
  obtain ⟨L, hL, _⟩ := hm
  rcases h.2 with ⟨rfl, _⟩ | ⟨g, cap, cur, rfl, _, hh, _⟩
  · simp [Value.ownBlock]
  · intro e
    have : g = m := by simpa [Value.ownBlock] using e
    subst this
    have h2 : w.heap[g]? = some (.map (mkE kV vV L) L.length) := hL
    rw [hh] at h2; cases h2
theorem blk_isMap {w : World} {g : Nat} {t : TypeId} {cs : Array Value} (h : Blk w g t cs) {α β : Type} [DecidableEq α] {kV : α → Value} {vV : β → Value} {m : Nat} {F : α → Option β} (hm : MpIs kV vV w m F) : g ≠ m := by
  obtain ⟨L, hL, _⟩ := hm
  rintro rfl
  have h2 : w.heap[g]? = some (.map (mkE kV vV L) L.length) := hL
  have h1 : w.heap[g]? = some (.cells cs t (0, 0)) := h
  rw [h1] at h2; cases h2
theorem vA_at {i : Nat} (hi : i < vals.length) : vals[i]? = some (vA vals i) := by simp [vA, hi]
theorem vA_set {i j : Nat} {v : Value} (hj : j < vals.length) : vA (vals.set i v) j = if j = i then v else vA vals j := by
  simp only [vA, List.getD_eq_getElem?_getD, List.getElem?_set]
  by_cases h : i = j
  · subst h; simp [hj]
  · rw [if_neg h, if_neg (fun e => h e.symm)]
theorem NetM.outer (h : NetM W base q mb sp N R vo vals) (hN : 0 < N) : ∃ g cap, vo = .slice (some ⟨g, 0, none⟩) N cap ∧ base ≤ g ∧ g < W.heap.size ∧ N ≤ cap ∧ (∀ i, i < N → W.cell? ⟨g, i, none⟩ = some (vA vals i)) ∧ (∀ i, W.frozen? ⟨g, i, none⟩ = false) ∧ ∃ cs, W.heap[g]? = some (.cells cs 205 (0, 0)) := by
  have ho := h.out
  rcases ho.2 with ⟨_, h0⟩ | ⟨g, cap, cur, rfl, hb, hh, hnc, hcm, hsz, hc⟩
  · rw [h.len] at h0; omega
  · rw [h.len] at hnc
    refine ⟨g, cap, by rw [h.len], hb, (Array.getElem?_eq_some_iff.1 hh).1, hnc, fun i hi => ?_, fun i => by simp [World.frozen?, hh], cur, hh⟩
    rw [cell_of_row W g i cur _ (0, 0) hh, ← Array.getElem?_toList]
    have h1 := vA_at (vals := vals) (i := i) (by rw [h.len]; exact hi)
    rw [← h1]
    conv => rhs; rw [← hc]
    rw [List.getElem?_take, if_pos (by rw [h.len]; omega)]
theorem own_form {w : World} {base : Nat} {e : TypeId} {sz n : Nat} {v : Value} {xs : List Value} (h : w.ownsRow base e sz v n xs) : ∃ A c, v = .slice A n c := by
  rcases h.2 with ⟨rfl, rfl⟩ | ⟨g, cap, cur, rfl, _⟩
  · exact ⟨none, 0, rfl⟩
  · exact ⟨_, _, rfl⟩
theorem arc_row (h : NetM W base q mb sp N R vo vals) {i k : Nat} (hi : i < N) (hk : k < (R i).length) : ∃ g cap, vA vals i = .slice (some ⟨g, 0, none⟩) (R i).length cap ∧ base ≤ g ∧ g < W.heap.size ∧ W.cell? ⟨g, k * 3, none⟩ = some (.int .i64 ((R i)[k].tgt : Int)) ∧ W.cell? ⟨g, k * 3 + 1, none⟩ = some (.int .i64 (R i)[k].room) ∧ W.cell? ⟨g, k * 3 + 2, none⟩ = some (.int .i64 ((R i)[k].back : Int)) ∧ (∀ j, W.frozen? ⟨g, j, none⟩ = false) ∧ ∃ cs, W.heap[g]? = some (.cells cs 207 (0, 0)) := by
  have ho := h.rows i hi
  obtain ⟨g, cap, e, hb, hl, _, _, hc, hf⟩ := own_cell ho (by omega)
  have hlen : ((R i).flatMap cAr).length = (R i).length * 3 := flat_len cAr_len (R i)
  refine ⟨g, cap, e, hb, hl, ?_, ?_, ?_, hf, ?_⟩
  · rw [hc _ (by omega), ← Nat.add_zero (k * 3), flat_get cAr_len hk (by omega)]; rfl
  · rw [hc _ (by omega), flat_get cAr_len hk (by omega)]; rfl
  · rw [hc _ (by omega), flat_get cAr_len hk (by omega)]; rfl
  · rcases ho.2 with ⟨e2, h0⟩ | ⟨g2, cap2, cur, e2, _, hh, _⟩
    · omega
    · rw [e] at e2
      injection e2 with e2 _ _
      injection e2 with e2
      injection e2 with e2
      subst e2
      exact ⟨cur, hh⟩
theorem NetM.turn (h : NetM W base q mb sp N R vo vals) {S : Nat → Prop} (hf : Fr S W W') (h1 : ¬ S q) (h2 : ¬ S mb) (h3 : ∀ b, vo.ownBlock = some b → ¬ S b) :
    Blk W' q 185 #[.map (some mb), vo] ∧ W'.ownsRow base 205 1 vo vals.length vals ∧ (∀ j, j < N → (∀ b, (vA vals j).ownBlock = some b → ¬ S b) → W'.ownsRow base 207 3 (vA vals j) (R j).length ((R j).flatMap cAr)) ∧ MpIs cSp keyI W' mb (numF sp) :=
  ⟨h.blk.fr hf h1, own_fr h.out hf h3, fun j hj hn => own_fr (h.rows j hj) hf hn, h.num.fr hf h2⟩
def setR (R : Nat → List Ar) (i : Nat) (l : List Ar) : Nat → List Ar := fun j => if j = i then l else R j
theorem NetM.room (h : NetM W base q mb sp N R vo vals) {i k : Nat} (hi : i < N) (hk : k < (R i).length) {g cap : Nat} (hg : vA vals i = .slice (some ⟨g, 0, none⟩) (R i).length cap) (x : Int) :
    NetM (W.setCell ⟨g, k * 3 + 1, none⟩ (.int .i64 x)) base q mb sp N (setR R i ((R i).set k ⟨(R i)[k].tgt, x, (R i)[k].back⟩)) vo vals ∧ NetFr base mb W (W.setCell ⟨g, k * 3 + 1, none⟩ (.int .i64 x)) := by
  have ho := h.rows i hi
  have hob : (vA vals i).ownBlock = some g := by rw [hg]; rfl
  have hF := Fr.set (R := fun b => b = g) W g (k * 3 + 1) (.int .i64 x) rfl
  have hq : ¬ q = g := fun e => own_blkne ho h.blk (by decide) (by rw [hob, e])
  have hm : ¬ mb = g := fun e => own_isMap ho h.num (by rw [hob, e])
  have hv : ∀ b, vo.ownBlock = some b → ¬ b = g := fun b hb e => own_ownne ho h.out (by decide) hob (e ▸ hb)
  obtain ⟨t1, t2, t3, t4⟩ := h.turn hF hq hm hv
  have hlen : ((R i).flatMap cAr).length = (R i).length * 3 := flat_len cAr_len (R i)
  obtain ⟨g2, _, e2, hb2, _, _, _, _, _, cs, hcs⟩ := arc_row h hi hk
  rw [hg] at e2
  injection e2 with e2 _ _
  injection e2 with e2
  injection e2 with e2
  subst e2
  refine ⟨⟨t1, t2, h.len, fun j hj => ?_, h.ne, t4, h.qb⟩, NetFr.set hcs (.inl rfl) hb2 _ _⟩
  unfold setR
  by_cases e : j = i
  · subst e
    rw [if_pos rfl]
    have := own_set ho hob (j := k * 3 + 1) (by omega) (.int .i64 x)
    rw [flat_set cAr_len hk (by omega) (a := ⟨(R j)[k].tgt, x, (R j)[k].back⟩) rfl] at this
    rw [List.length_set]
    exact this
  · rw [if_neg e]
    exact t3 j hj (fun b hb hbg => e (h.ne j i b hj hi hb (by rw [hob, hbg])))
theorem NetM.push (h : NetM W base q mb sp N R vo vals) {i : Nat} (hi : i < N) {a : Ar} {v' : Value} {W1 : World} (hg : W.grownBy W1 (vA vals i).ownBlock) (ho : W1.ownsRow base 207 3 v' (R i ++ [a]).length ((R i ++ [a]).flatMap cAr))
    (hat : ∀ b, v'.ownBlock = some b → (vA vals i).ownBlock = some b ∨ W.heap.size ≤ b) {go : Nat} (hgo : vo.ownBlock = some go) :
    NetM (W1.setCell ⟨go, i, none⟩ v') base q mb sp N (setR R i (R i ++ [a])) vo (vals.set i v') ∧ NetFr base mb W (W1.setCell ⟨go, i, none⟩ v') := by
  have hoi := h.rows i hi
  have hF := Fr.grown (R := fun b => (vA vals i).ownBlock = some b) hg (fun b hb => .inl hb)
  have hq : ¬ (vA vals i).ownBlock = some q := own_blkne hoi h.blk (by decide)
  have hm : ¬ (vA vals i).ownBlock = some mb := own_isMap hoi h.num
  have hv : ∀ b, vo.ownBlock = some b → ¬ (vA vals i).ownBlock = some b := fun b hb e => own_ownne hoi h.out (by decide) e hb
  obtain ⟨t1, t2, t3, t4⟩ := h.turn hF hq hm hv
  have hF2 := Fr.set (R := fun b => b = go) W1 go i v' rfl
  have hq2 : ¬ q = go := fun e => own_blkne h.out h.blk (by decide) (by rw [hgo, e])
  have hm2 : ¬ mb = go := fun e => own_isMap h.out h.num (by rw [hgo, e])
  have hvl : i < vals.length := by rw [h.len]; exact hi
  have hset := own_set t2 hgo (j := i) hvl v'
  have hcs : ∃ cs, W1.heap[go]? = some (.cells cs 205 (0, 0)) ∧ base ≤ go := by
    rcases t2.2 with ⟨e, _⟩ | ⟨g, cap, cur, e, hb, hh, _⟩
    · rw [e] at hgo; simp [Value.ownBlock] at hgo
    · rw [e] at hgo
      have : g = go := by simpa [Value.ownBlock] using hgo
      subst this
      exact ⟨cur, hh, hb⟩
  obtain ⟨cs, hcs, hbo⟩ := hcs
  refine ⟨⟨t1.fr hF2 hq2, by rw [List.length_set]; exact hset, by rw [List.length_set]; exact h.len, fun j hj => ?_, fun j k b hj hk h1 h2 => ?_, t4.fr hF2 hm2, h.qb⟩, (NetFr.grown hoi (.inl rfl) hg).trans (NetFr.set hcs (.inr (.inl rfl)) hbo _ _)⟩
  · rw [vA_set (by rw [h.len]; exact hj)]
    unfold setR
    have hgne : ∀ {u : Value} {m : Nat} {xs : List Value}, W1.ownsRow base 207 3 u m xs → ∀ b, u.ownBlock = some b → ¬ b = go := fun hu b hb e => own_ownne hu t2 (by decide) hb (by rw [hgo, e])
    by_cases e : j = i
    · subst e
      rw [if_pos rfl, if_pos rfl]
      exact own_fr ho hF2 (hgne ho)
    · rw [if_neg e, if_neg e]
      have := t3 j hj (fun b hb hbi => e (h.ne j i b hj hi hb hbi))
      exact own_fr this hF2 (hgne this)
  · rw [vA_set (by rw [h.len]; exact hj)] at h1
    rw [vA_set (by rw [h.len]; exact hk)] at h2
    have key : ∀ x, x < N → x ≠ i → (vA vals x).ownBlock = some b → v'.ownBlock = some b → False := fun x hx hne e1 e2 => by
      rcases hat b e2 with h3 | h3
      · exact hne (h.ne x i b hx hi e1 h3)
      · have := own_lt (h.rows x hx) e1; omega
    by_cases ej : j = i <;> by_cases ek : k = i
    · omega
    · rw [if_pos ej] at h1; rw [if_neg ek] at h2; exact (key k hk ek h2 h1).elim
    · rw [if_neg ej] at h1; rw [if_pos ek] at h2; exact (key j hj ej h1 h2).elim
    · rw [if_neg ej] at h1; rw [if_neg ek] at h2; exact h.ne j k b hj hk h1 h2
theorem NetM.node (h : NetM W base q mb sp N R vo vals) (hR : R N = []) {vo' : Value} {W1 : World} (hg : W.grownBy W1 vo.ownBlock) (ho : W1.ownsRow base 205 1 vo' (vals.length + 1) (vals ++ [.slice none 0 0]))
    (hat : ∀ b, vo'.ownBlock = some b → vo.ownBlock = some b ∨ W.heap.size ≤ b) : NetM (W1.setCell ⟨q, 1, none⟩ vo') base q mb sp (N + 1) R vo' (vals ++ [.slice none 0 0]) ∧ NetFr base mb W (W1.setCell ⟨q, 1, none⟩ vo') := by
  have hF := Fr.grown (R := fun b => vo.ownBlock = some b) hg (fun b hb => .inl hb)
  have hq : ¬ vo.ownBlock = some q := own_blkne h.out h.blk (by decide)
  have hm : ¬ vo.ownBlock = some mb := own_isMap h.out h.num
  have t1 := h.blk.fr hF hq
  have t4 := h.num.fr hF hm
  have hF2 := Fr.set (R := fun b => b = q) W1 q 1 vo' rfl
  have hmq : ¬ mb = q := fun e => blk_isMap h.blk h.num e.symm
  have hset := t1.set_ 1 vo'
  simp only [List.setIfInBounds_toArray, List.set_cons_zero, List.set_cons_succ] at hset
  have hlen : (vals ++ [Value.slice none 0 0]).length = vals.length + 1 := by simp
  have hv : ∀ j, j < N → vA (vals ++ [Value.slice none 0 0]) j = vA vals j := fun j hj => by simp [vA, List.getElem?_append, show j < vals.length by rw [h.len]; exact hj]
  have hvN : vA (vals ++ [Value.slice none 0 0]) N = .slice none 0 0 := by rw [← h.len]; simp [vA]
  refine ⟨⟨hset, by rw [hlen]; exact own_fr ho hF2 (fun b hb e => own_blkne ho t1 (by decide) (by rw [hb, e])), by rw [hlen, h.len], fun j hj => ?_, fun j k b hj hk h1 h2 => ?_, t4.fr hF2 hmq, h.qb⟩, (NetFr.grown h.out (.inr (.inl rfl)) hg).trans (NetFr.set t1 (.inr (.inr rfl)) h.qb.1 _ _)⟩
  · rcases Nat.lt_succ_iff_lt_or_eq.1 hj with hj | hj
    · rw [hv j hj]
      have := own_fr (h.rows j hj) hF (fun b hb e => own_ownne (h.rows j hj) h.out (by decide) hb e)
      exact own_fr this hF2 (fun b hb e => own_blkne this t1 (by decide) (by rw [hb, e]))
    · subst hj
      rw [hvN, hR]
      exact ⟨by simp, .inl ⟨rfl, rfl⟩⟩
  · rcases Nat.lt_succ_iff_lt_or_eq.1 hj with hj | hj
    · rcases Nat.lt_succ_iff_lt_or_eq.1 hk with hk | hk
      · rw [hv j hj] at h1; rw [hv k hk] at h2; exact h.ne j k b hj hk h1 h2
      · subst hk; rw [hvN] at h2; simp [Value.ownBlock] at h2
    · subst hj; rw [hvN] at h1; simp [Value.ownBlock] at h1
end
end Go.Proofs.Ythihdiilokdidaa
end

section
namespace Go.Proofs.Ythihdiilokdidaa
open Go.RowKit
attribute [local go_sem] Ex.cell? Ex.frozen?

theorem arcs_info : (Try.prog.info? 205).map (fun i => (i.zero, i.size, i.bytes)) = some (some (.slice none 0 0), 1, 24) := by kernel_rfl
theorem int_infoS : (Try.prog.info? 3).map (fun i => (i.zero, i.size, i.bytes)) = some (some (.int .i64 0), 1, 8) := by kernel_rfl
theorem numF_in {sp : List Spot} {x : Spot} (h : x ∈ sp) : numF sp x = some (sp.idxOf x : Int) := by unfold numF; rw [if_pos h]
theorem numF_out {sp : List Spot} {x : Spot} (h : x ∉ sp) : numF sp x = none := by unfold numF; rw [if_neg h]
def addS (sp : List Spot) (s : Spot) : List Spot := if s ∈ sp then sp else sp ++ [s]
theorem addS_in {sp : List Spot} {s : Spot} (h : s ∈ sp) : addS sp s = sp := by unfold addS; rw [if_pos h]
theorem addS_out {sp : List Spot} {s : Spot} (h : s ∉ sp) : addS sp s = sp ++ [s] := by unfold addS; rw [if_neg h]
theorem numF_snoc {sp : List Spot} {s : Spot} (h : s ∉ sp) (x : Spot) : (if x = s then some ((sp.length : Nat) : Int) else numF sp x) = numF (sp ++ [s]) x := by
  unfold numF
  by_cases e : x = s
  · subst e
    rw [if_pos rfl, if_pos (by simp), List.idxOf_append, if_neg h]
    simp
  · rw [if_neg e]
    by_cases h2 : x ∈ sp
    · rw [if_pos h2, if_pos (by simp [h2]), List.idxOf_append, if_pos h2]
    · rw [if_neg h2, if_neg (by simp [h2, e])]
theorem NetM.remap {W : World} {base q mb N : Nat} {sp sp' : List Spot} {R : Nat → List Ar} {vo : Value} {vals : List Value} (h : NetM W base q mb sp N R vo vals) {o : Obj} (hm : MpIs cSp keyI (W.putObj mb o) mb (numF sp')) : NetM (W.putObj mb o) base q mb sp' N R vo vals := by
  have hF := fr_putO (fun b => b = mb) W mb o rfl
  have hq : ¬ q = mb := blk_isMap h.blk h.num
  exact ⟨h.blk.fr hF hq, own_fr h.out hF (fun b hb e => own_isMap h.out h.num (by rw [hb, e])), h.len, fun i hi => own_fr (h.rows i hi) hF (fun b hb e => own_isMap (h.rows i hi) h.num (by rw [hb, e])), h.ne, hm, h.qb⟩
set_option maxRecDepth 100000 in
set_option maxHeartbeats 6400000 in
theorem node_any (base q mb : Nat) (sp : List Spot) (R : Nat → List Ar) (vo : Value) (vals : List Value) (s : Spot) (w : World) (hn : NetM w base q mb sp sp.length R vo vals) (hb : sp.length ≤ 1000) (hR : ∀ i, sp.length ≤ i → R i = []) :
    Calls Try.prog 109 #[.pointer (some ⟨q, 0, none⟩), cSp s] w fun e w' => e = .returned (.int .i64 ((addS sp s).idxOf s : Int)) ∧ ∃ vo' vals', NetM w' base q mb (addS sp s) (addS sp s).length R vo' vals' ∧ NetFr base mb w w' := by
  unfold cSp
  obtain ⟨N, hN⟩ : ∃ N, sp.length = N := ⟨_, rfl⟩
  have HN := Lib.hid hN
  rw [hN] at hn hb hR
  clear hN
  obtain ⟨Ao, co, rfl⟩ := own_form hn.out
  have hvl := hn.len
  rw [hvl] at hn
  have HVL := Lib.hid hvl
  clear hvl
  obtain ⟨i0, hi0, hz0, hz1, hz2⟩ := info_parts int_infoS
  by_cases hin : s ∈ sp
  · have hb1 := ex_alloc (Below.refl w.heap.size w) (.cells #[.int .i64 s.1, .int .i64 s.2] 169)
    have qs : Blk (w.alloc (.cells #[.int .i64 s.1, .int .i64 s.2] 169)) w.heap.size 169 #[.int .i64 s.1, .int .i64 s.2] := Blk.new _ _ _
    have hn1 := hn.below hb1
    have hf1 : NetFr base mb w (w.alloc (.cells #[.int .i64 s.1, .int .i64 s.2] 169)) := NetFr.below hb1
    go_enter Try.func109, Try.ntmps109
    go_upto_region 1 with fail
    generalize w.alloc (.cells #[.int .i64 s.1, .int .i64 s.2] 169) = V at *
    obtain ⟨ps, hps⟩ : ∃ p, w.heap.size = p := ⟨_, rfl⟩
    rw [hps] at qs ⊢
    have c0 : V.cell? ⟨q, 0, none⟩ = some (.map (some mb)) := hn1.blk.cell 0
    have c1 : V.cell? ⟨q, 1, none⟩ = some (.slice Ao N co) := hn1.blk.cell 1
    have lq := hn1.blk.lt
    have d0 : V.cell? ⟨ps, 0, none⟩ = some (.int .i64 s.1) := qs.cell 0
    have d1 : V.cell? ⟨ps, 1, none⟩ = some (.int .i64 s.2) := qs.cell 1
    have ls := qs.lt
    have hlk : ∀ X : Ex V, (Instr.lookup 182 (.map (some mb)) (.agg #[.int .i64 s.1, .int .i64 s.2]) true).run Try.prog X.W = .ok (.tuple #[.int .i64 (sp.idxOf s : Int), .bool true]) X.W := fun X => by
      have := MpIs.at2 (et := 3) Try.underlying182 hi0 hz0 cSp_fd (hn1.num.below (X.h.mono (Nat.le_refl _))) s
      rw [numF_in hin] at this
      exact this
    refine wp_region_ext_mix 10 [(false, 0), (false, 1), (false, 2), (false, 3), (false, 4), (false, 5), (false, 6), (false, 7), (false, 8), (false, 9)] (by kernel_rfl) (by kernel_rfl) (by intro d _ _ _ _ h; cases d <;> exact h) ?_
    have D0 := (Below.refl V.heap.size V).drew
    repeat (refine mix_quiet rfl ?_; go_big_quiet_step (fail); refine wpQuiet_nil ?_)
    refine mix_nil rfl ?_
    have hn2 := hn1.below D0
    have hf2 := hf1.trans (NetFr.below (base := base) (mb := mb) D0)
    have HIN := Lib.hid hin
    clear hin hlk
    go_wp2
    go_ret
    exact ⟨by rw [addS_in HIN.out]; rfl, _, _, by rw [addS_in HIN.out, HN.out]; exact hn2, hf2⟩
  · have hb1 := ex_alloc (Below.refl w.heap.size w) (.cells #[.int .i64 s.1, .int .i64 s.2] 169)
    have qs : Blk (w.alloc (.cells #[.int .i64 s.1, .int .i64 s.2] 169)) w.heap.size 169 #[.int .i64 s.1, .int .i64 s.2] := Blk.new _ _ _
    have hn1 := hn.below hb1
    have hf1 : NetFr base mb w (w.alloc (.cells #[.int .i64 s.1, .int .i64 s.2] 169)) := NetFr.below hb1
    go_enter Try.func109, Try.ntmps109
    go_upto_region 1 with fail
    generalize w.alloc (.cells #[.int .i64 s.1, .int .i64 s.2] 169) = V at *
    obtain ⟨ps, hps⟩ : ∃ p, w.heap.size = p := ⟨_, rfl⟩
    rw [hps] at qs ⊢
    have c0 : V.cell? ⟨q, 0, none⟩ = some (.map (some mb)) := hn1.blk.cell 0
    have c1 : V.cell? ⟨q, 1, none⟩ = some (.slice Ao N co) := hn1.blk.cell 1
    have lq := hn1.blk.lt
    have d0 : V.cell? ⟨ps, 0, none⟩ = some (.int .i64 s.1) := qs.cell 0
    have d1 : V.cell? ⟨ps, 1, none⟩ = some (.int .i64 s.2) := qs.cell 1
    have ls := qs.lt
    have hlk : ∀ X : Ex V, (Instr.lookup 182 (.map (some mb)) (.agg #[.int .i64 s.1, .int .i64 s.2]) true).run Try.prog X.W = .ok (.tuple #[.int .i64 0, .bool false]) X.W := fun X => by
      have := MpIs.at2 (et := 3) Try.underlying182 hi0 hz0 cSp_fd (hn1.num.below (X.h.mono (Nat.le_refl _))) s
      rw [numF_out hin] at this
      exact this
    refine wp_region_ext_mix 10 [(false, 0), (false, 1), (false, 2), (false, 3), (false, 4), (false, 5), (false, 6), (false, 7), (false, 8), (false, 9)] (by kernel_rfl) (by kernel_rfl) (by intro d _ _ _ _ h; cases d <;> exact h) ?_
    have D0 := (Below.refl V.heap.size V).drew
    repeat (refine mix_quiet rfl ?_; go_big_quiet_step (fail); refine wpQuiet_nil ?_)
    refine mix_nil rfl ?_
    have hn2 := hn1.below D0
    have hf2 := hf1.trans (NetFr.below (base := base) (mb := mb) D0)
    have qs2 := qs.below D0 qs.lt
    clear hlk c0 c1 lq d0 d1 ls
    generalize V.drew = V2 at *
    have c02 : V2.cell? ⟨q, 0, none⟩ = some (.map (some mb)) := hn2.blk.cell 0
    have c12 : V2.cell? ⟨q, 1, none⟩ = some (.slice Ao N co) := hn2.blk.cell 1
    have lq2 := hn2.blk.lt
    have d02 : V2.cell? ⟨ps, 0, none⟩ = some (.int .i64 s.1) := qs2.cell 0
    have d12 : V2.cell? ⟨ps, 1, none⟩ = some (.int .i64 s.2) := qs2.cell 1
    have ls2 := qs2.lt
    go_upto_region 4 with fail
    refine wp_region_ext_mix 10 [(false, 0), (false, 1), (false, 2), (false, 3), (false, 4), (false, 5), (false, 6), (false, 7), (false, 8), (false, 9)] (by kernel_rfl) (by kernel_rfl) (by intro d _ _ _ _ h; cases d <;> exact h) ?_
    have D1 := (Below.refl V2.heap.size V2).drew
    repeat (refine mix_quiet rfl ?_; go_big_quiet_step (fail); refine wpQuiet_nil ?_)
    refine mix_nil rfl ?_
    have hn3 := hn2.below D1
    have hf3 := hf2.trans (NetFr.below (base := base) (mb := mb) D1)
    have qs3 := qs2.below D1 qs2.lt
    clear c02 c12 lq2 d02 d12 ls2
    generalize V2.drew = V3 at *
    obtain ⟨ob, hup, hmp⟩ := MpIs.put (et := 3) Try.underlying182 cSp_fd hn3.num s ((N : Nat) : Int)
    have hmp2 := hmp.congr (F' := numF (sp ++ [s])) (fun x => by rw [← numF_snoc hin, HN.out])
    unfold cSp keyI at hup
    have hn4 := hn3.remap hmp2
    have hf4 := hf3.trans (NetFr.putO (base := base) (mb := mb) (w := V3) (o := ob) hn3.qb.2)
    have hm3 : ps ≠ mb := blk_isMap qs3 hn3.num
    have qs4 := qs3.fr (fr_putO (fun b => b = mb) V3 mb ob rfl) hm3
    have HMP := Lib.hid hmp2
    clear hmp hmp2 qs qs2 qs3
    go_upto_region 5 with fail
    clear hup
    generalize V3.putObj mb ob = V4 at *
    have c04 : V4.cell? ⟨q, 0, none⟩ = some (.map (some mb)) := hn4.blk.cell 0
    have c14 : V4.cell? ⟨q, 1, none⟩ = some (.slice Ao N co) := hn4.blk.cell 1
    have lq4 := hn4.blk.lt
    have d04 : V4.cell? ⟨ps, 0, none⟩ = some (.int .i64 s.1) := qs4.cell 0
    have d14 : V4.cell? ⟨ps, 1, none⟩ = some (.int .i64 s.2) := qs4.cell 1
    have ls4 := qs4.lt
    have X5 := ex_alloc (Below.refl V4.heap.size V4) (.cells #[.slice none 0 0] 205)
    have hn5 := hn4.below X5
    have hf5 := hf4.trans (NetFr.below (base := base) (mb := mb) X5)
    have qs5 := qs4.below X5 ls4
    obtain ⟨i1, hi1, hy0, hy1, hy2⟩ := info_parts arcs_info
    have c63 : vals.length + 1 ≤ maxLen := by rw [HVL.out]; unfold maxLen; omega
    have cby : (vals.length + 1) * 24 ≤ 140737488355328 := by rw [HVL.out]; omega
    have hbase : base ≤ (V4.alloc (.cells #[.slice none 0 0] 205)).heap.size := by have := hn5.qb.1; have := hn5.blk.lt; omega
    have ho5 := hn5.out
    skip
    go_wp2_with (refine pause_at 34 rfl ?_)
    refine Paused.mk ?_
    refine wpList_append_lies _ rfl _ _ _ rfl base 205 i1 _ 1 24 Try.underlying183 hi1 hy0 hy1 hy2 rfl (by omega) (.slice Ao N co) _ _ rfl ho5 ⟨V4.heap.size, 0, none⟩ 1 1 [.slice none 0 0] rfl rfl (World.news_of_block (heap_alloc_new V4 _)) (by simp [Value.oneCell']) (by omega) c63 cby hbase (V4.heap.size + 1) (by simp) ?_
    intro gg cap w1 hown' hgrow hat hlt'
    obtain ⟨hn6, hf6⟩ := hn5.node (hR N (Nat.le_refl _)) (vo' := (Value.slice (some ⟨gg, 0, none⟩) (vals.length + 1) cap)) hgrow hown' (fun b hb => by
      have : gg = b := by simpa [Value.ownBlock] using hb
      subst this
      exact hat.imp id (fun e => by simp; omega))
    have hf7 := hf5.trans hf6
    have hqn : ¬ (Value.slice Ao N co).ownBlock = some q := own_blkne ho5 hn5.blk (by decide)
    have qb := hn5.blk.grown hgrow (fun e => hqn e.symm)
    have z1 : w1.cell? ⟨q, 1, none⟩ = some (.slice Ao N co) := qb.cell 1
    have z2 := qb.frozen 1
    have z3 := qb.lt
    have hsn : ¬ (Value.slice Ao N co).ownBlock = some ps := own_blkne ho5 qs5 (by decide)
    have qs6 := qs5.grown hgrow (fun e => hsn e.symm)
    have hpq : ps ≠ q := blk_ne qs6 qb (by decide)
    have qs7 := qs6.far (p := ⟨q, 1, none⟩) hpq (Value.slice (some ⟨gg, 0, none⟩) (vals.length + 1) cap)
    have HN6 := Lib.hid hn6
    clear hn6 c04 c14 lq4 d04 d14 ls4 hf6 hown'
    go_upto_region 6 with fail
    have hn6 := HN6.out
    clear HN6 z1 z2 z3 qb
    generalize w1.setCell ⟨q, 1, none⟩ (Value.slice (some ⟨gg, 0, none⟩) (vals.length + 1) cap) = V6 at *
    have c0 : V6.cell? ⟨q, 0, none⟩ = some (.map (some mb)) := hn6.blk.cell 0
    have lq := hn6.blk.lt
    have d0 : V6.cell? ⟨ps, 0, none⟩ = some (.int .i64 s.1) := qs7.cell 0
    have d1 : V6.cell? ⟨ps, 1, none⟩ = some (.int .i64 s.2) := qs7.cell 1
    have ls := qs7.lt
    have hlk : ∀ X : Ex V6, (Instr.lookup 182 (.map (some mb)) (.agg #[.int .i64 s.1, .int .i64 s.2]) false).run Try.prog X.W = .ok (.int .i64 (N : Int)) X.W := fun X => by
      have := MpIs.at_ (et := 3) Try.underlying182 cSp_fd (hn6.num.below (X.h.mono (Nat.le_refl _))) s (v := (N : Int)) (by rw [← numF_snoc hin, if_pos rfl, HN.out])
      exact this
    refine wp_region_ext_mix 6 [(false, 0), (false, 1), (false, 2), (false, 3), (false, 4), (false, 5)] (by kernel_rfl) (by kernel_rfl) (by intro d _ _ _ _ h; cases d <;> exact h) ?_
    have D6 := (Below.refl V6.heap.size V6).drew
    repeat (refine mix_quiet rfl ?_; go_big_quiet_step (fail); refine wpQuiet_nil ?_)
    refine mix_nil rfl ?_
    have hn7 := hn6.below D6
    have hf8 := hf7.trans (NetFr.below (base := base) (mb := mb) D6)
    have HIN := Lib.hid hin
    clear hin hlk
    go_wp2
    go_ret
    exact ⟨by rw [addS_out HIN.out, List.idxOf_append, if_neg HIN.out]; simp [HN.out], _, _, by rw [addS_out HIN.out, List.length_append, HN.out]; exact hn7, hf8⟩
end Go.Proofs.Ythihdiilokdidaa
end

section
namespace Go.Proofs.Ythihdiilokdidaa
open Go.RowKit
attribute [local go_sem] Ex.cell? Ex.frozen? Gx.cell?

theorem arc_info : (Try.prog.info? 207).map (fun i => (i.zero, i.size, i.bytes)) = some (some (.agg #[.int .i64 0, .int .i64 0, .int .i64 0]), 3, 24) := by kernel_rfl
theorem NetM.mid {W W1 : World} {base q mb N : Nat} {sp : List Spot} {R : Nat → List Ar} {vo : Value} {vals : List Value} (h : NetM W base q mb sp N R vo vals) {i : Nat} (hi : i < N) (hg : W.grownBy W1 (vA vals i).ownBlock) {go cap : Nat} (hgo : vo = .slice (some ⟨go, 0, none⟩) N cap) :
    (∀ j, j < N → W1.cell? ⟨go, j, none⟩ = some (vA vals j)) ∧ (∀ x, W1.frozen? ⟨go, x, none⟩ = false) ∧ go < W1.heap.size := by
  have hF := Fr.grown (R := fun b => (vA vals i).ownBlock = some b) hg (fun b hb => .inl hb)
  have hoi := h.rows i hi
  obtain ⟨t1, t2, t3, t4⟩ := h.turn hF (own_blkne hoi h.blk (by decide)) (own_isMap hoi h.num) (fun b hb e => own_ownne hoi h.out (by decide) e hb)
  obtain ⟨g, c, e, _, hl, _, _, hc, hf⟩ := own_cell t2 (by rw [h.len]; omega)
  rw [hgo] at e
  injection e with e _ _
  injection e with e
  injection e with e
  subst e
  exact ⟨fun j hj => (hc j (by rw [h.len]; exact hj)).trans (vA_at (by rw [h.len]; exact hj)), hf, hl⟩
set_option maxRecDepth 100000 in
set_option maxHeartbeats 6400000 in
theorem join_any (base q mb N : Nat) (sp : List Spot) (R : Nat → List Ar) (vo : Value) (vals : List Value) (u v : Nat) (c : Int) (w : World) (hn : NetM w base q mb sp N R vo vals) (hu : u < N) (hv : v < N) (huv : u ≠ v) (hbR : ∀ i, i < N → (R i).length ≤ 1000) :
    Calls Try.prog 110 #[.pointer (some ⟨q, 0, none⟩), .int .i64 (u : Int), .int .i64 (v : Int), .int .i64 c] w fun e w' => e = .returned (.tuple #[]) ∧ ∃ vals', NetM w' base q mb sp N (fun i => R i ++ if i = u then [⟨v, c, (R v).length⟩] else if i = v then [⟨u, 0, (R u).length⟩] else []) vo vals' ∧ NetFr base mb w w' := by
  obtain ⟨go, co, rfl, hbg, hglw, hco, hcsw, hfzw, cs0, hcs0⟩ := hn.outer (by omega)
  have HCSw := Lib.hid hcsw
  clear hcsw hfzw hcs0
  obtain ⟨i1, hi1, hy0, hy1, hy2⟩ := info_parts arc_info
  have HI0 := Lib.hid hi1
  have hf0 := NetFr.refl base mb w
  have hbiw := hbR u hu
  obtain ⟨nu, hnu⟩ : ∃ n, (R u).length = n := ⟨_, rfl⟩
  have HNU := Lib.hid hnu
  obtain ⟨nv, hnv⟩ : ∃ n, (R v).length = n := ⟨_, rfl⟩
  have HNV := Lib.hid hnv
  clear hi1 hnu hnv
  go_enter Try.func110, Try.ntmps110
  obtain ⟨Aiw, ciw, hAiw⟩ := own_form (hn.rows u hu)
  obtain ⟨Ajw, cjw, hAjw⟩ := own_form (hn.rows v hv)
  obtain ⟨niw, hniw⟩ : ∃ n, (R u).length = n := ⟨_, rfl⟩
  obtain ⟨njw, hnjw⟩ : ∃ n, (R v).length = n := ⟨_, rfl⟩
  rw [hniw] at hAiw
  rw [hnjw] at hAjw
  have hci : w.cell? ⟨go, u, none⟩ = some (.slice Aiw niw ciw) := hAiw ▸ HCSw.out u hu
  have hcj : w.cell? ⟨go, v, none⟩ = some (.slice Ajw njw cjw) := hAjw ▸ HCSw.out v hv
  have hq1 : w.cell? ⟨q, 1, none⟩ = some (.slice (some ⟨go, 0, none⟩) N co) := hn.blk.cell 1
  have lq := hn.blk.lt
  have lgo := hglw
  have HIo := hn.rows u hu
  rw [hAiw, hniw] at HIo
  have nq : ¬ some q = (Value.slice Aiw niw ciw).ownBlock := fun e => own_blkne HIo hn.blk (by decide) e.symm
  have ng : ¬ some go = (Value.slice Aiw niw ciw).ownBlock := fun e => own_ownne HIo hn.out (by decide) e.symm rfl
  have HI1 := Lib.hid hAiw
  have HJ1 := Lib.hid hAjw
  have HNI := Lib.hid hniw
  have HNJw := Lib.hid hnjw
  clear hAiw hAjw hniw hnjw
  go_upto_region 0 with fail
  refine wp_region_gx_mix (Value.slice Aiw niw ciw).ownBlock 26 [(false, 0), (false, 1), (false, 2), (false, 3), (false, 4), (false, 5), (false, 6), (false, 7), (false, 8), (false, 9), (false, 10), (false, 11), (false, 12), (false, 13), (false, 14), (false, 15), (false, 16), (false, 17), (false, 18), (false, 19), (false, 20), (false, 21), (false, 22), (true, 23), (true, 24), (false, 25)] (by kernel_rfl) (by kernel_rfl) (by intro d _ _ _ _ h; cases d <;> exact h) ?_
  repeat (refine mix_quiet rfl ?_; go_big_quiet_step (fail); refine wpQuiet_nil ?_)
  refine mix_loud rfl ?_
  have hX1 : Below w.heap.size w (w.alloc (.cells #[.int .i64 (v : Int), .int .i64 c, .int .i64 (njw : Int)] 207)).drew := (ex_alloc (Below.refl w.heap.size w) _).drew
  have hn1 := hn.below hX1
  have y4 := own_below HIo hX1
  have hnews := World.news_of_block (w := (w.alloc (.cells #[.int .i64 (v : Int), .int .i64 c, .int .i64 (njw : Int)] 207)).drew) (heap_alloc_new w _)
  have c63 : niw + 1 ≤ maxLen := by have := hbiw; rw [HNI.out] at this; unfold maxLen; omega
  have cby : (niw + 1) * 24 ≤ 140737488355328 := by have := hbiw; rw [HNI.out] at this; omega
  have hbase : base ≤ (w.alloc (.cells #[.int .i64 (v : Int), .int .i64 c, .int .i64 (njw : Int)] 207)).drew.heap.size := by have := hn.qb.1; have := hn.blk.lt; have := hX1.size; omega
  go_wp2_with fail
  refine ⟨inGx (grown_row hX1), ?_⟩
  refine mix_loud rfl ?_
  go_wp2_with (refine pause_at 32 rfl ?_)
  refine Paused.mk ?_
  refine wpList_append_lies _ rfl _ _ _ rfl base 207 i1 _ 3 24 Try.underlying205 HI0.out hy0 hy1 hy2 rfl (by omega) (.slice Aiw niw ciw) _ _ rfl y4 ⟨w.heap.size, 0, none⟩ 1 1 [.int .i64 (v : Int), .int .i64 c, .int .i64 (njw : Int)] rfl rfl hnews (by simp [Value.oneCell']) (by omega) c63 cby hbase (w.heap.size + 1) (by simp) ?_
  intro gg cap w1 hown' hgrow hat hlt'
  have hg1 : w.grownBy w1 (Value.slice Aiw niw ciw).ownBlock := (grown_row hX1).andThen hgrow (fun j hj => .inr hj)
  go_wp2_with fail
  refine ⟨inGx hg1, ?_⟩
  repeat (refine mix_quiet rfl ?_; go_big_quiet_step (fail); refine wpQuiet_nil ?_)
  have hgrow2 := hgrow
  rw [← HI1.out] at hgrow2
  obtain ⟨m1, m2, m3⟩ := hn1.mid hu hgrow2 rfl
  have hown2 : w1.ownsRow base 207 3 (.slice (some ⟨gg, 0, none⟩) (niw + 1) cap) (R u ++ [(⟨v, c, njw⟩ : Ar)]).length ((R u ++ [(⟨v, c, njw⟩ : Ar)]).flatMap cAr) := by rw [List.length_append, HNI.out, List.flatMap_append]; exact hown'
  obtain ⟨hn2, hf2⟩ := hn1.push hu hgrow2 hown2 (fun b hb => by
    have : gg = b := by simpa [Value.ownBlock] using hb
    subst this
    rw [HI1.out]
    exact hat.imp id (fun e => by have := hX1.size; simp at *; omega)) (go := go) rfl
  have hf3 := (hf0.trans (NetFr.below hX1)).trans hf2
  have m0 := m1 u hu
  rw [HI1.out] at m0
  have HN2 := Lib.hid hn2
  clear hn2 hf2 hown' hown2 hgrow hgrow2 hg1 hX1 hn1 y4 hnews m1
  refine mix_nil (r := [_]) rfl ?_
  go_upto_region 1 with fail
  have hn2 := HN2.out
  clear HN2 m0 m2 m3 hci hcj hq1 lq lgo HIo nq ng
  generalize w1.setCell ⟨go, u, none⟩ (.slice (some ⟨gg, 0, none⟩) (niw + 1) cap) = V at *
  have HBI : Hid (∀ j, (setR R u (R u ++ [(⟨v, c, njw⟩ : Ar)]) j).length ≤ (R j).length + 1) := Lib.hid (fun j => by unfold setR; split <;> simp_all)
  obtain ⟨go2, co2, e2, hbg2, hglV, hco2, hcsV, _, _, _⟩ := hn2.outer (by omega)
  injection e2 with e2 _ e2c
  injection e2 with e2
  injection e2 with e2 _
  subst e2 e2c
  have HCSV := Lib.hid hcsV
  clear hcsV
  have hbiV : (setR R u (R u ++ [(⟨v, c, njw⟩ : Ar)]) v).length ≤ 1000 := by unfold setR; rw [if_neg (fun e => huv e.symm)]; exact hbR v hv
  have hbig : (setR R u (R u ++ [(⟨v, c, njw⟩ : Ar)]) u).length ≤ 1001 := by unfold setR; rw [if_pos rfl, List.length_append]; have := hbR u hu; simp; omega
  obtain ⟨AiV, ciV, hAiV⟩ := own_form (hn2.rows v hv)
  obtain ⟨AjV, cjV, hAjV⟩ := own_form (hn2.rows u hu)
  obtain ⟨niV, hniV⟩ : ∃ n, ((setR R u (R u ++ [(⟨v, c, njw⟩ : Ar)])) v).length = n := ⟨_, rfl⟩
  obtain ⟨njV, hnjV⟩ : ∃ n, ((setR R u (R u ++ [(⟨v, c, njw⟩ : Ar)])) u).length = n := ⟨_, rfl⟩
  rw [hniV] at hAiV
  rw [hnjV] at hAjV
  have hci : V.cell? ⟨go, v, none⟩ = some (.slice AiV niV ciV) := hAiV ▸ HCSV.out v hv
  have hcj : V.cell? ⟨go, u, none⟩ = some (.slice AjV njV cjV) := hAjV ▸ HCSV.out u hu
  have hq1 : V.cell? ⟨q, 1, none⟩ = some (.slice (some ⟨go, 0, none⟩) N co) := hn2.blk.cell 1
  have lq := hn2.blk.lt
  have lgo := hglV
  have HIo := hn2.rows v hv
  rw [hAiV, hniV] at HIo
  have nq : ¬ some q = (Value.slice AiV niV ciV).ownBlock := fun e => own_blkne HIo hn2.blk (by decide) e.symm
  have ng : ¬ some go = (Value.slice AiV niV ciV).ownBlock := fun e => own_ownne HIo hn2.out (by decide) e.symm rfl
  have HI1 := Lib.hid hAiV
  have HJ1 := Lib.hid hAjV
  have HNI := Lib.hid hniV
  have HNJV := Lib.hid hnjV
  clear hAiV hAjV hniV hnjV
  obtain ⟨nb, hnb⟩ : ∃ nb, njV = nb + 1 := ⟨nu, by rw [← HNJV.out]; simp [setR, HNU.out]⟩
  have hwb : IntKind.i64.wrap ((njV : Int) - 1) = (nb : Int) := by rw [IntWalk.i64_in _ (by have := HNJV.out; have := hbig; simp [setR] at this; omega)]; omega
  have HNB := Lib.hid hnb
  clear hnb
  go_upto_region 1 with fail
  refine wp_region_gx_mix (Value.slice AiV niV ciV).ownBlock 26 [(false, 0), (false, 1), (false, 2), (false, 3), (false, 4), (false, 5), (false, 6), (false, 7), (false, 8), (false, 9), (false, 10), (false, 11), (false, 12), (false, 13), (false, 14), (false, 15), (false, 16), (false, 17), (false, 18), (false, 19), (false, 20), (false, 21), (false, 22), (true, 23), (true, 24), (false, 25)] (by kernel_rfl) (by kernel_rfl) (by intro d _ _ _ _ h; cases d <;> exact h) ?_
  repeat (refine mix_quiet rfl ?_; go_big_quiet_step (fail); refine wpQuiet_nil ?_)
  refine mix_loud rfl ?_
  have hX1 : Below V.heap.size V (V.alloc (.cells #[.int .i64 (u : Int), .int .i64 0, .int .i64 (nb : Int)] 207)).drew := (ex_alloc (Below.refl V.heap.size V) _).drew
  have hn1 := hn2.below hX1
  have y4 := own_below HIo hX1
  have hnews := World.news_of_block (w := (V.alloc (.cells #[.int .i64 (u : Int), .int .i64 0, .int .i64 (nb : Int)] 207)).drew) (heap_alloc_new V _)
  have c63 : niV + 1 ≤ maxLen := by have := hbiV; rw [HNI.out] at this; unfold maxLen; omega
  have cby : (niV + 1) * 24 ≤ 140737488355328 := by have := hbiV; rw [HNI.out] at this; omega
  have hbase : base ≤ (V.alloc (.cells #[.int .i64 (u : Int), .int .i64 0, .int .i64 (nb : Int)] 207)).drew.heap.size := by have := hn2.qb.1; have := hn2.blk.lt; have := hX1.size; omega
  go_wp2_with fail
  refine ⟨inGx (grown_row hX1), ?_⟩
  refine mix_loud rfl ?_
  go_wp2_with (refine pause_at 58 rfl ?_)
  refine Paused.mk ?_
  refine wpList_append_lies _ rfl _ _ _ rfl base 207 i1 _ 3 24 Try.underlying205 HI0.out hy0 hy1 hy2 rfl (by omega) (.slice AiV niV ciV) _ _ rfl y4 ⟨V.heap.size, 0, none⟩ 1 1 [.int .i64 (u : Int), .int .i64 0, .int .i64 (nb : Int)] rfl rfl hnews (by simp [Value.oneCell']) (by omega) c63 cby hbase (V.heap.size + 1) (by simp) ?_
  intro gg cap w1 hown' hgrow hat hlt'
  have hg1 : V.grownBy w1 (Value.slice AiV niV ciV).ownBlock := (grown_row hX1).andThen hgrow (fun j hj => .inr hj)
  go_wp2_with fail
  refine ⟨inGx hg1, ?_⟩
  repeat (refine mix_quiet rfl ?_; go_big_quiet_step (fail); refine wpQuiet_nil ?_)
  have hgrow2 := hgrow
  rw [← HI1.out] at hgrow2
  obtain ⟨m1, m2, m3⟩ := hn1.mid hv hgrow2 rfl
  have hown2 : w1.ownsRow base 207 3 (.slice (some ⟨gg, 0, none⟩) (niV + 1) cap) ((setR R u (R u ++ [(⟨v, c, njw⟩ : Ar)])) v ++ [(⟨u, 0, nb⟩ : Ar)]).length (((setR R u (R u ++ [(⟨v, c, njw⟩ : Ar)])) v ++ [(⟨u, 0, nb⟩ : Ar)]).flatMap cAr) := by rw [List.length_append, HNI.out, List.flatMap_append]; exact hown'
  obtain ⟨hn2, hf2⟩ := hn1.push hv hgrow2 hown2 (fun b hb => by
    have : gg = b := by simpa [Value.ownBlock] using hb
    subst this
    rw [HI1.out]
    exact hat.imp id (fun e => by have := hX1.size; simp at *; omega)) (go := go) rfl
  have hf3 := (hf3.trans (NetFr.below hX1)).trans hf2
  have m0 := m1 v hv
  rw [HI1.out] at m0
  have HN2 := Lib.hid hn2
  clear hn2 hf2 hown' hown2 hgrow hgrow2 hg1 hX1 hn1 y4 hnews m1
  refine mix_nil (r := [_]) rfl ?_
  have hnbu : (R u).length = nb := by have h1 := HNJV.out; have h2 := HNB.out; unfold setR at h1; rw [if_pos rfl, List.length_append] at h1; simp at h1; omega
  have hnjv : (R v).length = njw := HNJw.out
  have hR2 : (setR (setR R u (R u ++ [(⟨v, c, njw⟩ : Ar)])) v (setR R u (R u ++ [(⟨v, c, njw⟩ : Ar)]) v ++ [(⟨u, 0, nb⟩ : Ar)])) = fun i => R i ++ if i = u then [⟨v, c, (R v).length⟩] else if i = v then [⟨u, 0, (R u).length⟩] else [] := by
    funext i
    rw [hnbu, hnjv]
    unfold setR
    by_cases e : i = v
    · subst e; rw [if_pos rfl, if_neg (fun h => huv h.symm), if_neg (fun h => huv h.symm), if_pos rfl]
    · rw [if_neg e, if_neg e]
      by_cases e2 : i = u
      · subst e2; rw [if_pos rfl, if_pos rfl]
      · rw [if_neg e2, if_neg e2, List.append_nil]
  have hfin := HN2.out
  rw [hR2] at hfin
  have HFIN := Lib.hid hfin
  clear hfin hR2 hnbu hnjv HN2
  go_wp2
  refine bodyPost_end (v := .tuple #[]) (results_none Try.results110 _ _ _) rfl ⟨rfl, _, HFIN.out, hf3⟩
end Go.Proofs.Ythihdiilokdidaa
end
