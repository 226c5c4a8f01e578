/- Bath's laws: Plan, Back, short (walks). -/
import Derived.Test.YtnplefhigbkbbaaQ8
import Derived.Test.YtnplefhigbkbbaaQ2
import Derived.Test.YtnplefhigbkbbaaQ5
set_option linter.unusedVariables false
set_option linter.unusedSimpArgs false
set_option linter.unusedSectionVars false
section
namespace Go.Proofs.Ytnplefhigbkbbaa
open Go.RowKit
attribute [local go_sem] Ex.cell? Ex.frozen? Gx.cell?

/-- dips in a row of the call's own, each with a row of its own. -/
abbrev DOwn (T : TypeId) (W : World) (B : Nat) (v : Value) (X : List Xd) : Prop := NOwn T 2 3 1 xR (fun x => x.2.1) (fun x => x.1.ins.length) (fun x => fI x.1.ins) W B v X
theorem DOwn.pl {T : TypeId} {W : World} {B : Nat} {v : Value} {X : List Xd} (h : DOwn T W B v X) : ∃ A c rA rc, v = .slice A (X.map (·.1)).length c ∧ PlIn W W.heap.size (X.map (·.1)) A rA rc := by
  have hg : ∀ k (hk : k < X.length), gDp (X.map (·.1)) k = (X[k]).1 := fun k hk => by unfold gDp; simp [hk]
  obtain ⟨A, c, e, _, _, hs⟩ := own_flat (sz := 2) (l := X) (f := xR) (F := fDp (X.map (·.1)) (fun k => (X.getD k (default, none, 0)).2.1) (fun k => (X.getD k (default, none, 0)).2.2)) (fun _ => rfl) (fun k hk j hj => by
    match j, hj with
    | 0, _ => show some (Value.int .i64 (X[k]).1.heat) = some (Value.int .i64 (gDp (X.map (·.1)) k).heat); rw [hg k hk]
    | 1, _ =>
      show some (Value.slice (X[k]).2.1 (X[k]).1.ins.length (X[k]).2.2) = some (Value.slice (X.getD k (default, none, 0)).2.1 (gDp (X.map (·.1)) k).ins.length (X.getD k (default, none, 0)).2.2)
      rw [hg k hk]; simp [hk]) rfl h.own
  have hl : (X.map (·.1)).length = X.length := List.length_map _
  refine ⟨A, c, fun k => (X.getD k (default, none, 0)).2.1, fun k => (X.getD k (default, none, 0)).2.2, by rw [hl]; exact e, ⟨by rw [hl]; exact hs, fun k hk => ?_⟩⟩
  rw [hl] at hk
  rw [hg k hk]
  have e2 : X.getD k (default, none, 0) = X[k] := by simp [hk]
  show SlAt W W.heap.size 1 (X.getD k (default, none, 0)).2.1 _ _
  rw [e2]
  exact (h.ins _ (List.getElem_mem hk)).sl
theorem ints_row {W : World} {B : Nat} {A : Option Addr} {c : Nat} {l : List Int} (h : W.ownsRow B 3 1 (.slice A l.length c) l.length (l.map (Value.int .i64))) : RowAt W B 3 1 A l.length (fI l) := by
  obtain ⟨A', c', e, _, _, hr⟩ := own_row (α := Int) (c := fun n => [.int .i64 n]) (sz := 1) (fun _ => rfl) (l := l) (f := fI l) (fun k hk j hj => by have hj0 : j = 0 := (by omega); subst hj0; simp [fI, gI, hk]) (by rw [List.map_eq_flatMap] at h; exact h)
  injection e with e
  rw [e]; exact hr
theorem gDp_at {l : List Dp} {k : Nat} (hk : k < l.length) : gDp l k = l[k] := by unfold gDp; simp [hk]

theorem rdip_info : (Try.prog.info? 104).map (fun i => (i.zero, i.size, i.bytes)) = some (some (.agg #[.int .i64 0, .slice none 0 0]), 2, 32) := by kernel_rfl
set_option maxRecDepth 100000 in
set_option maxHeartbeats 6400000 in
theorem planTo_law (p : List Dp) (Ap : Option Addr) (cp : Nat) (rA : Nat → Option Addr) (rc : Nat → Nat) (w : World) (hp : PlIn w w.heap.size p Ap rA rc) (hsm : SmPl p) (hpl : p.length ≤ 1000) :
    Calls Try.prog 41 #[.slice Ap p.length cp] w fun e w' => (∃ A c rA' rc', e = .returned (.slice A p.length c) ∧ PlIn w' w'.heap.size p A rA' rc') ∧ Below w.heap.size w w' := by
  obtain ⟨i0, hi0, hz0, hz1, hz2⟩ := info_parts dip_info
  have HI := Lib.hid hi0
  clear hi0
  go_enter Try.func41, Try.ntmps41
  go_wp2_with fail
  refine wp_loop (fun a W => Rel (fun a W => ∃ k : Nat, k ≤ p.length ∧ Below w.heap.size w W ∧ ∃ v X, Hid (X.map (·.1) = p.take k) ∧ DOwn 112 W w.heap.size v X ∧ ∃ u : Nat → Value, a = ⟨List.toArray (.slice Ap p.length cp :: u 1 :: u 2 :: v :: .int .i64 (k : Int) :: u 5 :: u 6 :: u 7 :: u 8 :: u 9 :: u 10 :: u 11 :: u 12 :: u 13 :: u 14 :: u 15 :: u 16 :: u 17 :: u 18 :: u 19 :: u 20 :: u 21 :: u 22 :: u 23 :: u 24 :: u 25 :: u 26 :: []), []⟩) a W)
    (fun a _ => p.length - (intOf (a.tmps.getD 4 undef)).toNat) ⟨⟨0, by omega, Below.refl _ _, .slice none 0 0, [], Lib.hid rfl, NOwn.nil, exFrame (by kernel_rfl)⟩⟩ ?_
  rintro a W ⟨⟨k, hk, hbl, v, X, HL, hN, u, rfl⟩⟩
  by_cases hlt : k < p.length
  · have hpW := hp.below hbl
    obtain ⟨bd, od, rfl, hbd, g0, g1⟩ := hpW.at_ hlt
    have hdI := hpW.ins k hlt
    have hdl := hsm.ins k hlt
    have lbd : bd < w.heap.size := by
      obtain ⟨b', o', e, hb', _⟩ := hp.at_ hlt
      injection e with e
      injection e with e
      omega
    have hXl : X.length = k := by
      have := congrArg List.length HL.out
      rw [List.length_map, List.length_take] at this
      omega
    have hat := gDp_at hlt
    obtain ⟨ht, hht⟩ : ∃ ht, (gDp p k).heat = ht := ⟨_, rfl⟩
    obtain ⟨is, his⟩ : ∃ is, (gDp p k).ins = is := ⟨_, rfl⟩
    rw [hht] at g0
    rw [his] at g1 hdI hdl
    have HD : Hid (p[k] = ⟨ht, is⟩) := Lib.hid (by rw [← hat, ← hht, ← his])
    have HLEN := Lib.hid hXl
    have hlx : X.length ≤ 1000 := by omega
    clear hht his hat hXl
    obtain ⟨row, hrow⟩ : ∃ row, v.ownBlock = row := ⟨_, rfl⟩
    have hge := fun (j : Nat) (hj : v.ownBlock = some j) => own_ge hN.own hj
    have hnr : ¬ some bd = row := fun e => by have := hge _ (hrow.trans e.symm); omega
    have hrw : ∀ j, row = some j → w.heap.size ≤ j := fun j hj => by have := hge _ (hrow.trans hj); omega
    have lbW : bd < W.heap.size := by have := hbl.size; omega
    have hws := hbl.size
    have HROW := Lib.hid hrow
    clear hrow hge
    go_wp2_with fail
    refine wp_region_gx_mix row 15 [(false, 0), (false, 1), (false, 2), (false, 3), (false, 4), (false, 5), (false, 6), (false, 7), (false, 8), (false, 9), (false, 10), (true, 11), (false, 12), (true, 13), (true, 14)] (by kernel_rfl) (by kernel_rfl) (by intro d _ _ _ _ h; cases d <;> exact h) ?_
    repeat (refine mix_quiet rfl ?_; go_big_quiet_step (fail); refine wpQuiet_nil ?_)
    have hX0 := (Below.refl W.heap.size W).drew
    refine mix_loud rfl ?_
    go_wp2_with fail
    refine (list_any _ _ is W.drew (by omega) hdI).mono ?_
    rintro e x1 ⟨⟨A1, c1, rfl, hrow1⟩, hx1⟩
    have hX_x1 := ex_trans hX0 hx1
    go_wp2_with fail
    refine ⟨inGx (grown_row hX_x1), ?_⟩
    repeat (refine mix_quiet rfl ?_; go_big_quiet_step (fail); refine wpQuiet_nil ?_)
    have hr1 := ints_row hrow1
    refine mix_loud rfl ?_
    go_wp2_with fail
    have hX2 := ex_alloc hX_x1 (.cells #[.int .i64 ht, .slice A1 is.length c1] 112)
    refine ⟨inGx (grown_row hX2), ?_⟩
    repeat (refine mix_quiet rfl ?_; go_big_quiet_step (fail); refine wpQuiet_nil ?_)
    have hN2 := hN.below hX2
    have hr2 := hr1.below (ex_alloc (Below.refl x1.heap.size x1) (.cells #[.int .i64 ht, .slice A1 is.length c1] 112))
    have y4 := own_below hN.own hX2
    have c63 : X.length + 1 ≤ maxLen := by unfold maxLen; omega
    have cby : (X.length + 1) * 32 ≤ 140737488355328 := by omega
    have hbase : w.heap.size ≤ (x1.alloc (.cells #[.int .i64 ht, .slice A1 is.length c1] 112)).heap.size := by have := hX2.size; omega
    refine mix_loud rfl ?_
    go_wp2_with (at_builtin; refine wpList_append_lies _ rfl _ _ _ rfl (w.heap.size) 112 i0 _ 2 32 Try.underlying67 HI.out hz0 hz1 hz2 rfl (by omega) v _ _ rfl y4 ⟨x1.heap.size, 0, none⟩ 1 1 [.int .i64 ht, .slice A1 is.length c1] rfl rfl (World.news_of_block (heap_alloc_new x1 _)) (by simp [Value.oneCell']) (by omega) c63 cby hbase (x1.heap.size + 1) (by simp) ?_; intro gg cap w1 hown' hgrow hat hlt')
    rw [HROW.out] at hgrow
    have hgB := (grown_row (r := row) hX2).andThen hgrow (fun j hj => .inr hj)
    refine ⟨inGx hgB, ?_⟩
    repeat (refine mix_quiet rfl ?_; go_big_quiet_step (fail); refine wpQuiet_nil ?_)
    refine mix_nil rfl ?_
    have B5 := hbl.grown hgB hbl.size hrw
    have hN3 : DOwn 112 w1 w.heap.size (.slice (some ⟨gg, 0, none⟩) (X.length + 1) cap) (X ++ [(⟨ht, is⟩, A1, c1)]) :=
      NOwn.push hN2 (by rw [HROW.out]; exact hgrow) (by decide) rfl (own_push (f := xR) (x := (⟨ht, is⟩, A1, c1)) rfl hown') (fun y hy => by
        obtain rfl := List.mem_singleton.1 hy
        exact hr2.base (by show w.heap.size ≤ W.heap.size; omega))
    have HN : Hid ((X ++ [((⟨ht, is⟩ : Dp), A1, c1)]).map (·.1) = p.take (k + 1)) := Lib.hid (by
      rw [List.map_append, HL.out]
      exact take_push hlt rfl HD.out)
    generalize X ++ [((⟨ht, is⟩ : Dp), A1, c1)] = X' at *
    clear hown' hgB hgrow y4 hX2 hX_x1 hX0 hx1 hN2 hr2 hr1 hrow1 hN hnr g0 g1
    go_wp2_with fail
    refine ⟨⟨⟨k + 1, by omega, B5, _, X', HN, hN3, exFrame (by kernel_rfl)⟩⟩, ?_⟩
    show p.length - (intOf (.int .i64 ((k : Int) + 1))).toNat < p.length - (intOf (.int .i64 (k : Int))).toNat
    simp [intOf]
    omega
  obtain rfl : k = p.length := by omega
  obtain ⟨A', c', rA', rc', rfl, hpl'⟩ := hN.pl
  have hXp : X.map (·.1) = p := HL.out.trans List.take_length
  rw [hXp] at hpl' ⊢
  clear HL hXp
  go_wp2
  go_ret
  exact ⟨⟨A', c', rA', rc', rfl, hpl'⟩, hbl⟩

set_option maxRecDepth 100000 in
set_option maxHeartbeats 6400000 in
theorem planBack_law (p : List Dp) (Ap : Option Addr) (cp : Nat) (rA : Nat → Option Addr) (rc : Nat → Nat) (w : World) (hp : PlIn w w.heap.size p Ap rA rc) (hsm : SmPl p) (hpl : p.length ≤ 1000) :
    Calls Try.prog 47 #[.slice Ap p.length cp] w fun e w' => (∃ A c rA' rc', e = .returned (.slice A p.length c) ∧ PlIn w' w'.heap.size p A rA' rc') ∧ Below w.heap.size w w' := by
  obtain ⟨i0, hi0, hz0, hz1, hz2⟩ := info_parts rdip_info
  have HI := Lib.hid hi0
  clear hi0
  go_enter Try.func47, Try.ntmps47
  go_wp2_with fail
  refine wp_loop (fun a W => Rel (fun a W => ∃ k : Nat, k ≤ p.length ∧ Below w.heap.size w W ∧ ∃ v X, Hid (X.map (·.1) = p.take k) ∧ DOwn 104 W w.heap.size v X ∧ ∃ u : Nat → Value, a = ⟨List.toArray (.slice Ap p.length cp :: u 1 :: u 2 :: v :: .int .i64 (k : Int) :: u 5 :: u 6 :: u 7 :: u 8 :: u 9 :: u 10 :: u 11 :: u 12 :: u 13 :: u 14 :: u 15 :: u 16 :: u 17 :: u 18 :: u 19 :: u 20 :: u 21 :: u 22 :: u 23 :: u 24 :: u 25 :: u 26 :: []), []⟩) a W)
    (fun a _ => p.length - (intOf (a.tmps.getD 4 undef)).toNat) ⟨⟨0, by omega, Below.refl _ _, .slice none 0 0, [], Lib.hid rfl, NOwn.nil, exFrame (by kernel_rfl)⟩⟩ ?_
  rintro a W ⟨⟨k, hk, hbl, v, X, HL, hN, u, rfl⟩⟩
  by_cases hlt : k < p.length
  · have hpW := hp.below hbl
    obtain ⟨bd, od, rfl, hbd, g0, g1⟩ := hpW.at_ hlt
    have hdI := hpW.ins k hlt
    have hdl := hsm.ins k hlt
    have lbd : bd < w.heap.size := by
      obtain ⟨b', o', e, hb', _⟩ := hp.at_ hlt
      injection e with e
      injection e with e
      omega
    have hXl : X.length = k := by
      have := congrArg List.length HL.out
      rw [List.length_map, List.length_take] at this
      omega
    have hat := gDp_at hlt
    obtain ⟨ht, hht⟩ : ∃ ht, (gDp p k).heat = ht := ⟨_, rfl⟩
    obtain ⟨is, his⟩ : ∃ is, (gDp p k).ins = is := ⟨_, rfl⟩
    rw [hht] at g0
    rw [his] at g1 hdI hdl
    have HD : Hid (p[k] = ⟨ht, is⟩) := Lib.hid (by rw [← hat, ← hht, ← his])
    have HLEN := Lib.hid hXl
    have hlx : X.length ≤ 1000 := by omega
    clear hht his hat hXl
    obtain ⟨row, hrow⟩ : ∃ row, v.ownBlock = row := ⟨_, rfl⟩
    have hge := fun (j : Nat) (hj : v.ownBlock = some j) => own_ge hN.own hj
    have hnr : ¬ some bd = row := fun e => by have := hge _ (hrow.trans e.symm); omega
    have hrw : ∀ j, row = some j → w.heap.size ≤ j := fun j hj => by have := hge _ (hrow.trans hj); omega
    have lbW : bd < W.heap.size := by have := hbl.size; omega
    have hws := hbl.size
    have HROW := Lib.hid hrow
    clear hrow hge
    go_wp2_with fail
    refine wp_region_gx_mix row 15 [(false, 0), (false, 1), (false, 2), (false, 3), (false, 4), (false, 5), (false, 6), (false, 7), (false, 8), (false, 9), (false, 10), (true, 11), (false, 12), (true, 13), (true, 14)] (by kernel_rfl) (by kernel_rfl) (by intro d _ _ _ _ h; cases d <;> exact h) ?_
    repeat (refine mix_quiet rfl ?_; go_big_quiet_step (fail); refine wpQuiet_nil ?_)
    have hX0 := (Below.refl W.heap.size W).drew
    refine mix_loud rfl ?_
    go_wp2_with fail
    refine (list_any _ _ is W.drew (by omega) hdI).mono ?_
    rintro e x1 ⟨⟨A1, c1, rfl, hrow1⟩, hx1⟩
    have hX_x1 := ex_trans hX0 hx1
    go_wp2_with fail
    refine ⟨inGx (grown_row hX_x1), ?_⟩
    repeat (refine mix_quiet rfl ?_; go_big_quiet_step (fail); refine wpQuiet_nil ?_)
    have hr1 := ints_row hrow1
    refine mix_loud rfl ?_
    go_wp2_with fail
    have hX2 := ex_alloc hX_x1 (.cells #[.int .i64 ht, .slice A1 is.length c1] 104)
    refine ⟨inGx (grown_row hX2), ?_⟩
    repeat (refine mix_quiet rfl ?_; go_big_quiet_step (fail); refine wpQuiet_nil ?_)
    have hN2 := hN.below hX2
    have hr2 := hr1.below (ex_alloc (Below.refl x1.heap.size x1) (.cells #[.int .i64 ht, .slice A1 is.length c1] 104))
    have y4 := own_below hN.own hX2
    have c63 : X.length + 1 ≤ maxLen := by unfold maxLen; omega
    have cby : (X.length + 1) * 32 ≤ 140737488355328 := by omega
    have hbase : w.heap.size ≤ (x1.alloc (.cells #[.int .i64 ht, .slice A1 is.length c1] 104)).heap.size := by have := hX2.size; omega
    refine mix_loud rfl ?_
    go_wp2_with (at_builtin; refine wpList_append_lies _ rfl _ _ _ rfl (w.heap.size) 104 i0 _ 2 32 Try.underlying61 HI.out hz0 hz1 hz2 rfl (by omega) v _ _ rfl y4 ⟨x1.heap.size, 0, none⟩ 1 1 [.int .i64 ht, .slice A1 is.length c1] rfl rfl (World.news_of_block (heap_alloc_new x1 _)) (by simp [Value.oneCell']) (by omega) c63 cby hbase (x1.heap.size + 1) (by simp) ?_; intro gg cap w1 hown' hgrow hat hlt')
    rw [HROW.out] at hgrow
    have hgB := (grown_row (r := row) hX2).andThen hgrow (fun j hj => .inr hj)
    refine ⟨inGx hgB, ?_⟩
    repeat (refine mix_quiet rfl ?_; go_big_quiet_step (fail); refine wpQuiet_nil ?_)
    refine mix_nil rfl ?_
    have B5 := hbl.grown hgB hbl.size hrw
    have hN3 : DOwn 104 w1 w.heap.size (.slice (some ⟨gg, 0, none⟩) (X.length + 1) cap) (X ++ [(⟨ht, is⟩, A1, c1)]) :=
      NOwn.push hN2 (by rw [HROW.out]; exact hgrow) (by decide) rfl (own_push (f := xR) (x := (⟨ht, is⟩, A1, c1)) rfl hown') (fun y hy => by
        obtain rfl := List.mem_singleton.1 hy
        exact hr2.base (by show w.heap.size ≤ W.heap.size; omega))
    have HN : Hid ((X ++ [((⟨ht, is⟩ : Dp), A1, c1)]).map (·.1) = p.take (k + 1)) := Lib.hid (by
      rw [List.map_append, HL.out]
      exact take_push hlt rfl HD.out)
    generalize X ++ [((⟨ht, is⟩ : Dp), A1, c1)] = X' at *
    clear hown' hgB hgrow y4 hX2 hX_x1 hX0 hx1 hN2 hr2 hr1 hrow1 hN hnr g0 g1
    go_wp2_with fail
    refine ⟨⟨⟨k + 1, by omega, B5, _, X', HN, hN3, exFrame (by kernel_rfl)⟩⟩, ?_⟩
    show p.length - (intOf (.int .i64 ((k : Int) + 1))).toNat < p.length - (intOf (.int .i64 (k : Int))).toNat
    simp [intOf]
    omega
  obtain rfl : k = p.length := by omega
  obtain ⟨A', c', rA', rc', rfl, hpl'⟩ := hN.pl
  have hXp : X.map (·.1) = p := HL.out.trans List.take_length
  rw [hXp] at hpl' ⊢
  clear HL hXp
  go_wp2
  go_ret
  exact ⟨⟨A', c', rA', rc', rfl, hpl'⟩, hbl⟩

/-- a works and a plan of at most nine of everything. -/
structure ShortP (w : Wo) (p : List Dp) : Prop where
  n : w.rng.length ≤ 9
  len : p.length ≤ 9
  ins : ∀ k, k < p.length → (gDp p k).ins.length ≤ 9
set_option maxRecDepth 100000 in
set_option maxHeartbeats 3200000 in
theorem short_law (w0 : Wo) (Ar : Option Addr) (cr : Nat) (p : List Dp) (Ap : Option Addr) (cp : Nat) (rA : Nat → Option Addr) (rc : Nat → Nat) (w : World) (hp : PlIn w w.heap.size p Ap rA rc) (hsm : p.length ≤ maxLen) (hrl : w0.rng.length ≤ maxLen) :
    Calls Try.prog 38 #[.agg #[.slice Ar w0.rng.length cr, .int .i64 w0.room, .int .i64 w0.steps], .slice Ap p.length cp] w fun e w' => (∃ x : Bool, e = .returned (.bool x) ∧ Hid (x = true → ShortP w0 p)) ∧ Below w.heap.size w w' := by
  have hm : maxLen = 9223372036854775807 := rfl
  have hb1 := ex_alloc (Below.refl w.heap.size w) (.cells #[.slice Ar w0.rng.length cr, .int .i64 w0.room, .int .i64 w0.steps] 60)
  have q1 : Blk (w.alloc (.cells #[.slice Ar w0.rng.length cr, .int .i64 w0.room, .int .i64 w0.steps] 60)) w.heap.size 60 #[.slice Ar w0.rng.length cr, .int .i64 w0.room, .int .i64 w0.steps] := Blk.new _ _ _
  go_enter Try.func38, Try.ntmps38
  go_wp2_with fail
  generalize w.alloc (.cells #[.slice Ar w0.rng.length cr, .int .i64 w0.room, .int .i64 w0.steps] 60) = V at *
  refine wp_loop (fun a W => Rel (fun a W => ∃ k : Nat, k ≤ p.length ∧ k ≤ 10 ∧ Below w.heap.size w W ∧ Blk W w.heap.size 60 #[.slice Ar w0.rng.length cr, .int .i64 w0.room, .int .i64 w0.steps] ∧ Hid (∀ j, j < k → (gDp p j).ins.length ≤ 9) ∧ ∃ u : Nat → Value, a = ⟨List.toArray (u 0 :: .slice Ap p.length cp :: .pointer (some ⟨w.heap.size, 0, none⟩) :: u 3 :: u 4 :: .int .i64 (k : Int) :: u 6 :: u 7 :: u 8 :: u 9 :: u 10 :: u 11 :: u 12 :: u 13 :: u 14 :: u 15 :: u 16 :: u 17 :: u 18 :: u 19 :: u 20 :: u 21 :: u 22 :: u 23 :: u 24 :: u 25 :: u 26 :: u 27 :: u 28 :: u 29 :: u 30 :: u 31 :: []), []⟩) a W)
    (fun a _ => 10 - (intOf (a.tmps.getD 5 undef)).toNat) ⟨⟨0, by omega, by omega, hb1, q1, Lib.hid (fun j hj => by omega), exFrame (by kernel_rfl)⟩⟩ ?_
  clear hb1 q1 V
  rintro a W ⟨⟨k, hk, hk10, hbl, q0, HA, u, rfl⟩⟩
  have l0 := q0.lt
  have a0 : W.cell? ⟨w.heap.size, 0, none⟩ = some (.slice Ar w0.rng.length cr) := q0.cell 0
  by_cases hlt : k < p.length ∧ k < 10
  rotate_left
  · have HSH : Hid (p.length ≤ 9 → w0.rng.length ≤ 9 → ShortP w0 p) := Lib.hid (fun h1 h2 => ⟨h2, h1, fun j hj => HA.out j (by omega)⟩)
    by_cases h1 : p.length ≤ 9
    · have hkp : k = p.length := by omega
      subst hkp
      by_cases h2 : w0.rng.length ≤ 9
      · have HR := Lib.hid (HSH.out h1 h2)
        have e1 : decide ((p.length : Int) ≤ 9) = true := decide_eq_true (by omega)
        have e2 : decide ((w0.rng.length : Int) ≤ 9) = true := decide_eq_true (by omega)
        go_wp2
        go_ret
        exact ⟨⟨_, rfl, Lib.hid (fun _ => HR.out)⟩, hbl⟩
      · have e1 : decide ((p.length : Int) ≤ 9) = true := decide_eq_true (by omega)
        have e2 : decide ((w0.rng.length : Int) ≤ 9) = false := decide_eq_false (by omega)
        go_wp2
        go_ret
        exact ⟨⟨_, rfl, Lib.hid (fun h => by cases h)⟩, hbl⟩
    · have e1 : decide ((p.length : Int) ≤ 9) = false := decide_eq_false (by omega)
      have c1 : decide ((k : Int) < 10) = decide (k < 10) := by simp only [decide_eq_decide]; omega
      by_cases hkl : k < p.length
      · have e0 : decide ((k : Int) < 10) = false := decide_eq_false (by omega)
        go_wp2
        go_ret
        exact ⟨⟨_, rfl, Lib.hid (fun h => by cases h)⟩, hbl⟩
      · go_wp2
        go_ret
        exact ⟨⟨_, rfl, Lib.hid (fun h => by cases h)⟩, hbl⟩
  obtain ⟨hlt, hlt10⟩ := hlt
  have hpW := hp.below hbl
  obtain ⟨bd, od, rfl, hbd, g0, g1⟩ := hpW.at_ hlt
  have e0 : decide ((k : Int) < 10) = true := decide_eq_true (by omega)
  by_cases h9 : (gDp p k).ins.length ≤ 9
  · have HA2 : Hid (∀ j, j < k + 1 → (gDp p j).ins.length ≤ 9) := Lib.hid (fun j hj => by
      rcases Nat.lt_succ_iff_lt_or_eq.1 hj with h | h
      · exact HA.out j h
      · rw [h]; exact h9)
    have e1 : decide (((gDp p k).ins.length : Int) > 9) = false := decide_eq_false (by omega)
    generalize (gDp p k).ins.length = m at *
    go_wp2_with fail
    refine ⟨⟨⟨k + 1, by omega, by omega, hbl, q0, HA2, exFrame (by kernel_rfl)⟩⟩, ?_⟩
    show 10 - (intOf (.int .i64 ((k : Int) + 1))).toNat < 10 - (intOf (.int .i64 (k : Int))).toNat
    simp [intOf]
    omega
  · have e1 : decide (((gDp p k).ins.length : Int) > 9) = true := decide_eq_true (by omega)
    generalize (gDp p k).ins.length = m at *
    go_wp2
    go_ret
    exact ⟨⟨_, rfl, Lib.hid (fun h => by cases h)⟩, hbl⟩
end Go.Proofs.Ytnplefhigbkbbaa
end
