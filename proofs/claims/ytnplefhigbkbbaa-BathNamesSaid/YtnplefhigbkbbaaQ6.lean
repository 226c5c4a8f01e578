/- Bath: right, Known, ProvePlan (walks). · Bath's Plan: what the search keeps in memory. · Bath's Plan (plain): the search's states, and what comes of them. · Bath: Plan (walk). · Bath: places are compared (walks). -/
import Derived.Test.YtnplefhigbkbbaaQ2
import Derived.Test.YtnplefhigbkbbaaQ5
import Derived.Test.YtnplefhigbkbbaaQ3
set_option linter.unusedVariables false
set_option linter.unusedSimpArgs false
set_option linter.unusedSectionVars false
section
namespace Go.Proofs.Ytnplefhigbkbbaa
open Go.RowKit
attribute [local go_sem] Ex.cell? Ex.frozen?

/-- the six as a list. -/
def l6 (s : S6) : List Int := [s.a, s.b, s.c, s.d, s.e, s.f]
theorem l6_get {s : S6} {i : Nat} (hi : i < 6) : gI (l6 s) i = s.get i := by
  rcases six hi with rfl | rfl | rfl | rfl | rfl | rfl <;> rfl
theorem l6_sl {W : World} {b : Nat} {t : TypeId} {s : S6} (h : Blk W b t (sC s)) {n : Nat} (hn : n ≤ 6) : SlAt W W.heap.size 1 (some ⟨b, 0, none⟩) n (fI (l6 s)) := fun _ => by
  refine ⟨b, 0, rfl, h.lt, fun k j hk hj => ?_⟩
  obtain rfl : j = 0 := by omega
  rw [show 0 + (k * 1 + 0) = k by omega, h.s6c (by omega)]
  show _ = some (Value.int .i64 (gI (l6 s) k))
  rw [l6_get (by omega)]
def rightB (w : Wo) (s : S6) : Bool := allTo (fun k => inB (s.get k) 0 w.steps) w.rng.length
theorem rightB_iff {w : Wo} {s : S6} : rightB w s = true ↔ RightS w s := by
  unfold rightB RightS
  rw [allTo_iff]
  exact ⟨fun h i hi => inB_iff.1 (h i hi), fun h i hi => inB_iff.2 (h i hi)⟩

set_option maxHeartbeats 1600000 in
theorem right1_any (w0 : Wo) (Ar : Option Addr) (cr pw : Nat) (n : Int) (w : World) (hq : Blk w pw 65 #[.slice Ar w0.rng.length cr, .int .i64 w0.room, .int .i64 w0.steps]) :
    Calls Try.prog 113 #[.int .i64 n, .pointer (some ⟨pw, 0, none⟩)] w fun e w' => e = .returned (.bool (inB n 0 w0.steps)) ∧ Below w.heap.size w w' := by
  have a2 : w.cell? ⟨pw, 2, none⟩ = some (.int .i64 w0.steps) := hq.cell 2
  have l2 := hq.lt
  go_enter Try.func113, Try.ntmps113
  go_wp2_with fail
  refine (within_any _ _ _ _).mono ?_
  rintro e w' ⟨rfl, rfl⟩
  go_wp2
  go_ret
  exact ⟨rfl, Below.refl _ _⟩

set_option maxHeartbeats 1600000 in
theorem all1_rt (w0 : Wo) (Ar : Option Addr) (cr pw : Nat) (n : Nat) (l : List Int) (w : World) (hq : Blk w pw 65 #[.slice Ar w0.rng.length cr, .int .i64 w0.room, .int .i64 w0.steps]) (k pb : Nat) (hk : k < n) (hp : pb < w.heap.size) (hc : w.cell? ⟨pb, 0, none⟩ = some (.func (.func 113) #[] #[.pointer (some ⟨pw, 0, none⟩)])) :
    Calls Try.prog 126 #[.int .i64 (gI l k), .pointer (some ⟨pb, 0, none⟩)] w fun e w' => e = .returned (.bool (!(inB (gI l k) 0 w0.steps))) ∧ Below w.heap.size w w' := by
  go_enter Try.func126, Try.ntmps126
  go_wp2_with fail
  refine (right1_any w0 Ar cr pw (gI l k) _ hq).mono ?_
  rintro e w2 ⟨rfl, hb2⟩
  go_wp2
  go_ret
  exact ⟨rfl, hb2⟩

set_option maxHeartbeats 1600000 in
theorem index_rt (w0 : Wo) (Ar : Option Addr) (cr pw : Nat) (n : Nat) (l : List Int) (A : Option Addr) (c : Nat) (w : World) (hq : Blk w pw 65 #[.slice Ar w0.rng.length cr, .int .i64 w0.room, .int .i64 w0.steps]) (hA : SlAt w w.heap.size 1 A n (fI l)) (hl : n ≤ 1000000) (pb : Nat) (hp : pb < w.heap.size) (hc : w.cell? ⟨pb, 0, none⟩ = some (.func (.func 113) #[] #[.pointer (some ⟨pw, 0, none⟩)])) :
    Calls Try.prog 131 #[.slice A n c, .func (.func 126) #[] #[.pointer (some ⟨pb, 0, none⟩)]] w fun e w' => e = .returned (.int .i64 (firstOf (fun k => !(inB (gI l k) 0 w0.steps)) n)) ∧ Below w.heap.size w w' := by
  go_enter Try.func131, Try.ntmps131
  go_wp2
  go_loopw [8] (fun i wr => ∃ k : Nat, k ≤ n ∧ i = .int .i64 k ∧ (∀ k', k' < k → (inB (gI l k') 0 w0.steps) = true) ∧ Below w.heap.size w wr)
    (fun i _ => n - (intOf i).toNat)
  case atStart => exact ⟨0, by omega, rfl, fun j hj => by omega, Below.refl _ _⟩
  case round =>
    obtain ⟨k, hk, rfl, hok, hbl⟩ := hrel
    by_cases hlt : k < n
    · have hAW := (hA.below hbl).up hbl.size
      obtain ⟨bi, oi, rfl, hbi, g0⟩ := IsInts.at_ hAW hlt
      have hcr : wr.cell? ⟨pb, 0, none⟩ = some (.func (.func 113) #[] #[.pointer (some ⟨pw, 0, none⟩)]) := (hbl.cell (p := ⟨pb, 0, none⟩) hp).trans hc
      have hpr : pb < wr.heap.size := by have := hbl.size; omega
      have HOK := Lib.hid hok
      clear hok
      cases ht : (inB (gI l k) 0 w0.steps)
      · have HT := Lib.hid ht
        have HF : Hid (firstOf (fun k => !(inB (gI l k) 0 w0.steps)) n = (k : Int)) := Lib.hid (firstOf_at hlt (fun j hj => by have := HOK.out j hj; simp only [this]; rfl) (by simp only [ht]; rfl))
        clear ht
        go_wp2_with fail
        refine (all1_rt w0 Ar cr pw n l wr (hq.below hbl hq.lt) k pb hlt hpr hcr).mono ?_
        rintro e w2 ⟨rfl, hb2⟩
        rw [HT.out]
        go_wp2
        go_ret
        exact ⟨ret_int HF.out.symm, ex_trans hbl hb2⟩
      · have HT := Lib.hid ht
        clear ht
        go_wp2_with fail
        refine (all1_rt w0 Ar cr pw n l wr (hq.below hbl hq.lt) k pb hlt hpr hcr).mono ?_
        rintro e w2 ⟨rfl, hb2⟩
        rw [HT.out]
        go_wp2
        go_roundw
        case rel => exact ⟨k + 1, by omega, by go_num, fun j hj => by rcases Nat.lt_succ_iff_lt_or_eq.1 hj with h | h; exact HOK.out j h; exact h ▸ HT.out, ex_trans hbl hb2⟩
        case measure => simp [intOf]; omega
    · obtain rfl : k = n := by omega
      have HF : Hid (firstOf (fun k => !(inB (gI l k) 0 w0.steps)) k = -1) := Lib.hid (firstOf_neg fun j hj => by have := hok j hj; simp only [this]; rfl)
      go_wp2
      go_ret
      exact ⟨ret_int HF.out.symm, hbl⟩

theorem contains_rt (w0 : Wo) (Ar : Option Addr) (cr pw : Nat) (n : Nat) (l : List Int) (A : Option Addr) (c : Nat) (w : World) (hq : Blk w pw 65 #[.slice Ar w0.rng.length cr, .int .i64 w0.room, .int .i64 w0.steps]) (hA : SlAt w w.heap.size 1 A n (fI l)) (hl : n ≤ 1000000) (pb : Nat) (hp : pb < w.heap.size) (hc : w.cell? ⟨pb, 0, none⟩ = some (.func (.func 113) #[] #[.pointer (some ⟨pw, 0, none⟩)])) :
    Calls Try.prog 125 #[.slice A n c, .func (.func 126) #[] #[.pointer (some ⟨pb, 0, none⟩)]] w fun e w' => e = .returned (.bool (!allTo (fun k => (inB (gI l k) 0 w0.steps)) n)) ∧ Below w.heap.size w w' := by
  have HF : Hid (decide (0 ≤ firstOf (fun k => !(inB (gI l k) 0 w0.steps)) n) = !allTo (fun k => (inB (gI l k) 0 w0.steps)) n) := Lib.hid (by rw [firstOf_nonneg]; simp)
  go_enter Try.func125, Try.ntmps125
  go_wp2_with fail
  refine (index_rt w0 Ar cr pw n l A c w hq hA hl pb hp hc).mono ?_
  rintro e w2 ⟨rfl, hb2⟩
  go_wp2
  go_ret
  exact ⟨ret_bool HF.out, hb2⟩

theorem all_rt (w0 : Wo) (Ar : Option Addr) (cr pw : Nat) (n : Nat) (l : List Int) (A : Option Addr) (c : Nat) (w : World) (hq : Blk w pw 65 #[.slice Ar w0.rng.length cr, .int .i64 w0.room, .int .i64 w0.steps]) (hA : SlAt w w.heap.size 1 A n (fI l)) (hl : n ≤ 1000000) :
    Calls Try.prog 112 #[.slice A n c, .func (.func 113) #[] #[.pointer (some ⟨pw, 0, none⟩)]] w fun e w' => e = .returned (.bool (allTo (fun k => (inB (gI l k) 0 w0.steps)) n)) ∧ Below w.heap.size w w' := by
  have hb1 := ex_alloc (Below.refl w.heap.size w) (.cells #[.func (.func 113) #[] #[.pointer (some ⟨pw, 0, none⟩)]] 126)
  have hA1 := (hA.below hb1).up hb1.size
  go_enter Try.func112, Try.ntmps112
  go_wp2_with fail
  refine (contains_rt w0 Ar cr pw n l A c _ (hq.below hb1 hq.lt) hA1 hl w.heap.size (by simp) (by simp [go_sem])).mono ?_
  rintro e w2 ⟨rfl, hb2⟩
  go_wp2
  go_ret
  exact ⟨by simp, ex_trans hb1 hb2⟩
set_option maxRecDepth 100000 in
set_option maxHeartbeats 3200000 in
theorem right_any (w0 : Wo) (Ar : Option Addr) (cr : Nat) (s : S6) (w : World) (hn : w0.rng.length ≤ 6) :
    Calls Try.prog 82 #[.agg #[.slice Ar w0.rng.length cr, .int .i64 w0.room, .int .i64 w0.steps], .agg (sC s)] w fun e w' => e = .returned (.bool (rightB w0 s)) ∧ Below w.heap.size w w' := by
  have hb1 := ex_alloc (ex_alloc (Below.refl w.heap.size w) (.cells #[.slice Ar w0.rng.length cr, .int .i64 w0.room, .int .i64 w0.steps] 65)) (.cells #[.int .i64 s.a, .int .i64 s.b, .int .i64 s.c, .int .i64 s.d, .int .i64 s.e, .int .i64 s.f] 145)
  have q0 : Blk ((w.alloc (.cells #[.slice Ar w0.rng.length cr, .int .i64 w0.room, .int .i64 w0.steps] 65)).alloc (.cells #[.int .i64 s.a, .int .i64 s.b, .int .i64 s.c, .int .i64 s.d, .int .i64 s.e, .int .i64 s.f] 145)) w.heap.size 65 #[.slice Ar w0.rng.length cr, .int .i64 w0.room, .int .i64 w0.steps] := (Blk.new _ _ _).alloc _
  have q1 : Blk ((w.alloc (.cells #[.slice Ar w0.rng.length cr, .int .i64 w0.room, .int .i64 w0.steps] 65)).alloc (.cells #[.int .i64 s.a, .int .i64 s.b, .int .i64 s.c, .int .i64 s.d, .int .i64 s.e, .int .i64 s.f] 145)) (w.heap.size + 1) 145 (sC s) := Blk.new' _ _ _ (by simp)
  have HR : Hid (allTo (fun k => (inB (gI (l6 s) k) 0 w0.steps)) w0.rng.length = rightB w0 s) := Lib.hid (by
    unfold rightB
    have h1 : ∀ b c : Bool, (b = true ↔ c = true) → b = c := fun b c h => by cases b <;> cases c <;> simp_all
    refine h1 _ _ ?_
    rw [allTo_iff, allTo_iff]
    exact ⟨fun h k hk => by rw [← l6_get (by omega)]; exact h k hk, fun h k hk => by rw [l6_get (by omega)]; exact h k hk⟩)
  have d6 : ((w0.rng.length : Int) ≤ 6) := by omega
  show Calls Try.prog 82 #[.agg #[.slice Ar w0.rng.length cr, .int .i64 w0.room, .int .i64 w0.steps], .agg #[.int .i64 s.a, .int .i64 s.b, .int .i64 s.c, .int .i64 s.d, .int .i64 s.e, .int .i64 s.f]] w fun e w' => e = .returned (.bool (rightB w0 s)) ∧ Below w.heap.size w w'
  go_enter Try.func82, Try.ntmps82
  go_wp2_with fail
  refine (all_rt w0 Ar cr w.heap.size w0.rng.length (l6 s) _ 6 _ q0 (l6_sl q1 hn) (by omega)).mono ?_
  rintro e w2 ⟨rfl, hb2⟩
  rw [HR.out]
  go_wp2
  go_ret
  exact ⟨rfl, ex_trans hb1 hb2⟩

/-- what ProvePlan tells. -/
def ProveV (w : Wo) (p : List Dp) (many : Int) (x : Bool) : Prop := x = true ↔ ckWo w = 0 ∧ RightP w p ∧ (p.length : Int) ≤ many
/-- what Known tells. -/
def KnownV (w : Wo) (p : List Dp) (r : List Int) (ev : Int) : Prop :=
  (ckWo w ≠ 0 ∧ ev = ckWo w ∧ r = []) ∨ (ckWo w = 0 ∧ planB w p = false ∧ ev = 2 ∧ r = []) ∨ (ckWo w = 0 ∧ planB w p = true ∧ ev = 0 ∧ ∃ K, KnownIs p K ∧ r = (l6 K).take w.rng.length)
theorem planB_iff {w : Wo} {p : List Dp} : planB w p = true ↔ ∀ k, k < p.length → DipOk w (gDp p k) := by
  unfold planB
  rw [allTo_iff]
  exact ⟨fun h k hk => dipOk_iff.1 (h k hk), fun h k hk => dipOk_iff.2 (h k hk)⟩
theorem planB_in6 {w : Wo} {p : List Dp} (hw : ckWo w = 0) (h : planB w p = true) : In6P p := fun k hk => (planB_iff.1 h k hk).in6 (woOk_iff.1 hw)
set_option maxRecDepth 100000 in
set_option maxHeartbeats 6400000 in
theorem Known_any (w0 : Wo) (Ar : Option Addr) (cr : Nat) (p : List Dp) (Ap : Option Addr) (cp : Nat) (rA : Nat → Option Addr) (rc : Nat → Nat) (w : World) (hr : SlAt w w.heap.size 2 Ar w0.rng.length (fR w0.rng)) (hn : w0.rng.length ≤ 1000000) (hp : PlIn w w.heap.size p Ap rA rc) (hsm : SmPl p) :
    Calls Try.prog 59 #[.agg #[.slice Ar w0.rng.length cr, .int .i64 w0.room, .int .i64 w0.steps], .slice Ap p.length cp] w fun e w' => (∃ A r c ev, e = .returned (.tuple #[.slice A (r : List Int).length c, .int .i64 ev]) ∧ Hid (KnownV w0 p r ev) ∧ r.length ≤ 6 ∧ SlAt w' w'.heap.size 1 A r.length (fI r)) ∧ Below w.heap.size w w' := by
  have hb1 := ex_alloc (Below.refl w.heap.size w) (.cells #[.slice Ar w0.rng.length cr, .int .i64 w0.room, .int .i64 w0.steps] 65)
  have q1 : Blk (w.alloc (.cells #[.slice Ar w0.rng.length cr, .int .i64 w0.room, .int .i64 w0.steps] 65)) w.heap.size 65 #[.slice Ar w0.rng.length cr, .int .i64 w0.room, .int .i64 w0.steps] := Blk.new _ _ _
  have hpl := hsm.len
  go_enter Try.func59, Try.ntmps59
  go_wp2_with fail
  generalize w.alloc (.cells #[.slice Ar w0.rng.length cr, .int .i64 w0.room, .int .i64 w0.steps] 65) = V at *
  refine (ckWorks_any w0 Ar cr V ((hr.below hb1).up hb1.size) hn).mono ?_
  rintro e W1 ⟨rfl, hX⟩
  have hb2 := ex_trans hb1 hX
  have q2 := q1.below hX q1.lt
  clear q1 hX hb1
  by_cases hck : ckWo w0 = 0
  rotate_left
  · have HCK := Lib.hid hck
    have e1 : (ckWo w0 != 0) = true := by simp [hck]
    have e2 : (ckWo w0 == 0) = false := by simp [hck]
    clear hck
    go_wp2
    go_ret2
    exact ⟨⟨none, [], 0, _, rfl, Lib.hid (.inl ⟨HCK.out, rfl, rfl⟩), by simp, fun h => absurd h (by simp)⟩, hb2⟩
  have HCK := Lib.hid hck
  have hn6 := (woOk_iff.1 hck).n.2
  rw [hck]
  clear hck
  have a0 : W1.cell? ⟨w.heap.size, 0, none⟩ = some (.slice Ar w0.rng.length cr) := q2.cell 0
  have a1 : W1.cell? ⟨w.heap.size, 1, none⟩ = some (.int .i64 w0.room) := q2.cell 1
  have a2 : W1.cell? ⟨w.heap.size, 2, none⟩ = some (.int .i64 w0.steps) := q2.cell 2
  have l1 := q2.lt
  have hr2 := (hr.below hb2).up hb2.size
  have hp2 := hp.below hb2
  go_wp2_with fail
  refine (all_dip w0 Ar cr hn p.length p rA rc hsm.ins Ap cp W1 hr2 hp2.ins hp2.rows hpl).mono ?_
  rintro e W2 ⟨rfl, hX⟩
  have hb3 := ex_trans hb2 hX
  have q3 := q2.below hX l1
  clear q2 hX hb2 a0 a1 a2 l1 hr2 hp2
  have HPB : Hid (allTo (fun k => (dipB w0 (gDp p k))) p.length = planB w0 p) := Lib.hid rfl
  rw [HPB.out]
  clear HPB
  cases hpb : planB w0 p
  · have HPB := Lib.hid hpb
    clear hpb
    go_wp2
    go_ret2
    exact ⟨⟨none, [], 0, 2, rfl, Lib.hid (.inr (.inl ⟨HCK.out, HPB.out, rfl, rfl⟩)), by simp, fun h => absurd h (by simp)⟩, hb3⟩
  have HPB := Lib.hid hpb
  have h6 := planB_in6 HCK.out hpb
  clear hpb
  have hp3 := hp.below hb3
  go_wp2_with fail
  refine (known_any p Ap cp rA rc W2 hp3 h6 hsm).mono ?_
  rintro e W3 ⟨K, rfl, hK, hX⟩
  have hb4 := ex_trans hb3 hX
  have q4 := q3.below hX q3.lt
  have HK : Hid (KnownV w0 p ((l6 K).take w0.rng.length) 0) := Lib.hid (.inr (.inr ⟨HCK.out, HPB.out, rfl, K, hK, rfl⟩))
  clear q3 hb3 hX hp3 h6 hK
  rw [sV_lit K]
  have hbX := ex_alloc (Below.refl W3.heap.size W3) (.cells #[.int .i64 K.a, .int .i64 K.b, .int .i64 K.c, .int .i64 K.d, .int .i64 K.e, .int .i64 K.f] 145)
  have y4 : Blk (W3.alloc (.cells #[.int .i64 K.a, .int .i64 K.b, .int .i64 K.c, .int .i64 K.d, .int .i64 K.e, .int .i64 K.f] 145)) W3.heap.size 145 (sC K) := Blk.new _ _ _
  have q5 := q4.below hbX q4.lt
  have hb5 := ex_trans hb4 hbX
  have a0 : (W3.alloc (.cells #[.int .i64 K.a, .int .i64 K.b, .int .i64 K.c, .int .i64 K.d, .int .i64 K.e, .int .i64 K.f] 145)).cell? ⟨w.heap.size, 0, none⟩ = some (.slice Ar w0.rng.length cr) := q5.cell 0
  have a00 : W3.cell? ⟨w.heap.size, 0, none⟩ = some (.slice Ar w0.rng.length cr) := q4.cell 0
  have l1 := q4.lt
  have d6 : ((w0.rng.length : Int) ≤ 6) := by omega
  go_wp2_with fail
  generalize W3.alloc (.cells #[.int .i64 K.a, .int .i64 K.b, .int .i64 K.c, .int .i64 K.d, .int .i64 K.e, .int .i64 K.f] 145) = U at *
  refine (slices_Clone_int W3.heap.size 0 w0.rng.length 6 (l6 K) U (by show w0.rng.length ≤ 6; omega) (by omega) (fun j hj => ?_)).mono ?_
  · rw [Nat.zero_add]
    exact (y4.s6c hj).trans (by rw [← l6_get hj]; rfl)
  rintro e W5 ⟨v', rfl, hown, _, hX⟩
  have hb6 := ex_trans hb5 hX
  have hlen : ((l6 K).take w0.rng.length).length = w0.rng.length := by rw [List.length_take]; show min w0.rng.length 6 = _; omega
  have hown2 : W5.ownsRow U.heap.size 3 1 v' ((l6 K).take w0.rng.length).length (((l6 K).take w0.rng.length).map (Value.int .i64)) := by rw [hlen]; exact hown
  obtain ⟨A, c, rfl, _, hsl⟩ := own_sl hown2
  have HL := Lib.hid hlen
  clear hlen hown hown2
  generalize (l6 K).take w0.rng.length = r at *
  go_wp2
  go_ret2
  exact ⟨⟨A, r, c, 0, rfl, HK, by rw [HL.out]; omega, hsl⟩, hb6⟩

set_option maxRecDepth 100000 in
set_option maxHeartbeats 6400000 in
theorem provePlan_any (w0 : Wo) (Ar : Option Addr) (cr : Nat) (p : List Dp) (Ap : Option Addr) (cp : Nat) (rA : Nat → Option Addr) (rc : Nat → Nat) (w : World) (hr : SlAt w w.heap.size 2 Ar w0.rng.length (fR w0.rng)) (hn : w0.rng.length ≤ 1000000) (hp : PlIn w w.heap.size p Ap rA rc) (hsm : SmPl p) (many : Int) :
    Calls Try.prog 39 #[.agg #[.slice Ar w0.rng.length cr, .int .i64 w0.room, .int .i64 w0.steps], .slice Ap p.length cp, .int .i64 many] w fun e w' => ∃ x : Bool, e = .returned (.bool x) ∧ Hid (ProveV w0 p many x) ∧ Below w.heap.size w w' := by
  have hb1 := ex_alloc (Below.refl w.heap.size w) (.cells #[.slice Ar w0.rng.length cr, .int .i64 w0.room, .int .i64 w0.steps] 65)
  have q1 : Blk (w.alloc (.cells #[.slice Ar w0.rng.length cr, .int .i64 w0.room, .int .i64 w0.steps] 65)) w.heap.size 65 #[.slice Ar w0.rng.length cr, .int .i64 w0.room, .int .i64 w0.steps] := Blk.new _ _ _
  have hpl := hsm.len
  go_enter Try.func39, Try.ntmps39
  go_wp2_with fail
  generalize w.alloc (.cells #[.slice Ar w0.rng.length cr, .int .i64 w0.room, .int .i64 w0.steps] 65) = V at *
  have a0 : V.cell? ⟨w.heap.size, 0, none⟩ = some (.slice Ar w0.rng.length cr) := q1.cell 0
  have a1 : V.cell? ⟨w.heap.size, 1, none⟩ = some (.int .i64 w0.room) := q1.cell 1
  have a2 : V.cell? ⟨w.heap.size, 2, none⟩ = some (.int .i64 w0.steps) := q1.cell 2
  have l1 := q1.lt
  by_cases hck : ckWo w0 = 0
  rotate_left
  · have HCK := Lib.hid hck
    have e1 : (ckWo w0 == 0) = false := by simp [hck]
    have HV : Hid (ProveV w0 p many false) := Lib.hid ⟨fun h => (by cases h), fun h => absurd h.1 hck⟩
    clear hck
    refine wp_region_ext_mix 21 [(false, 0), (true, 1), (false, 2), (false, 3), (false, 4), (false, 5), (true, 6), (true, 7), (false, 8), (false, 9), (false, 10), (false, 11), (true, 12), (true, 13), (false, 14), (false, 15), (false, 16), (false, 17), (false, 18), (false, 19), (false, 20)] (by kernel_rfl) (by kernel_rfl) (by intro d _ _ _ _ h; cases d <;> exact h) ?_
    have hX0 := (Below.refl V.heap.size V).drew
    repeat (refine mix_quiet rfl ?_; go_big_quiet_step (fail); refine wpQuiet_nil ?_)
    refine mix_loud rfl ?_
    go_wp2_with fail
    refine (ckWorks_any w0 Ar cr V.drew ((hr.below (ex_trans hb1 hX0)).up (ex_trans hb1 hX0).size) hn).mono ?_
    rintro e W1 ⟨rfl, hY1⟩
    have hX1 := ex_trans hX0 hY1
    go_wp2_with fail
    refine ⟨inEx hX1, ?_⟩
    repeat (refine mix_quiet rfl ?_; go_big_quiet_step (fail); refine wpQuiet_nil ?_)
    refine mix_loud rfl ?_
    go_wp2_with fail
    refine ⟨inEx hX1, ?_⟩
    refine mix_loud rfl ?_
    go_wp2_with fail
    refine ⟨inEx hX1, ?_⟩
    repeat (refine mix_quiet rfl ?_; go_big_quiet_step (fail); refine wpQuiet_nil ?_)
    refine mix_loud rfl ?_
    go_wp2_with fail
    refine ⟨inEx hX1, ?_⟩
    refine mix_loud rfl ?_
    go_wp2_with fail
    refine ⟨inEx hX1, ?_⟩
    repeat (refine mix_quiet rfl ?_; go_big_quiet_step (fail); refine wpQuiet_nil ?_)
    refine mix_nil rfl ?_
    go_wp2
    go_ret
    exact ⟨_, rfl, HV, ex_trans hb1 hX1⟩

  have HCK := Lib.hid hck
  have H66 := Lib.hid (woOk_iff.1 hck).n.2
  cases hpb : planB w0 p
  · have HPB : Hid (allTo (fun k => (dipB w0 (gDp p k))) p.length = false) := Lib.hid hpb
    have HV : Hid (ProveV w0 p many false) := Lib.hid ⟨fun h => (by cases h), fun h => by rw [planB_iff.2 h.2.1.dips] at hpb; cases hpb⟩
    clear hpb
    refine wp_region_ext_mix 21 [(false, 0), (true, 1), (false, 2), (false, 3), (false, 4), (false, 5), (true, 6), (true, 7), (false, 8), (false, 9), (false, 10), (false, 11), (true, 12), (true, 13), (false, 14), (false, 15), (false, 16), (false, 17), (false, 18), (false, 19), (false, 20)] (by kernel_rfl) (by kernel_rfl) (by intro d _ _ _ _ h; cases d <;> exact h) ?_
    have hX0 := (Below.refl V.heap.size V).drew
    repeat (refine mix_quiet rfl ?_; go_big_quiet_step (fail); refine wpQuiet_nil ?_)
    refine mix_loud rfl ?_
    go_wp2_with fail
    refine (ckWorks_any w0 Ar cr V.drew ((hr.below (ex_trans hb1 hX0)).up (ex_trans hb1 hX0).size) hn).mono ?_
    rintro e W1 ⟨rfl, hY1⟩
    have hX1 := ex_trans hX0 hY1
    rw [HCK.out]
    go_wp2_with fail
    have q2 := q1.below hX1 q1.lt
    have hb2 := ex_trans hb1 hX1
    have a0' : W1.cell? ⟨w.heap.size, 0, none⟩ = some (.slice Ar w0.rng.length cr) := q2.cell 0
    have a1' : W1.cell? ⟨w.heap.size, 1, none⟩ = some (.int .i64 w0.room) := q2.cell 1
    have a2' : W1.cell? ⟨w.heap.size, 2, none⟩ = some (.int .i64 w0.steps) := q2.cell 2
    refine ⟨inEx hX1, ?_⟩
    repeat (refine mix_quiet rfl ?_; go_big_quiet_step (fail); refine wpQuiet_nil ?_)
    refine mix_loud rfl ?_
    go_wp2_with fail
    refine ⟨inEx hX1, ?_⟩
    refine mix_loud rfl ?_
    go_wp2_with fail
    have hp2 := hp.below hb2
    refine (all_dip w0 Ar cr hn p.length p rA rc hsm.ins Ap cp W1 ((hr.below hb2).up hb2.size) hp2.ins hp2.rows hpl).mono ?_
    rintro e W2 ⟨rfl, hY2⟩
    have hX2 := ex_trans hX1 hY2
    rw [HPB.out]
    go_wp2_with fail
    refine ⟨inEx hX2, ?_⟩
    repeat (refine mix_quiet rfl ?_; go_big_quiet_step (fail); refine wpQuiet_nil ?_)
    refine mix_loud rfl ?_
    go_wp2_with fail
    refine ⟨inEx hX2, ?_⟩
    refine mix_loud rfl ?_
    go_wp2_with fail
    refine ⟨inEx hX2, ?_⟩
    repeat (refine mix_quiet rfl ?_; go_big_quiet_step (fail); refine wpQuiet_nil ?_)
    refine mix_nil rfl ?_
    go_wp2
    go_ret
    exact ⟨_, rfl, HV, ex_trans hb1 hX2⟩

  have HPB := Lib.hid hpb
  have HPA : Hid (allTo (fun k => (dipB w0 (gDp p k))) p.length = true) := Lib.hid hpb
  have H6 := Lib.hid (planB_in6 hck hpb)
  clear hpb
  refine wp_region_ext_mix 21 [(false, 0), (true, 1), (false, 2), (false, 3), (false, 4), (false, 5), (true, 6), (true, 7), (false, 8), (false, 9), (false, 10), (false, 11), (true, 12), (true, 13), (false, 14), (false, 15), (false, 16), (false, 17), (false, 18), (false, 19), (false, 20)] (by kernel_rfl) (by kernel_rfl) (by intro d _ _ _ _ h; cases d <;> exact h) ?_
  have hX0 := (Below.refl V.heap.size V).drew
  repeat (refine mix_quiet rfl ?_; go_big_quiet_step (fail); refine wpQuiet_nil ?_)
  refine mix_loud rfl ?_
  go_wp2_with fail
  refine (ckWorks_any w0 Ar cr V.drew ((hr.below (ex_trans hb1 hX0)).up (ex_trans hb1 hX0).size) hn).mono ?_
  rintro e W1 ⟨rfl, hY1⟩
  have hX1 := ex_trans hX0 hY1
  rw [HCK.out]
  go_wp2_with fail
  have q2 := q1.below hX1 q1.lt
  have hb2 := ex_trans hb1 hX1
  have a0' : W1.cell? ⟨w.heap.size, 0, none⟩ = some (.slice Ar w0.rng.length cr) := q2.cell 0
  have a1' : W1.cell? ⟨w.heap.size, 1, none⟩ = some (.int .i64 w0.room) := q2.cell 1
  have a2' : W1.cell? ⟨w.heap.size, 2, none⟩ = some (.int .i64 w0.steps) := q2.cell 2
  refine ⟨inEx hX1, ?_⟩
  repeat (refine mix_quiet rfl ?_; go_big_quiet_step (fail); refine wpQuiet_nil ?_)
  refine mix_loud rfl ?_
  go_wp2_with fail
  refine ⟨inEx hX1, ?_⟩
  refine mix_loud rfl ?_
  go_wp2_with fail
  have hp2 := hp.below hb2
  refine (all_dip w0 Ar cr hn p.length p rA rc hsm.ins Ap cp W1 ((hr.below hb2).up hb2.size) hp2.ins hp2.rows hpl).mono ?_
  rintro e W2 ⟨rfl, hY2⟩
  have hX2 := ex_trans hX1 hY2
  rw [HPA.out]
  go_wp2_with fail
  have hb3 := ex_trans hb1 hX2
  refine ⟨inEx hX2, ?_⟩
  repeat (refine mix_quiet rfl ?_; go_big_quiet_step (fail); refine wpQuiet_nil ?_)
  refine mix_loud rfl ?_
  go_wp2_with fail
  refine (known_any p Ap cp rA rc W2 (hp.below hb3) H6.out hsm).mono ?_
  rintro e W3 ⟨K, rfl, hK, hY3⟩
  have hX3 := ex_trans hX2 hY3
  have HK : Hid (rightB w0 K = true ↔ RightP w0 p) := Lib.hid (rightB_iff.trans ⟨fun h => ⟨planB_iff.1 HPB.out, K, hK, h⟩, fun h => by
    obtain ⟨K', h1, h2⟩ := h.known
    rw [hK.uniq h1]; exact h2⟩)
  clear hK
  rw [sV_lit K]
  go_wp2_with fail
  refine ⟨inEx hX3, ?_⟩
  refine mix_loud rfl ?_
  go_wp2_with fail
  refine (right_any w0 Ar cr K W3 H66.out).mono ?_
  rintro e W4 ⟨rfl, hY4⟩
  have hX4 := ex_trans hX3 hY4

  cases hrb : rightB w0 K
  · have HV : Hid (ProveV w0 p many false) := Lib.hid ⟨fun h => (by cases h), fun h => by rw [HK.out.2 h.2.1] at hrb; cases hrb⟩
    clear hrb
    go_wp2_with fail
    refine ⟨inEx hX4, ?_⟩
    repeat (refine mix_quiet rfl ?_; go_big_quiet_step (fail); refine wpQuiet_nil ?_)
    refine mix_nil rfl ?_
    go_wp2
    go_ret
    exact ⟨_, rfl, HV, ex_trans hb1 hX4⟩

  have HV : Hid (ProveV w0 p many (decide ((p.length : Int) ≤ many))) := Lib.hid ⟨fun h => ⟨HCK.out, HK.out.1 hrb, of_decide_eq_true h⟩, fun h => decide_eq_true h.2.2⟩
  clear hrb
  cases hm : decide ((p.length : Int) ≤ many)
  · rw [hm] at HV
    go_wp2_with fail
    refine ⟨inEx hX4, ?_⟩
    repeat (refine mix_quiet rfl ?_; go_big_quiet_step (fail); refine wpQuiet_nil ?_)
    refine mix_nil rfl ?_
    go_wp2
    go_ret
    exact ⟨_, rfl, HV, ex_trans hb1 hX4⟩

  · rw [hm] at HV
    go_wp2_with fail
    refine ⟨inEx hX4, ?_⟩
    repeat (refine mix_quiet rfl ?_; go_big_quiet_step (fail); refine wpQuiet_nil ?_)
    refine mix_nil rfl ?_
    go_wp2
    go_ret
    exact ⟨_, rfl, HV, ex_trans hb1 hX4⟩

end Go.Proofs.Ytnplefhigbkbbaa
end

section
namespace Go.Proofs.Ytnplefhigbkbbaa
open Go.RowKit
attribute [local go_sem] Ex.cell? Ex.frozen?

def keyS (s : S6) : Value := .agg #[.int .i64 s.a, .int .i64 s.b, .int .i64 s.c, .int .i64 s.d, .int .i64 s.e, .int .i64 s.f]
theorem keyS_ok : KeyOk 145 keyS where
  eq := fun s u w => by
    rw [show keyS s = .agg (sC s) from rfl, show keyS u = .agg (sC u) from rfl, eq_s6]
    by_cases h : s = u
    · simp [h]
    · simp [h]
  check := fun em s w => by
    have hr : List.range' 0 6 = [0, 1, 2, 3, 4, 5] := rfl
    have hc : ∀ (n : Nat) (x : Int) (w : World), (Instr.checkKey em (n + 1) 3 (.int .i64 x)).run Try.prog w = .ok () w := fun n x w => by
      rw [Instr.checkKey]
      simp [go_sem, run_underlying Try.underlying3]
    show (Instr.checkKey em (9999 + 1) 145 (keyS s)).run Try.prog w = _
    rw [Instr.checkKey]
    unfold keyS
    simp only [Sem.run_bind, run_underlying Try.underlying145, Result.andThen_ok]
    have hc' := fun x w => hc 9998 x w
    simp [go_sem, hr, List.forIn_cons, hc']
  und := ⟨_, Try.underlying145, fun s e es i => by simp [Instr.findNow, Instr.sameNow, keyS]⟩
/-- a way: what was known before, and which dip; of what is known without dips there is none. -/
def vW (D : List Dp) (rA : Nat → Option Addr) (rc : Nat → Nat) (x : S6 × Option Nat) : Value :=
  match x.2 with
  | some k => .agg #[.int .i64 x.1.a, .int .i64 x.1.b, .int .i64 x.1.c, .int .i64 x.1.d, .int .i64 x.1.e, .int .i64 x.1.f, .int .i64 (gDp D k).heat, .slice (rA k) (gDp D k).ins.length (rc k)]
  | none => .agg #[.int .i64 0, .int .i64 0, .int .i64 0, .int .i64 0, .int .i64 0, .int .i64 0, .int .i64 0, .slice none 0 0]
section
variable {α β : Type} [DecidableEq α] {t : TypeId} {kV : α → Value} {vV : β → Value}
theorem mp_lookup1 {mt et : TypeId} (hm : Try.prog.underlying mt = some (.map t et)) (hk : KeyOk t kV) {W : World} {b : Nat} {L : List (α × β)} (h : IsMp kV vV W b L) (s : α) {v : β} (hs : mpGet s L = some v) :
    (Instr.lookup mt (.map (some b)) (kV s) false).run Try.prog W = .ok (vV v) W := by
  unfold Instr.lookup
  simp only [Sem.run_bind, run_underlying hm, Result.andThen_ok, mpGetObj h, hk.check, mp_find hk, Sem.run_pure]
  obtain ⟨i, hi⟩ := mpGet_some hs
  rw [hi]
  simp
theorem mpGet_iff {s : α} : ∀ {L : List (α × β)}, mpGet s L = none ↔ s ∉ L.map (·.1)
  | [] => by simp [mpGet, mpAt]
  | p :: L => by
    rw [mpGet_cons, List.map_cons, List.mem_cons]
    by_cases e : p.1 = s
    · rw [if_pos e]; simp [e]
    · rw [if_neg e, mpGet_iff]
      constructor
      · rintro h (h1 | h1)
        · exact e h1.symm
        · exact h h1
      · exact fun h h1 => h (.inr h1)
end
/-- how many a map has. -/
def mapLen (W : World) (m : Nat) : Nat := match W.heap[m]? with | some (.map _ k) => k | _ => 0
theorem mapLen_eq {α β : Type} {kV : α → Value} {vV : β → Value} {W : World} {m : Nat} {L : List (α × β)} (h : IsMp kV vV W m L) : mapLen W m = L.length := by
  have h1 : W.heap[m]? = some (.map (mkE kV vV L) L.length) := h
  unfold mapLen
  rw [h1]
def lenV : Value → Nat
  | .slice _ n _ => n
  | _ => 0

/-- what is to be gone on from: states in a row of the call's own, from a place on. -/
def NxAt (W : World) (B : Nat) (P : Nat → Prop) (A : Option Addr) (n c : Nat) (f : Nat → S6) : Prop :=
  ∃ g off cur, A = some ⟨g, off, none⟩ ∧ B ≤ g ∧ ¬ P g ∧ Blk W g 145 cur ∧ n ≤ c ∧ off + 6 * c ≤ cur.size ∧ ∀ i j, i < n → j < 6 → cur[off + i * 6 + j]? = some (.int .i64 ((f i).get j))
section
variable {W W' : World} {B n c : Nat} {P : Nat → Prop} {A : Option Addr} {f : Nat → S6}
theorem NxAt.below (h : NxAt W B P A n c f) (hb : Below W.heap.size W W') : NxAt W' B P A n c f := by
  obtain ⟨g, off, cur, e, h1, h2, h3, h4⟩ := h
  exact ⟨g, off, cur, e, h1, h2, h3.below hb h3.lt, h4⟩
theorem NxAt.fr {R : Nat → Prop} (h : NxAt W B P A n c f) (hf : Fr R W W') (hn : ∀ g cur, A = some g → Blk W g.block 145 cur → ¬ P g.block → ¬ R g.block) : NxAt W' B P A n c f := by
  obtain ⟨g, off, cur, e, h1, h2, h3, h4⟩ := h
  exact ⟨g, off, cur, e, h1, h2, h3.fr hf (hn ⟨g, off, none⟩ cur e h3 h2), h4⟩
theorem NxAt.ext {f' : Nat → S6} (h : NxAt W B P A n c f) (he : ∀ i, i < n → f i = f' i) : NxAt W B P A n c f' := by
  obtain ⟨g, off, cur, e, h1, h2, h3, h4, h5, h6⟩ := h
  exact ⟨g, off, cur, e, h1, h2, h3, h4, h5, fun i j hi hj => by rw [← he i hi]; exact h6 i j hi hj⟩
theorem NxAt.lt (h : NxAt W B P A n c f) {b o : Nat} (e : A = some ⟨b, o, none⟩) : b < W.heap.size := by
  obtain ⟨g, off, cur, rfl, _, _, h3, _⟩ := h
  injection e with e
  injection e with e1 _
  rw [← e1]; exact h3.lt
theorem NxAt.avoid {P' : Nat → Prop} (h : NxAt W B P A n c f) (hp : ∀ b, b < W.heap.size → P' b → P b) : NxAt W B P' A n c f := by
  obtain ⟨g, off, cur, e, h1, h2, h3, h4⟩ := h
  exact ⟨g, off, cur, e, h1, fun h => h2 (hp g h3.lt h), h3, h4⟩
/-- the first. -/
theorem NxAt.at_ (h : NxAt W B P A n c f) (hn : 0 < n) : ∃ g off, A = some ⟨g, off, none⟩ ∧ g < W.heap.size ∧ W.cell? ⟨g, off, none⟩ = some (.int .i64 (f 0).a) ∧ W.cell? ⟨g, off + 1, none⟩ = some (.int .i64 (f 0).b) ∧ W.cell? ⟨g, off + 2, none⟩ = some (.int .i64 (f 0).c) ∧ W.cell? ⟨g, off + 3, none⟩ = some (.int .i64 (f 0).d) ∧ W.cell? ⟨g, off + 4, none⟩ = some (.int .i64 (f 0).e) ∧ W.cell? ⟨g, off + 5, none⟩ = some (.int .i64 (f 0).f) := by
  obtain ⟨g, off, cur, e, _, _, h3, _, _, h6⟩ := h
  have h7 : ∀ j, j < 6 → W.cell? ⟨g, off + j, none⟩ = some (.int .i64 ((f 0).get j)) := fun j hj => by
    rw [h3.cell]
    have := h6 0 j hn hj
    rwa [Nat.zero_mul, Nat.add_zero] at this
  exact ⟨g, off, e, h3.lt, h7 0 (by omega), h7 1 (by omega), h7 2 (by omega), h7 3 (by omega), h7 4 (by omega), h7 5 (by omega)⟩
/-- all but the first. -/
theorem NxAt.tail (h : NxAt W B P A (n + 1) c f) : ∃ g off, A = some ⟨g, off, none⟩ ∧ 1 ≤ c ∧ n + 1 ≤ c ∧ NxAt W B P (some ⟨g, if c = 1 then off else off + 6, none⟩) n (c - 1) (fun i => f (i + 1)) := by
  obtain ⟨g, off, cur, e, h1, h2, h3, h4, h5, h6⟩ := h
  refine ⟨g, off, e, by omega, h4, g, _, cur, rfl, h1, h2, h3, by omega, ?_, fun i j hi hj => ?_⟩
  · split <;> omega
  · have := h6 (i + 1) j (by omega) hj
    rw [if_neg (by omega), show off + 6 + i * 6 + j = off + (i + 1) * 6 + j by omega]
    exact this
end
def cS6 (s : S6) : List Value := [.int .i64 s.a, .int .i64 s.b, .int .i64 s.c, .int .i64 s.d, .int .i64 s.e, .int .i64 s.f]
theorem cS6_get {s : S6} {j : Nat} (h : j < 6) : (cS6 s)[j]? = some (.int .i64 (s.get j)) := by
  rcases six h with rfl | rfl | rfl | rfl | rfl | rfl <;> rfl
theorem steps_info : (Try.prog.info? 145).map (fun i => (i.zero, i.size, i.bytes)) = some (some (.agg #[.int .i64 0, .int .i64 0, .int .i64 0, .int .i64 0, .int .i64 0, .int .i64 0]), 6, 48) := by kernel_rfl
theorem Blk.setCells {g : Nat} {t : TypeId} : ∀ (vs : List Value) {W : World} {cs : Array Value} (o : Nat), Blk W g t cs → ∃ cs', Blk (W.setCells g o vs) g t cs' ∧ cs'.size = cs.size ∧ ∀ i, i < cs.size → cs'[i]? = if o ≤ i ∧ i < o + vs.length then vs[i - o]? else cs[i]?
  | [], W, cs, o, h => ⟨cs, h, rfl, fun i hi => by rw [if_neg (by rw [List.length_nil]; omega)]⟩
  | v :: vs, W, cs, o, h => by
    obtain ⟨cs', h1, h2, h3⟩ := Blk.setCells vs (o + 1) (h.set_ o v)
    refine ⟨cs', h1, by rw [h2]; simp, fun i hi => ?_⟩
    rw [h3 i (by simpa using hi), List.length_cons]
    by_cases e : i = o
    · subst e
      rw [if_neg (by omega), if_pos (by omega), Array.getElem?_setIfInBounds, if_pos rfl, if_pos hi]
      simp
    · by_cases e2 : o + 1 ≤ i ∧ i < o + 1 + vs.length
      · rw [if_pos e2, if_pos (by omega), show i - o = (i - (o + 1)) + 1 by omega, List.getElem?_cons_succ]
      · rw [if_neg e2, if_neg (by omega), Array.getElem?_setIfInBounds, if_neg (fun h => e h.symm)]
theorem Fr.setCells (g : Nat) : ∀ (vs : List Value) (W : World) (o : Nat), Fr (fun b => b = g) W (W.setCells g o vs)
  | [], W, _ => Fr.refl _ W
  | v :: vs, W, o => (Fr.set (R := fun b => b = g) W g o v rfl).trans (Fr.setCells g vs _ (o + 1)) (fun _ _ h => h)
theorem flat6_len (f : Nat → S6) : ∀ n : Nat, ((List.range n).flatMap fun i => cS6 (f i)).length = n * 6
  | 0 => rfl
  | n + 1 => by rw [List.range_succ, List.flatMap_append, List.length_append, flat6_len f n]; simp [cS6]; omega
theorem flat6_get {f : Nat → S6} {n t : Nat} (ht : t < n * 6) : ((List.range n).flatMap fun i => cS6 (f i))[t]? = some (.int .i64 ((f (t / 6)).get (t % 6))) := by
  have h2 := flat_get (f := fun i => cS6 (f i)) (sz := 6) (l := List.range n) (k := t / 6) (j := t % 6) (fun _ => rfl) (by rw [List.length_range]; omega) (by omega)
  rw [show t / 6 * 6 + t % 6 = t by omega] at h2
  rw [h2, List.getElem_range]
  exact cS6_get (by omega)
/-- a state more: either in place, or in a new row. -/
theorem wpList_append_nx {ops : Array Oper} {rest : List Oper} {o : Oper} {a : Act} {Q : Exit → Act → World → Prop} (w : World) (hg : o.guard = none) (s x : Operand) (hop : o.op = Op.call { callee := Callee.builtin Builtin.append, args := #[s, x], argTypes := #[153, 153] })
    (B n c : Nat) (P : Nat → Prop) (A : Option Addr) (f : Nat → S6) (hx : NxAt w B P A n c f) (hql : ∀ b, P b → b < w.heap.size) (hB : B ≤ w.heap.size) (hs : a.eval s = .slice A n c) (t : S6) (qn : Nat) (hv : a.eval x = .slice (some ⟨qn, 0, none⟩) 1 1) (hn : Blk w qn 145 (sC t)) (hle : n ≤ 200000)
    (hK : ∀ A' c' w' R, (∀ f', (∀ i, i < n → f' i = f i) → f' n = t → NxAt w' B P A' (n + 1) c' f') → Fr R w w' → (∀ b, R b → (∃ o, A = some ⟨b, o, none⟩) ∧ B ≤ b ∧ ¬ P b ∧ ∃ cur, Blk w b 145 cur) → wpList Try.prog ops Q rest (a.put o.dst (.slice A' (n + 1) c')) w') :
    wpList Try.prog ops Q (o :: rest) a w := by
  obtain ⟨i0, hi0, hz0, hz1, hz2⟩ := info_parts steps_info
  obtain ⟨g, off, cur, rfl, h1, h2, h3, h4, h5, h6⟩ := hx
  have hcur : ∀ i j, i < n → j < 6 → w.cell? ⟨g, off + (i * 6 + j), none⟩ = some (.int .i64 ((f i).get j)) := fun i j hi hj => by rw [h3.cell, ← Nat.add_assoc]; exact h6 i j hi hj
  have hol := flat6_len f n
  refine wpList_append_arg w hg s x 153 hop 145 i0 _ 6 48 Try.underlying153 hi0 hz0 hz1 hz2 rfl (by omega) g off n c ((List.range n).flatMap fun i => cS6 (f i)) hs hol ?_ ⟨qn, 0, none⟩ 1 1 (cS6 t) hv rfl ?_ ?_ ?_ (by unfold maxLen; omega) (by omega) ?_ ?_
  · intro j u hu
    have hj : j < n * 6 := by
      have := (List.getElem?_eq_some_iff.1 hu).1
      omega
    rw [flat6_get hj] at hu
    have := hcur (j / 6) (j % 6) (by omega) (by omega)
    rw [show j / 6 * 6 + j % 6 = j by omega] at this
    rw [this, hu]
  · intro j u hu
    have hj : j < 6 := (List.getElem?_eq_some_iff.1 hu).1
    rw [Addr.add_lit, Nat.zero_add, hn.s6c hj, ← hu, cS6_get hj]
  · intro u hu
    simp [cS6] at hu
    rcases hu with rfl | rfl | rfl | rfl | rfl | rfl <;> rfl
  · intro hr j hj
    have hj6 : j < 6 := hj
    refine ⟨?_, h3.frozen _⟩
    rw [h3.cell, Array.getElem?_eq_getElem (by omega)]
    rfl
  · intro hr
    have hF := Fr.setCells g (cS6 t) w (off + n * 6)
    obtain ⟨cur', k1, k2, k3⟩ := Blk.setCells (cS6 t) (off + n * 6) h3
    refine hK _ _ _ (fun b => b = g) (fun f' hf ht => ⟨g, off, cur', rfl, h1, h2, k1, by omega, by omega, fun i j hi hj => ?_⟩) hF (fun b hb => by
      have hb : b = g := hb
      subst hb
      exact ⟨⟨off, rfl⟩, h1, h2, cur, h3⟩)
    rw [k3 _ (by omega)]
    by_cases e : i = n
    · subst e
      rw [if_pos (by show off + i * 6 ≤ off + i * 6 + j ∧ off + i * 6 + j < off + i * 6 + 6; omega), show off + i * 6 + j - (off + i * 6) = j by omega, cS6_get hj, ht]
    · rw [if_neg (by omega), hf i (by omega)]
      exact h6 i j (by omega) hj
  · intro hgr v' w' ho hw
    have hlen : ((List.range n).flatMap fun i => cS6 (f i)).length = n * 6 := hol
    rcases ho.2 with ⟨_, h0⟩ | ⟨g', cap, cur', rfl, hb', hh, hnc, hm, hsz, hc⟩
    · omega
    · refine hK _ _ _ (fun _ => False) (fun f' hf ht => ⟨g', 0, cur', rfl, by omega, (fun h => by have := hql _ h; omega), hh, hnc, by omega, fun i j hi hj => ?_⟩) (Fr.grown hw (fun b e => by cases e)) (fun b hb => hb.elim)
      have h8 := congrArg (fun l : List Value => l[i * 6 + j]?) hc
      simp only [List.getElem?_take] at h8
      rw [if_pos (by omega)] at h8
      rw [Nat.zero_add, ← Array.getElem?_toList, h8]
      by_cases e : i = n
      · subst e
        rw [List.getElem?_append_right (by omega), hlen, show i * 6 + j - i * 6 = j by omega, cS6_get hj, ht]
      · rw [List.getElem?_append_left (by omega), flat6_get (by omega), show (i * 6 + j) / 6 = i by omega, show (i * 6 + j) % 6 = j by omega, hf i (by omega)]
end Go.Proofs.Ytnplefhigbkbbaa
end

section
namespace Go.Proofs.Ytnplefhigbkbbaa

abbrev Wy := S6 × (S6 × Option Nat)
def WaysI (D : List Dp) (dist : S6 → Nat) (L : List Wy) : Prop := ∀ t x, (t, x) ∈ L → t = begun6 ∨ ∃ k, x.2 = some k ∧ k < D.length ∧ x.1 ∈ L.map (·.1) ∧ t = nearer x.1 (gDp D k).ins ∧ dist t = dist x.1 + 1
theorem WaysI.start {D : List Dp} {dist : S6 → Nat} {x : S6 × Option Nat} : WaysI D dist [(begun6, x)] := fun t y h => by
  have := List.mem_singleton.1 h
  injection this with h1 _
  exact .inl h1
theorem WaysI.push {D : List Dp} {dist : S6 → Nat} {L : List Wy} (h : WaysI D dist L) {s : S6} {k : Nat} (hk : k < D.length) (hs : s ∈ L.map (·.1)) (e : dist (nearer s (gDp D k).ins) = dist s + 1) : WaysI D dist (L ++ [(nearer s (gDp D k).ins, (s, some k))]) := by
  intro t x hm
  rw [List.map_append]
  rcases List.mem_append.1 hm with h1 | h1
  · rcases h t x h1 with h2 | ⟨j, h2, h3, h4, h5⟩
    · exact .inl h2
    · exact .inr ⟨j, h2, h3, List.mem_append.2 (.inl h4), h5⟩
  · have h2 := List.mem_singleton.1 h1
    injection h2 with h2 h3
    subst h2 h3
    exact .inr ⟨k, rfl, hk, List.mem_append.2 (.inl hs), rfl, e⟩
/-- the search goes on. -/
structure Going (D : List Dp) (R : S6 → Prop) (dist : S6 → Nat) (L : List Wy) (h : Nat) : Prop where
  bfs : Bfs D R dist (L.map (·.1)) h
  ways : WaysI D dist L
/-- the search has come to its end. -/
structure Found (D : List Dp) (R : S6 → Prop) (dist : S6 → Nat) (L : List Wy) (t : S6) : Prop where
  ways : WaysI D dist L
  key : t ∈ L.map (·.1)
  rch : ∀ s ∈ L.map (·.1), ∃ m, Rch D m s
  right : R t
  least : ∀ m r, Rch D m r → R r → dist t ≤ m
/-- one state's dips are gone through. -/
structure MidS (D : List Dp) (R : S6 → Prop) (dist : S6 → Nat) (L : List Wy) (h k : Nat) (s : S6) : Prop where
  go : Going D R dist L h
  hh : h < L.length
  at_ : gS (L.map (·.1)) h = s
  done : ∀ j, j < k → nearer s (gDp D j).ins ∈ L.map (·.1)
section
variable {D : List Dp} {R : S6 → Prop} {dist : S6 → Nat} {L : List Wy} {h k : Nat} {s : S6}
theorem Going.start (hd : IsDist D dist) (h0 : ¬ R begun6) : Going D R dist [(begun6, (begun6, none))] 0 := ⟨Bfs.start hd h0, WaysI.start⟩
theorem Found.start (hd : IsDist D dist) (h0 : R begun6) : Found D R dist [(begun6, (begun6, none))] begun6 where
  ways := WaysI.start
  key := by simp
  rch := fun s hs => ⟨0, by
    have : s = begun6 := by simpa using hs
    rw [this]; exact .zero⟩
  right := h0
  least := fun m r _ _ => by rw [dist_begun hd]; exact Nat.zero_le _
theorem Going.few (H : Going D R dist L h) (hD : ∀ d ∈ D, In6 d.ins) : L.length ≤ 117649 := by
  have := H.bfs.few hD
  rwa [List.length_map] at this
theorem Going.enter (H : Going D R dist L h) (hh : h < L.length) : MidS D R dist L h 0 (gS (L.map (·.1)) h) := ⟨H, hh, rfl, fun j hj => by omega⟩
theorem MidS.cnt (H : MidS D R dist L h k s) (hD : ∀ d ∈ D, In6 d.ins) : Cnt s := by
  have h1 := gS_mem (V := L.map (·.1)) (k := h) (by rw [List.length_map]; exact H.hh)
  rw [H.at_] at h1
  obtain ⟨m, hm⟩ := H.go.bfs.rch s h1
  exact hm.cnt hD
theorem MidS.same (H : MidS D R dist L h k s) (hk : nearer s (gDp D k).ins ∈ L.map (·.1)) : MidS D R dist L h (k + 1) s :=
  ⟨H.go, H.hh, H.at_, fun j hj => by
    rcases Nat.lt_succ_iff_lt_or_eq.1 hj with h1 | h1
    · exact H.done j h1
    · rw [h1]; exact hk⟩
theorem MidS.end_ (H : MidS D R dist L h D.length s) : Going D R dist L (h + 1) :=
  ⟨H.go.bfs.next (by rw [List.length_map]; exact H.hh) (fun d hd => by
    obtain ⟨k, hk, rfl⟩ := gDp_of hd
    rw [H.at_]; exact H.done k hk), H.go.ways⟩
theorem MidS.mem (H : MidS D R dist L h k s) : s ∈ L.map (·.1) := by
  rw [← H.at_]; exact gS_mem (by rw [List.length_map]; exact H.hh)
theorem MidS.new (H : MidS D R dist L h k s) (hd : IsDist D dist) (hk : k < D.length) (hn : nearer s (gDp D k).ins ∉ L.map (·.1)) : dist (nearer s (gDp D k).ins) = dist s + 1 := by
  have := (H.go.bfs.new hd (by rw [List.length_map]; exact H.hh) (gDp_mem hk) (by rw [H.at_]; exact hn)).2
  rwa [H.at_] at this
theorem MidS.push (H : MidS D R dist L h k s) (hd : IsDist D dist) (hk : k < D.length) (hn : nearer s (gDp D k).ins ∉ L.map (·.1)) (hR : ¬ R (nearer s (gDp D k).ins)) : MidS D R dist (L ++ [(nearer s (gDp D k).ins, (s, some k))]) h (k + 1) s := by
  have hh : h < (L.map (·.1)).length := by rw [List.length_map]; exact H.hh
  have e : (L ++ [(nearer s (gDp D k).ins, (s, some k))]).map (·.1) = L.map (·.1) ++ [nearer s (gDp D k).ins] := by rw [List.map_append]; rfl
  have hb := H.go.bfs.push hd hh (gDp_mem hk) (by rw [H.at_]; exact hn) (by rw [H.at_]; exact hR)
  rw [H.at_] at hb
  refine ⟨⟨by rw [e]; exact hb, H.go.ways.push hk H.mem (H.new hd hk hn)⟩, by rw [List.length_append]; have := H.hh; omega, ?_, fun j hj => ?_⟩
  · rw [e, gS_app hh]; exact H.at_
  · rw [e]
    rcases Nat.lt_succ_iff_lt_or_eq.1 hj with h1 | h1
    · exact List.mem_append.2 (.inl (H.done j h1))
    · rw [h1]; exact List.mem_append.2 (.inr (by simp))
theorem MidS.found (H : MidS D R dist L h k s) (hd : IsDist D dist) (hk : k < D.length) (hn : nearer s (gDp D k).ins ∉ L.map (·.1)) (hR : R (nearer s (gDp D k).ins)) : Found D R dist (L ++ [(nearer s (gDp D k).ins, (s, some k))]) (nearer s (gDp D k).ins) := by
  have hh : h < (L.map (·.1)).length := by rw [List.length_map]; exact H.hh
  have e : (L ++ [(nearer s (gDp D k).ins, (s, some k))]).map (·.1) = L.map (·.1) ++ [nearer s (gDp D k).ins] := by rw [List.map_append]; rfl
  have hn' : nearer (gS (L.map (·.1)) h) (gDp D k).ins ∉ L.map (·.1) := by rw [H.at_]; exact hn
  refine ⟨H.go.ways.push hk H.mem (H.new hd hk hn), by rw [e]; simp, fun x hx => ?_, hR, ?_⟩
  · rw [e] at hx
    rcases List.mem_append.1 hx with h1 | h1
    · exact H.go.bfs.rch x h1
    · rw [List.mem_singleton.1 h1]
      have := (H.go.bfs.new hd hh (gDp_mem hk) hn').1
      rwa [H.at_] at this
  · have := H.go.bfs.found hd hh (gDp_mem hk) hn'
    rwa [H.at_] at this
/-- the way back. -/
structure Back (D : List Dp) (R : S6 → Prop) (dist : S6 → Nat) (L : List Wy) (t s : S6) (X : List Dp) : Prop where
  fnd : Found D R dist L t
  key : s ∈ L.map (·.1)
  path : ∀ l, Path D l s → Path D (l ++ X.reverse) t
  len : dist s + X.length = dist t
theorem Found.back (H : Found D R dist L s) : Back D R dist L s s [] := ⟨H, H.key, fun l hl => by rwa [List.reverse_nil, List.append_nil], by simp⟩
theorem Back.step {t : S6} {X : List Dp} (H : Back D R dist L t s X) (hne : s ≠ begun6) : ∃ s' k, mpGet s L = some (s', some k) ∧ k < D.length ∧ dist s = dist s' + 1 ∧ Back D R dist L t s' (X ++ [gDp D k]) := by
  cases hg : mpGet s L with
  | none => exact absurd H.key (mpGet_iff.1 hg)
  | some x =>
    rcases H.fnd.ways s x (mpGet_mem hg) with h1 | ⟨k, h1, h2, h3, h4, h5⟩
    · exact absurd h1 hne
    · obtain ⟨s', o⟩ := x
      simp only at h1 h3 h4 h5
      subst h1
      refine ⟨s', k, rfl, h2, h5, H.fnd, h3, fun l hl => ?_, ?_⟩
      · rw [List.reverse_append, List.reverse_cons, List.reverse_nil, List.nil_append, ← List.append_assoc]
        refine H.path _ ?_
        rw [h4]
        exact .snoc hl (gDp_mem h2)
      · rw [List.length_append]
        have := H.len
        simp only [List.length_cons, List.length_nil]
        omega
theorem Back.few {t : S6} {X : List Dp} (H : Back D R dist L t s X) {b : Nat} (hb : dist t ≤ b) : X.length ≤ b := by have := H.len; omega
end
/-- what Plan tells. -/
def PlanV (w : Wo) (r : List Dp) (ev : Int) : Prop :=
  (ckWo w ≠ 0 ∧ ev = ckWo w ∧ r = []) ∨ (ckWo w = 0 ∧ (∀ p, ¬ RightP w p) ∧ ev = 9 ∧ r = []) ∨ (ckWo w = 0 ∧ MinPl w r ∧ ev = 0)
section
variable {w : Wo} {dist : S6 → Nat} {L : List Wy}
theorem Going.fail {h : Nat} (hw : WoOk w) (H : Going (dipsL w) (RightS w) dist L h) (hh : h = L.length) : ∀ p, ¬ RightP w p := fun p hp => by
  obtain ⟨m, s, _, h2, h3⟩ := hp.rch hw fun d hd => dipsL_full hw hd
  exact H.bfs.none (by rw [List.length_map]; exact hh) m s h2 h3
theorem Found.small {t : S6} (hw : WoOk w) (hd : IsDist (dipsL w) dist) (H : Found (dipsL w) (RightS w) dist L t) : dist t ≤ 6 := by
  obtain ⟨m, hm⟩ := H.rch t H.key
  obtain ⟨l, h1, h2⟩ := (hd m t hm).1.path
  obtain ⟨q, h3, h4⟩ := (h2.right hw dipsL_ok H.right).small hw
  obtain ⟨k, s, h5, h6, h7⟩ := h3.rch hw fun d hd => dipsL_full hw hd
  have := H.least k s h6 h7
  have := hw.n
  omega
theorem Back.end_ {t : S6} {X : List Dp} (hw : WoOk w) (hd : IsDist (dipsL w) dist) (H : Back (dipsL w) (RightS w) dist L t begun6 X) : MinPl w X.reverse := by
  have h1 := H.path [] .nil
  rw [List.nil_append] at h1
  refine ⟨h1.right hw dipsL_ok H.fnd.right, fun q hq => ?_⟩
  obtain ⟨m, s, h2, h3, h4⟩ := hq.rch hw fun d hd => dipsL_full hw hd
  have h5 := H.fnd.least m s h3 h4
  have h6 := H.len
  rw [dist_begun hd] at h6
  rw [List.length_reverse]
  omega
end
end Go.Proofs.Ytnplefhigbkbbaa
end

section
namespace Go.Proofs.Ytnplefhigbkbbaa
open Go.RowKit
attribute [local go_sem] Ex.cell? Ex.frozen? Gx.cell?

theorem vW_form (D : List Dp) (rA : Nat → Option Addr) (rc : Nat → Nat) (x : S6 × Option Nat) : ∃ v1 v2 v3 v4 v5 v6 v7 A n c, vW D rA rc x = .agg #[.int .i64 v1, .int .i64 v2, .int .i64 v3, .int .i64 v4, .int .i64 v5, .int .i64 v6, .int .i64 v7, .slice A n c] := by
  obtain ⟨s, o⟩ := x
  cases o with
  | none => exact ⟨0, 0, 0, 0, 0, 0, 0, none, 0, 0, rfl⟩
  | some k => exact ⟨_, _, _, _, _, _, _, _, _, _, rfl⟩
/-- six numbers, as they lie in memory. -/
def readS (W : World) (b : Nat) : S6 := ⟨intOf ((W.cell? ⟨b, 0, none⟩).getD undef), intOf ((W.cell? ⟨b, 1, none⟩).getD undef), intOf ((W.cell? ⟨b, 2, none⟩).getD undef), intOf ((W.cell? ⟨b, 3, none⟩).getD undef), intOf ((W.cell? ⟨b, 4, none⟩).getD undef), intOf ((W.cell? ⟨b, 5, none⟩).getD undef)⟩
theorem readS_eq {W : World} {b : Nat} {t : TypeId} {s : S6} (h : Blk W b t (sC s)) : readS W b = s := by
  obtain ⟨a0, a1, a2, a3, a4, a5⟩ := h.cells6
  unfold readS
  rw [a0, a1, a2, a3, a4, a5]
  rfl
def blkOf : Value → Nat
  | .pointer (some a) => a.block
  | _ => 0
theorem XOwn.lt {W : World} {B : Nat} {v : Value} {X : List Xd} (h : XOwn W B v X) {g : Nat} (hg : v.ownBlock = some g) : g < W.heap.size := by
  rcases h.own.2 with ⟨rfl, _⟩ | ⟨g', cap, cur, rfl, _, hh, _⟩
  · simp [Value.ownBlock] at hg
  · simp only [Value.ownBlock] at hg
    injection hg with hg
    rw [← hg]; exact (Array.getElem?_eq_some_iff.1 hh).1
theorem field_way1 (a b c d e f h : Int) (A : Option Addr) (n k : Nat) (W : World) : (Instr.field 151 (.agg #[.int .i64 a, .int .i64 b, .int .i64 c, .int .i64 d, .int .i64 e, .int .i64 f, .int .i64 h, .slice A n k]) 1).run Try.prog W = .ok (.agg #[.int .i64 h, .slice A n k]) W := by kernel_rfl
theorem field_way0 (a b c d e f h : Int) (A : Option Addr) (n k : Nat) (W : World) : (Instr.field 151 (.agg #[.int .i64 a, .int .i64 b, .int .i64 c, .int .i64 d, .int .i64 e, .int .i64 f, .int .i64 h, .slice A n k]) 0).run Try.prog W = .ok (.agg #[.int .i64 a, .int .i64 b, .int .i64 c, .int .i64 d, .int .i64 e, .int .i64 f]) W := by kernel_rfl
theorem Fr.st6 (b : Nat) (W : World) (s : S6) : Fr (fun x => x = b) W (st6 W b s) := (((((Fr.set (R := fun x => x = b) W b 0 (.int .i64 s.a) rfl).andSet rfl).andSet rfl).andSet rfl).andSet rfl).andSet rfl
theorem run_slice1 (g off n c : Nat) (hc : n + 1 ≤ c) (w : World) : (Instr.sliceAt 153 (.slice (some ⟨g, off, none⟩) (n + 1) c) (some (.int .i64 1)) none none).run Try.prog w = .ok (.slice (some ⟨g, if c = 1 then off else off + 6, none⟩) n (c - 1)) w := by
  by_cases h : c = 1
  · subst h
    obtain rfl : n = 0 := by omega
    simp [Instr.sliceAt, Instr.slice, go_sem, run_underlying Try.underlying153]
  · have h1 : (1 : Int) ≤ (n : Int) + 1 := by omega
    simp [Instr.sliceAt, Instr.slice, go_sem, run_underlying Try.underlying153, h, h1]
set_option maxRecDepth 100000 in
theorem wpList_slice1 {ops : Array Oper} {rest : List Oper} {o : Oper} {a : Act} {Q : Exit → Act → World → Prop} (w : World) (hg : o.guard = none) (x : Operand) (hop : o.op = Op.slice 153 x (some (.const (.int .i64 1))) none none)
    (g off n c : Nat) (hc : n + 1 ≤ c) (hx : a.eval x = .slice (some ⟨g, off, none⟩) (n + 1) c) (o' : Nat) (ho : (if c = 1 then off else off + 6) = o')
    (hK : wpList Try.prog ops Q rest (a.put o.dst (.slice (some ⟨g, o', none⟩) n (c - 1))) w) : wpList Try.prog ops Q (o :: rest) a w := by
  subst ho
  refine wpList_plain hg fun K hK' => ?_
  have hrun := run_slice1 g off n c hc w
  have h1 : a.eval (.const (.int .i64 1)) = .int .i64 1 := rfl
  unfold Oper.wp
  simp only [execOp, hop, Option.map_some, Option.map_none, hx, h1, Sem.run_bind, hrun, Result.andThen_ok, Sem.run_pure]
  exact hK' _ _ hK
/-- the loop's state: either the search goes on, with what is to be gone on from, or it has come to its end. -/
def PlS (w0 : Wo) (D : List Dp) (dist : S6 → Nat) (B ql : Nat) (W : World) (L : List Wy) (t : S6) (v8 : Value) : Prop :=
  (t = begun6 ∧ ∃ h A n c, v8 = .slice A n c ∧ n + h = L.length ∧ NxAt W B (fun b => b = ql) A n c (fun i => gS (L.map (·.1)) (h + i)) ∧ (RightS w0 begun6 → Found D (RightS w0) dist L begun6) ∧ (¬ RightS w0 begun6 → Going D (RightS w0) dist L h)) ∨ Found D (RightS w0) dist L t

set_option maxRecDepth 100000 in
set_option maxHeartbeats 12800000 in
theorem Plan_any (w0 : Wo) (Ar : Option Addr) (cr : Nat) (w : World) (hr : SlAt w w.heap.size 2 Ar w0.rng.length (fR w0.rng)) (hn : w0.rng.length ≤ 1000000) :
    Calls Try.prog 45 #[.agg #[.slice Ar w0.rng.length cr, .int .i64 w0.room, .int .i64 w0.steps]] w fun e w' => (∃ A r c rA rc ev, e = .returned (.tuple #[.slice A (r : List Dp).length c, .int .i64 ev]) ∧ Hid (PlanV w0 r ev) ∧ r.length ≤ 6 ∧ PlIn w' w'.heap.size r A rA rc) ∧ Below w.heap.size w w' := by
  obtain ⟨i1, hi1, hy0, hy1, hy2⟩ := info_parts dip_info
  have HJ := Lib.hid hi1
  clear hi1
  have hb1 := ex_alloc (Below.refl w.heap.size w) (.cells #[.slice Ar w0.rng.length cr, .int .i64 w0.room, .int .i64 w0.steps] 65)
  have q1 : Blk (w.alloc (.cells #[.slice Ar w0.rng.length cr, .int .i64 w0.room, .int .i64 w0.steps] 65)) w.heap.size 65 #[.slice Ar w0.rng.length cr, .int .i64 w0.room, .int .i64 w0.steps] := Blk.new _ _ _
  go_enter Try.func45, Try.ntmps45
  go_wp2_with fail
  go_step3
  go_wp2_with fail
  generalize w.alloc (.cells #[.slice Ar w0.rng.length cr, .int .i64 w0.room, .int .i64 w0.steps] 65) = V at *
  refine (ckWorks_any w0 Ar cr V ((hr.below hb1).up hb1.size) hn).mono ?_
  rintro e W1 ⟨rfl, hX⟩
  have hb2 := ex_trans hb1 hX
  have q2 := q1.below hX q1.lt
  clear q1 hX hb1
  by_cases hck : ckWo w0 = 0
  rotate_left
  · have HCK := Lib.hid hck
    have e1 : (ckWo w0 != 0) = true := by simp [hck]
    have e2 : (ckWo w0 == 0) = false := by simp [hck]
    clear hck
    go_wp2_with fail
    rw [Exit.noGoto_ret]
    go_ret2
    exact ⟨⟨none, [], 0, fun _ => none, fun _ => 0, _, rfl, Lib.hid (.inl ⟨HCK.out, rfl, rfl⟩), by simp, ⟨fun h => absurd h (by simp), fun k h => absurd h (by simp)⟩⟩, hb2⟩
  have HCK := Lib.hid hck
  have HW := Lib.hid (woOk_iff.1 hck)
  rw [hck]
  clear hck
  have a0 : W1.cell? ⟨w.heap.size, 0, none⟩ = some (.slice Ar w0.rng.length cr) := q2.cell 0
  have a1 : W1.cell? ⟨w.heap.size, 1, none⟩ = some (.int .i64 w0.room) := q2.cell 1
  have a2 : W1.cell? ⟨w.heap.size, 2, none⟩ = some (.int .i64 w0.steps) := q2.cell 2
  have l1 := q2.lt
  go_wp2_with fail
  refine (dips_any w0 Ar cr W1 ((hr.below hb2).up hb2.size) HW.out).mono ?_
  rintro e W2 ⟨⟨Ad, cd, rA, rc, rfl, hpl⟩, hX⟩
  have hb3 := ex_trans hb2 hX
  have q3 := q2.below hX l1
  have h6D : ∀ d ∈ dipsL w0, In6 d.ins := fun d hd => (dipsL_ok d hd).in6 HW.out
  have hl6 : ∀ k, k < (dipsL w0).length → (gDp (dipsL w0) k).ins.length ≤ 6 := fun k hk => by
    have h1 := (dipsL_ok (w := w0) _ (gDp_mem hk)).len
    have h2 := HW.out.room
    omega
  have hDl : (dipsL w0).length ≤ 64 := dipsL_len HW.out
  obtain ⟨dist, hdist⟩ := dist_ex (dipsL w0)
  have HDist := Lib.hid hdist
  obtain ⟨D, hD⟩ : ∃ D, dipsL w0 = D := ⟨_, rfl⟩
  have HD := Lib.hid hD
  rw [hD] at hpl h6D hl6 hDl HDist ⊢
  have H6D := Lib.hid h6D
  have HL6 := Lib.hid hl6
  clear q2 a0 a1 a2 l1 hX hD hdist h6D hl6 hb2
  have hbM := ex_alloc (Below.refl W2.heap.size W2) (.map #[] 0)
  have mp0 : IsMp keyS (vW D rA rc) (W2.alloc (.map #[] 0)) W2.heap.size [] := IsMp.new _ rfl
  have hmk := @run_makeMap Try.prog
  go_wp2_with fail
  generalize W2.alloc (.map #[] 0) = V2 at *
  refine (begun_any V2).mono ?_
  rintro e V3 ⟨rfl, hX⟩
  have B3 := ex_trans hbM hX
  have mp3 := mp0.below hX
  have lm := mp3.lt
  rw [sV_lit begun6]
  obtain ⟨MO, hMO⟩ : ∃ MO, MO = Obj.map (mkE keyS (vW D rA rc) ([] ++ [(begun6, (begun6, none))])) ([] ++ [(begun6, ((begun6, none) : S6 × Option Nat))]).length := ⟨_, rfl⟩
  have hup : (Instr.mapUpdate 152 (.map (some W2.heap.size)) (.agg #[.int .i64 begun6.a, .int .i64 begun6.b, .int .i64 begun6.c, .int .i64 begun6.d, .int .i64 begun6.e, .int .i64 begun6.f]) (.agg #[.int .i64 0, .int .i64 0, .int .i64 0, .int .i64 0, .int .i64 0, .int .i64 0, .int .i64 0, .slice none 0 0])).run Try.prog V3 = .ok () (V3.putObj W2.heap.size MO) := by
    rw [hMO]
    exact mp_update Try.underlying152 (et := 151) keyS_ok mp3 begun6 (begun6, none) rfl
  have HMO := Lib.hid hMO
  clear hMO hX hbM mp0 hmk
  go_wp2_with fail
  have F4 : Fr (fun b => b = W2.heap.size) V3 (V3.putObj W2.heap.size MO) := fr_put _ _ _ _ rfl
  have B4 : Below W2.heap.size W2 (V3.putObj W2.heap.size MO) := F4.toBelow B3 B3.size (fun x hx => by rw [show x = W2.heap.size from hx]; exact Nat.le_refl _)
  have mp4 : IsMp keyS (vW D rA rc) (V3.putObj W2.heap.size MO) W2.heap.size [(begun6, (begun6, none))] := by
    rw [HMO.out]
    exact World.putObj_heap_same lm
  generalize V3.putObj W2.heap.size MO = V4 at *
  clear F4 B3 mp3 lm hup HMO
  refine (begun_any V4).mono ?_
  rintro e V5 ⟨rfl, hX⟩
  have B5 := ex_trans B4 hX
  have mp5 := mp4.below hX
  rw [sV_lit begun6]
  clear hX B4 mp4
  have hX := ex_alloc (Below.refl V5.heap.size V5) (.cells #[.int .i64 begun6.a, .int .i64 begun6.b, .int .i64 begun6.c, .int .i64 begun6.d, .int .i64 begun6.e, .int .i64 begun6.f] 145)
  have l5 : Blk (V5.alloc (.cells #[.int .i64 begun6.a, .int .i64 begun6.b, .int .i64 begun6.c, .int .i64 begun6.d, .int .i64 begun6.e, .int .i64 begun6.f] 145)) V5.heap.size 145 (sC begun6) := Blk.new _ _ _
  have B6 := ex_trans B5 hX
  have mp6 := mp5.below hX
  go_wp2_with fail
  have hqlm : W2.heap.size < V5.heap.size := mp5.lt
  generalize V5.alloc (.cells #[.int .i64 begun6.a, .int .i64 begun6.b, .int .i64 begun6.c, .int .i64 begun6.d, .int .i64 begun6.e, .int .i64 begun6.f] 145) = V6 at *
  generalize V5.heap.size = ql at *
  clear B5 mp5 hX
  go_step3
  go_wp2_with fail
  refine (begun_any V6).mono ?_
  rintro e V7 ⟨rfl, hX⟩
  have B7 := ex_trans B6 hX
  have mp7 := mp6.below hX
  have l7 := l5.below hX l5.lt
  rw [sV_lit begun6]
  clear hX B6 mp6 l5
  have hX := ex_alloc (Below.refl V7.heap.size V7) (.cells #[.int .i64 begun6.a, .int .i64 begun6.b, .int .i64 begun6.c, .int .i64 begun6.d, .int .i64 begun6.e, .int .i64 begun6.f] 145)
  have n8 : Blk (V7.alloc (.cells #[.int .i64 begun6.a, .int .i64 begun6.b, .int .i64 begun6.c, .int .i64 begun6.d, .int .i64 begun6.e, .int .i64 begun6.f] 145)) V7.heap.size 145 (sC begun6) := Blk.new _ _ _
  have B8 := ex_trans B7 hX
  have mp8 := mp7.below hX
  have l8 := l7.below hX l7.lt
  have hqn : ql < V7.heap.size := l7.lt
  go_wp2_with fail
  generalize V7.alloc (.cells #[.int .i64 begun6.a, .int .i64 begun6.b, .int .i64 begun6.c, .int .i64 begun6.d, .int .i64 begun6.e, .int .i64 begun6.f] 145) = V8 at *
  generalize V7.heap.size = qn at *
  have nx8 : NxAt V8 W2.heap.size (fun b => b = ql) (some ⟨qn, 0, none⟩) 1 1 (fun i => gS ([(begun6, ((begun6, none) : S6 × Option Nat))].map (·.1)) (0 + i)) :=
    ⟨qn, 0, sC begun6, rfl, by omega, (fun h => by have h : qn = ql := h; omega), n8, Nat.le_refl _, by show 6 ≤ 6; omega, fun i j hi hj => by
      obtain rfl : i = 0 := by omega
      rw [show 0 + 0 * 6 + j = j by omega]
      exact sC_get hj⟩
  have hpl8 := hpl.below (B8)
  clear B7 mp7 l7 hX n8
  have hst : PlS w0 D dist W2.heap.size ql V8 [(begun6, (begun6, none))] begun6 (.slice (some ⟨qn, 0, none⟩) 1 1) :=
    .inl ⟨rfl, 0, _, 1, 1, rfl, rfl, nx8, fun h => Found.start HDist.out h, fun h => Going.start HDist.out h⟩
  refine wp_loop (fun a W => Rel (fun a W => ∃ L t v8, Below W2.heap.size W2 W ∧ IsMp keyS (vW D rA rc) W W2.heap.size L ∧ Blk W ql 145 (sC t) ∧ PlS w0 D dist W2.heap.size ql W L t v8 ∧ ∃ u : Nat → Value, a = ⟨List.toArray (u 0 :: .pointer (some ⟨w.heap.size, 0, none⟩) :: u 2 :: u 3 :: u 4 :: .slice Ad D.length cd :: .map (some W2.heap.size) :: .pointer (some ⟨ql, 0, none⟩) :: v8 :: u 9 :: u 10 :: u 11 :: u 12 :: u 13 :: u 14 :: u 15 :: u 16 :: u 17 :: u 18 :: u 19 :: u 20 :: u 21 :: u 22 :: u 23 :: u 24 :: u 25 :: u 26 :: u 27 :: u 28 :: u 29 :: u 30 :: u 31 :: u 32 :: u 33 :: u 34 :: u 35 :: u 36 :: u 37 :: u 38 :: u 39 :: u 40 :: u 41 :: u 42 :: u 43 :: u 44 :: u 45 :: u 46 :: u 47 :: u 48 :: u 49 :: u 50 :: u 51 :: u 52 :: u 53 :: u 54 :: u 55 :: u 56 :: u 57 :: u 58 :: u 59 :: u 60 :: u 61 :: u 62 :: u 63 :: u 64 :: u 65 :: u 66 :: u 67 :: u 68 :: u 69 :: u 70 :: u 71 :: u 72 :: u 73 :: u 74 :: u 75 :: u 76 :: u 77 :: u 78 :: u 79 :: u 80 :: u 81 :: u 82 :: u 83 :: u 84 :: u 85 :: u 86 :: u 87 :: u 88 :: u 89 :: u 90 :: u 91 :: u 92 :: u 93 :: u 94 :: u 95 :: u 96 :: u 97 :: u 98 :: []), []⟩) a W)
    (fun a W => 117650 - (mapLen W W2.heap.size - lenV (a.tmps.getD 8 undef))) ⟨⟨_, _, _, B8, mp8, l8, hst, exFrame (by kernel_rfl)⟩⟩ ?_
  clear hst nx8 hpl8 B8 mp8 l8
  rintro a W ⟨⟨L, t, v8, hB, mp, lt, hst, u, rfl⟩⟩
  have hbW := ex_trans hb3 hB
  have qW := q3.below hB q3.lt
  have hWs := hB.size
  have a0 : W.cell? ⟨w.heap.size, 0, none⟩ = some (.slice Ar w0.rng.length cr) := qW.cell 0
  have a1 : W.cell? ⟨w.heap.size, 1, none⟩ = some (.int .i64 w0.room) := qW.cell 1
  have a2 : W.cell? ⟨w.heap.size, 2, none⟩ = some (.int .i64 w0.steps) := qW.cell 2
  have l1 := qW.lt
  obtain ⟨t0, t1, t2, t3, t4, t5⟩ := lt.cells6
  have ll := lt.lt
  have hn6 := HW.out.n.2
  have HM : Hid (mapLen W W2.heap.size = L.length) := Lib.hid (mapLen_eq mp)
  go_wp2_with fail
  refine (right_any w0 Ar cr t W hn6).mono ?_
  rintro e Z ⟨rfl, hX⟩
  have hBZ := ex_trans hB hX
  have hbZ := ex_trans hb3 hBZ
  have mpZ := mp.below hX
  have lZ := lt.below hX ll
  have qZ := qW.below hX l1
  clear a0 a1 a2 t0 t1 t2 t3 t4 t5 hB hbW mp qW ll l1 hWs
  cases hrt : rightB w0 t
  · -- not yet right
    obtain ⟨rfl, h, A, n, c, rfl, hnh, hnx, HG⟩ : t = begun6 ∧ ∃ h A n c, v8 = .slice A n c ∧ n + h = L.length ∧ NxAt W W2.heap.size (fun b => b = ql) A n c (fun i => gS (L.map (·.1)) (h + i)) ∧ Hid (Going D (RightS w0) dist L h) := by
      rcases hst with ⟨e, h, A, n, c, e2, h1, h2, _, h4⟩ | h1
      · refine ⟨e, h, A, n, c, e2, h1, h2, Lib.hid (h4 (fun h5 => ?_))⟩
        rw [← e, ← rightB_iff, hrt] at h5
        cases h5
      · have := rightB_iff.2 h1.right
        rw [hrt] at this; cases this
    have hnxZ := hnx.below hX
    clear hst hnx hX lt hrt
    rcases Nat.eq_zero_or_pos n with rfl | hpos
    · have HV : Hid (PlanV w0 [] 9) := Lib.hid (.inr (.inl ⟨HCK.out, Going.fail (h := h) HW.out (by rw [HD.out]; exact HG.out) (by omega), rfl, rfl⟩))
      clear hnh
      go_wp2_with fail
      rw [Exit.noGoto_ret]
      go_ret2
      exact ⟨⟨none, [], 0, fun _ => none, fun _ => 0, _, rfl, HV, by simp, ⟨fun h => absurd h (by simp), fun k h => absurd h (by simp)⟩⟩, hbZ⟩
    · obtain ⟨n, rfl⟩ : ∃ k, n = k + 1 := ⟨n - 1, by omega⟩
      have hhL : h < L.length := by omega
      have hfew := HG.out.few H6D.out
      obtain ⟨s, hs⟩ : ∃ s, gS (L.map (·.1)) h = s := ⟨_, rfl⟩
      have HMid : Hid (MidS D (RightS w0) dist L h 0 s) := Lib.hid (by rw [← hs]; exact HG.out.enter hhL)
      obtain ⟨g, off, hgE, hgl, b0, b1, b2, b3, b4, b5⟩ := hnxZ.at_ (by omega)
      obtain ⟨g', off', hgE', hc1, hc2, hnxT⟩ := hnxZ.tail
      rw [hgE] at hgE'
      injection hgE' with hgE'
      injection hgE' with e1 e2
      subst e1 e2
      simp only [Nat.add_zero, hs] at b0 b1 b2 b3 b4 b5
      subst hgE
      clear hnxZ hs HG
      have hb4 := ex_alloc (Below.refl Z.heap.size Z) (.cells #[.int .i64 s.a, .int .i64 s.b, .int .i64 s.c, .int .i64 s.d, .int .i64 s.e, .int .i64 s.f] 145)
      have s4 : Blk (Z.alloc (.cells #[.int .i64 s.a, .int .i64 s.b, .int .i64 s.c, .int .i64 s.d, .int .i64 s.e, .int .i64 s.f] 145)) Z.heap.size 145 (sC s) := Blk.new _ _ _
      have B4 := ex_trans hBZ hb4
      have mp4 := mpZ.below hb4
      have l4 := lZ.below hb4 lZ.lt
      have nx4 := hnxT.below hb4
      have hqs : ql < Z.heap.size := lZ.lt
      have hgne : 0 < n + 1 := by omega
      have en : ((n : Int) + 1 == 0) = false := by rw [beq_eq_false_iff_ne]; omega
      obtain ⟨o', ho'⟩ : ∃ o', (if c = 1 then off else off + 6) = o' := ⟨_, rfl⟩
      rw [ho'] at nx4
      have HO := Lib.hid ho'
      clear ho' hnxT
      go_wp2_with (refine wpList_slice1 _ rfl _ rfl g off n c hc2 rfl o' HO.out ?_)
      have nx5 : NxAt (Z.alloc (.cells #[.int .i64 s.a, .int .i64 s.b, .int .i64 s.c, .int .i64 s.d, .int .i64 s.e, .int .i64 s.f] 145)) W2.heap.size (fun b => b = ql ∨ b = Z.heap.size) (some ⟨g, o', none⟩) n (c - 1) (fun i => gS (L.map (·.1)) (h + 1 + i)) := by
        obtain ⟨g1, o1, cur, e, f1, f2, f3⟩ := nx4.ext (f' := fun i => gS (L.map (·.1)) (h + 1 + i)) (fun i _ => by show gS _ _ = gS _ _; congr 1; omega)
        have e' := e
        injection e' with e'
        injection e' with e1 e2
        exact ⟨g1, o1, cur, e, f1, (fun hh => hh.elim f2 (fun hh => by have hh : g1 = Z.heap.size := hh; omega)), f3⟩
      have hsw : Z.heap.size < (Z.alloc (.cells #[.int .i64 s.a, .int .i64 s.b, .int .i64 s.c, .int .i64 s.d, .int .i64 s.e, .int .i64 s.f] 145)).heap.size := s4.lt
      generalize Z.alloc (.cells #[.int .i64 s.a, .int .i64 s.b, .int .i64 s.c, .int .i64 s.d, .int .i64 s.e, .int .i64 s.f] 145) = Y0 at *
      obtain ⟨qs, hqsE⟩ : ∃ qs, Z.heap.size = qs := ⟨_, rfl⟩
      rw [hqsE] at nx5 s4 hqs hsw ⊢
      have hnL : n + (h + 1) = L.length := by omega
      have HN : Hid (n + 1 + h = L.length) := Lib.hid hnh
      clear nx4 b0 b1 b2 b3 b4 b5 HO hgl hb4 hbZ hBZ mpZ qZ lZ hqsE hnh en hgne
      refine wp_loop (fun a Y => Rel (fun a Y => ∃ k : Nat, k ≤ D.length ∧ ∃ L' n' A' c', Below W2.heap.size W2 Y ∧ IsMp keyS (vW D rA rc) Y W2.heap.size L' ∧ Blk Y ql 145 (sC begun6) ∧ Blk Y qs 145 (sC s) ∧ Hid (n' + (h + 1) = L'.length) ∧ NxAt Y W2.heap.size (fun b => b = ql ∨ b = qs) A' n' c' (fun i => gS (L'.map (·.1)) (h + 1 + i)) ∧ Hid (MidS D (RightS w0) dist L' h k s) ∧ ∃ u : Nat → Value, a = ⟨List.toArray (u 0 :: .pointer (some ⟨w.heap.size, 0, none⟩) :: u 2 :: u 3 :: u 4 :: .slice Ad D.length cd :: .map (some W2.heap.size) :: .pointer (some ⟨ql, 0, none⟩) :: .slice A' n' c' :: .pointer (some ⟨qs, 0, none⟩) :: u 10 :: u 11 :: u 12 :: u 13 :: u 14 :: u 15 :: u 16 :: u 17 :: u 18 :: u 19 :: u 20 :: u 21 :: u 22 :: u 23 :: u 24 :: u 25 :: u 26 :: u 27 :: u 28 :: u 29 :: u 30 :: u 31 :: u 32 :: u 33 :: u 34 :: u 35 :: u 36 :: u 37 :: u 38 :: u 39 :: u 40 :: u 41 :: u 42 :: u 43 :: .slice Ad D.length cd :: .int .i64 (D.length : Int) :: .int .i64 (k : Int) :: u 47 :: u 48 :: u 49 :: u 50 :: u 51 :: u 52 :: u 53 :: u 54 :: u 55 :: u 56 :: u 57 :: u 58 :: u 59 :: u 60 :: u 61 :: u 62 :: u 63 :: u 64 :: u 65 :: u 66 :: u 67 :: u 68 :: u 69 :: u 70 :: u 71 :: u 72 :: u 73 :: u 74 :: u 75 :: u 76 :: u 77 :: u 78 :: u 79 :: u 80 :: u 81 :: u 82 :: u 83 :: u 84 :: u 85 :: u 86 :: u 87 :: u 88 :: u 89 :: u 90 :: u 91 :: u 92 :: u 93 :: u 94 :: u 95 :: u 96 :: u 97 :: u 98 :: []), []⟩) a Y)
        (fun a _ => D.length - (intOf (a.tmps.getD 46 undef)).toNat) ⟨⟨0, by omega, L, n, some ⟨g, o', none⟩, c - 1, B4, mp4, l4, s4, Lib.hid hnL, nx5, HMid, exFrame (by kernel_rfl)⟩⟩ ?_
      clear B4 mp4 l4 s4 hnL nx5 HMid hsw hc1 hc2
      rintro a Y ⟨⟨k, hk, L', n', A', c', hB, mp, lY, sY, HNL, hnx, HMid, u, rfl⟩⟩
      have hYs := hB.size
      have ls := sY.lt
      by_cases hlt : k < D.length
      rotate_left
      ·
        obtain rfl : k = D.length := by omega
        have hg1 := HMid.out.end_
        have hst : PlS w0 D dist W2.heap.size ql Y L' begun6 (.slice A' n' c') := .inl ⟨rfl, h + 1, A', n', c', rfl, by have := HNL.out; omega, hnx.avoid (fun b _ hb => .inl hb), fun hR => absurd hR (hg1.bfs.no _ hg1.bfs.beg), fun _ => hg1⟩
        have hml := mapLen_eq mp
        clear hg1 hnx HMid ls hYs
        go_wp2_with fail
        refine ⟨⟨⟨L', begun6, _, hB, mp, lY, hst, exFrame (by kernel_rfl)⟩⟩, ?_⟩
        show 117650 - (mapLen Y W2.heap.size - n') < 117650 - (mapLen W W2.heap.size - (n + 1))
        rw [hml, HM.out]
        have := HNL.out
        have := HN.out
        omega
      have hplY := hpl.below hB
      have h6k := H6D.out _ (gDp_mem hlt)
      have hlk := HL6.out k hlt
      have hcs := (HMid.out.cnt H6D.out).bd1000
      obtain ⟨bd, od, hAd, hbd, g0, g1⟩ := hplY.at_ hlt
      subst hAd
      have hins := hplY.ins k hlt
      have hnext : ∃ y, nearer s (gDp D k).ins = y := ⟨_, rfl⟩
      obtain ⟨y, hy⟩ := hnext
      have HY := Lib.hid hy
      obtain ⟨d, hd⟩ : ∃ d, gDp D k = d := ⟨_, rfl⟩
      have HDk := Lib.hid hd
      rw [hd] at h6k hlk g0 g1 hins hy
      obtain ⟨hh, ins⟩ := d
      simp only at h6k hlk g0 g1 hins hy
      have HYi := Lib.hid hy
      clear hd hy hplY
      have hbX := ex_alloc (Below.refl Y.heap.size Y) (.cells #[.int .i64 hh, .slice (rA k) ins.length (rc k)] 112)
      have e2 : Blk (Y.alloc (.cells #[.int .i64 hh, .slice (rA k) ins.length (rc k)] 112)) Y.heap.size 112 #[.int .i64 hh, .slice (rA k) ins.length (rc k)] := Blk.new _ _ _
      have B2 := ex_trans hB hbX
      have mp2 := mp.below hbX
      have l2 := lY.below hbX lY.lt
      have s2 := sY.below hbX ls
      have nx2 := hnx.below hbX
      have hins2 := (hins.below hbX).up hbX.size
      obtain ⟨t0, t1, t2, t3, t4, t5⟩ := sY.cells6
      have hnlt := fun b o (e : A' = some ⟨b, o, none⟩) => hnx.lt e
      have HNlt := Lib.hid hnlt
      go_wp2_with fail
      generalize Y.alloc (.cells #[.int .i64 hh, .slice (rA k) ins.length (rc k)] 112) = U at *
      refine (nearer_any s hh ins (rA k) (rc k) U hins2 (by omega) h6k hcs).mono ?_
      rintro e U2 ⟨rfl, hX⟩
      rw [HYi.out, sV_lit y]
      have B3 := ex_trans B2 hX
      have mp3 := mp2.below hX
      have l3 := l2.below hX l2.lt
      have s3 := s2.below hX s2.lt
      have e3 := e2.below hX e2.lt
      have nx3 := nx2.below hX
      have hUs := hX.size
      have hbs := hbX.size
      clear hbX e2 B2 mp2 l2 s2 nx2 hins2 hins t0 t1 t2 t3 t4 t5 hB mp lY sY ls hnx hX g0 g1 hnlt hbd
      have hX := ex_alloc (Below.refl U2.heap.size U2) (.cells #[.int .i64 y.a, .int .i64 y.b, .int .i64 y.c, .int .i64 y.d, .int .i64 y.e, .int .i64 y.f] 145)
      have y4 : Blk (U2.alloc (.cells #[.int .i64 y.a, .int .i64 y.b, .int .i64 y.c, .int .i64 y.d, .int .i64 y.e, .int .i64 y.f] 145)) U2.heap.size 145 (sC y) := Blk.new _ _ _
      have B4 := ex_trans B3 hX
      have mp4 := mp3.below hX
      have l4 := l3.below hX l3.lt
      have s4 := s3.below hX s3.lt
      have e4 := e3.below hX e3.lt
      have nx4 := nx3.below hX
      have hdec : (mpGet y L' ≠ none ∧ y ∈ L'.map (·.1)) ∨ (mpGet y L' = none ∧ y ∉ L'.map (·.1)) := by
        by_cases hm : y ∈ L'.map (·.1)
        · exact .inl ⟨fun e => mpGet_iff.1 e hm, hm⟩
        · exact .inr ⟨mpGet_iff.2 hm, hm⟩
      rcases hdec with ⟨hne, hmem⟩ | ⟨hnone, hnm⟩
      ·
        obtain ⟨x, hx⟩ : ∃ x, mpGet y L' = some x := by
          cases hg : mpGet y L' with
          | none => exact absurd hg hne
          | some x => exact ⟨x, rfl⟩
        obtain ⟨v1, v2, v3, v4, v5, v6, v7, vA, vn, vc, hvx⟩ := vW_form D rA rc x
        have hlk2 : (Instr.lookup 152 (.map (some W2.heap.size)) (.agg #[.int .i64 y.a, .int .i64 y.b, .int .i64 y.c, .int .i64 y.d, .int .i64 y.e, .int .i64 y.f]) true).run Try.prog (U2.alloc (.cells #[.int .i64 y.a, .int .i64 y.b, .int .i64 y.c, .int .i64 y.d, .int .i64 y.e, .int .i64 y.f] 145)) = .ok (.tuple #[.agg #[.int .i64 v1, .int .i64 v2, .int .i64 v3, .int .i64 v4, .int .i64 v5, .int .i64 v6, .int .i64 v7, .slice vA vn vc], .bool true]) (U2.alloc (.cells #[.int .i64 y.a, .int .i64 y.b, .int .i64 y.c, .int .i64 y.d, .int .i64 y.e, .int .i64 y.f] 145)) := by
          have := mp_lookup2 Try.underlying152 (et := 151) (i0 := (Try.prog.info? 151).get (by kernel_rfl)) (by kernel_rfl) (z := .agg #[.int .i64 0, .int .i64 0, .int .i64 0, .int .i64 0, .int .i64 0, .int .i64 0, .int .i64 0, .slice none 0 0]) (by kernel_rfl) keyS_ok mp4 y
          rw [hx] at this
          simp only [hvx] at this
          exact this
        have HMid2 : Hid (MidS D (RightS w0) dist L' h (k + 1) s) := Lib.hid (HMid.out.same (by rw [HY.out]; exact hmem))
        clear hne hmem hx hvx HMid
        have hX5 := ex_alloc hX (.cells #[.int .i64 v1, .int .i64 v2, .int .i64 v3, .int .i64 v4, .int .i64 v5, .int .i64 v6, .int .i64 v7, .slice vA vn vc] 151)
        go_wp2_with fail
        refine ⟨⟨⟨k + 1, by omega, L', n', A', c', ex_trans B3 hX5, mp3.below hX5, l3.below hX5 l3.lt, s3.below hX5 s3.lt, HNL, nx3.below hX5, HMid2, exFrame (by kernel_rfl)⟩⟩, ?_⟩
        show D.length - (intOf (.int .i64 ((k : Int) + 1))).toNat < D.length - (intOf (.int .i64 (k : Int))).toNat
        simp [intOf]
        omega
      ·
        have hlk2 : (Instr.lookup 152 (.map (some W2.heap.size)) (.agg #[.int .i64 y.a, .int .i64 y.b, .int .i64 y.c, .int .i64 y.d, .int .i64 y.e, .int .i64 y.f]) true).run Try.prog (U2.alloc (.cells #[.int .i64 y.a, .int .i64 y.b, .int .i64 y.c, .int .i64 y.d, .int .i64 y.e, .int .i64 y.f] 145)) = .ok (.tuple #[.agg #[.int .i64 0, .int .i64 0, .int .i64 0, .int .i64 0, .int .i64 0, .int .i64 0, .int .i64 0, .slice none 0 0], .bool false]) (U2.alloc (.cells #[.int .i64 y.a, .int .i64 y.b, .int .i64 y.c, .int .i64 y.d, .int .i64 y.e, .int .i64 y.f] 145)) := by
          have := mp_lookup2 Try.underlying152 (et := 151) (i0 := (Try.prog.info? 151).get (by kernel_rfl)) (by kernel_rfl) (z := .agg #[.int .i64 0, .int .i64 0, .int .i64 0, .int .i64 0, .int .i64 0, .int .i64 0, .int .i64 0, .slice none 0 0]) (by kernel_rfl) keyS_ok mp4 y
          rw [hnone] at this
          exact this
        have hfew := HMid.out.go.few H6D.out
        have HNM : Hid (y ∉ L'.map (·.1)) := Lib.hid hnm
        have hX5 := ex_alloc hX (.cells #[.int .i64 0, .int .i64 0, .int .i64 0, .int .i64 0, .int .i64 0, .int .i64 0, .int .i64 0, .slice none 0 0] 151)
        have B5 := ex_trans B3 hX5
        have mp5 := mp3.below hX5
        have l5 := l3.below hX5 l3.lt
        have s5 := s3.below hX5 s3.lt
        have e5 := e3.below hX5 e3.lt
        have nx5 := nx3.below hX5
        have y5 := y4.alloc (.cells #[.int .i64 0, .int .i64 0, .int .i64 0, .int .i64 0, .int .i64 0, .int .i64 0, .int .i64 0, .slice none 0 0] 151)
        obtain ⟨MO, hMO⟩ : ∃ MO, MO = Obj.map (mkE keyS (vW D rA rc) (L' ++ [(y, (s, some k))])) (L' ++ [(y, ((s, some k) : S6 × Option Nat))]).length := ⟨_, rfl⟩
        have hv : vW D rA rc (s, some k) = .agg #[.int .i64 s.a, .int .i64 s.b, .int .i64 s.c, .int .i64 s.d, .int .i64 s.e, .int .i64 s.f, .int .i64 hh, .slice (rA k) ins.length (rc k)] := by
          unfold vW
          simp only
          rw [HDk.out]
        have hup : (Instr.mapUpdate 152 (.map (some W2.heap.size)) (.agg #[.int .i64 y.a, .int .i64 y.b, .int .i64 y.c, .int .i64 y.d, .int .i64 y.e, .int .i64 y.f]) (.agg #[.int .i64 s.a, .int .i64 s.b, .int .i64 s.c, .int .i64 s.d, .int .i64 s.e, .int .i64 s.f, .int .i64 hh, .slice (rA k) ins.length (rc k)])).run Try.prog ((U2.alloc (.cells #[.int .i64 y.a, .int .i64 y.b, .int .i64 y.c, .int .i64 y.d, .int .i64 y.e, .int .i64 y.f] 145)).alloc (.cells #[.int .i64 0, .int .i64 0, .int .i64 0, .int .i64 0, .int .i64 0, .int .i64 0, .int .i64 0, .slice none 0 0] 151)) = .ok () (((U2.alloc (.cells #[.int .i64 y.a, .int .i64 y.b, .int .i64 y.c, .int .i64 y.d, .int .i64 y.e, .int .i64 y.f] 145)).alloc (.cells #[.int .i64 0, .int .i64 0, .int .i64 0, .int .i64 0, .int .i64 0, .int .i64 0, .int .i64 0, .slice none 0 0] 151)).putObj W2.heap.size MO) := by
          rw [hMO, ← hv]
          exact mp_update Try.underlying152 (et := 151) keyS_ok mp5 y (s, some k) hnone
        have HMO := Lib.hid hMO
        obtain ⟨t0, t1, t2, t3, t4, t5⟩ := s3.cells6
        have ls := s3.lt
        have c0 : U2.cell? ⟨Y.heap.size, 0, none⟩ = some (.int .i64 hh) := e3.cell 0
        have c1 : U2.cell? ⟨Y.heap.size, 1, none⟩ = some (.slice (rA k) ins.length (rc k)) := e3.cell 1
        have le := e3.lt
        have hml := mp5.lt
        clear hMO hv hnone hnm B3 mp3 l3 nx3 B4 mp4 l4 s4 e4 nx4 y4 hX
        go_wp2_with (refine pause_at 66 rfl ?_)
        have F6 : Fr (fun b => b = W2.heap.size) ((U2.alloc (.cells #[.int .i64 y.a, .int .i64 y.b, .int .i64 y.c, .int .i64 y.d, .int .i64 y.e, .int .i64 y.f] 145)).alloc (.cells #[.int .i64 0, .int .i64 0, .int .i64 0, .int .i64 0, .int .i64 0, .int .i64 0, .int .i64 0, .slice none 0 0] 151)) (((U2.alloc (.cells #[.int .i64 y.a, .int .i64 y.b, .int .i64 y.c, .int .i64 y.d, .int .i64 y.e, .int .i64 y.f] 145)).alloc (.cells #[.int .i64 0, .int .i64 0, .int .i64 0, .int .i64 0, .int .i64 0, .int .i64 0, .int .i64 0, .slice none 0 0] 151)).putObj W2.heap.size MO) := fr_put _ _ _ _ rfl
        have B6 := F6.toBelow B5 B5.size (fun x hx => by rw [show x = W2.heap.size from hx]; exact Nat.le_refl _)
        have mp6 : IsMp keyS (vW D rA rc) (((U2.alloc (.cells #[.int .i64 y.a, .int .i64 y.b, .int .i64 y.c, .int .i64 y.d, .int .i64 y.e, .int .i64 y.f] 145)).alloc (.cells #[.int .i64 0, .int .i64 0, .int .i64 0, .int .i64 0, .int .i64 0, .int .i64 0, .int .i64 0, .slice none 0 0] 151)).putObj W2.heap.size MO) W2.heap.size (L' ++ [(y, (s, some k))]) := by
          rw [HMO.out]
          exact World.putObj_heap_same hml
        have l6 := l5.fr F6 (show ¬ ql = W2.heap.size by omega)
        have s6 := s5.fr F6 (show ¬ qs = W2.heap.size by omega)
        have y6 := y5.fr F6 (show ¬ U2.heap.size = W2.heap.size by omega)
        have nx6 := nx5.fr F6 (fun g cur _ hb _ e => by
          have e : g.block = W2.heap.size := e
          rw [e] at hb
          have h1 : ((U2.alloc (.cells #[.int .i64 y.a, .int .i64 y.b, .int .i64 y.c, .int .i64 y.d, .int .i64 y.e, .int .i64 y.f] 145)).alloc (.cells #[.int .i64 0, .int .i64 0, .int .i64 0, .int .i64 0, .int .i64 0, .int .i64 0, .int .i64 0, .slice none 0 0] 151)).heap[W2.heap.size]? = some (.cells cur 145 (0, 0)) := hb
          have h2 : ((U2.alloc (.cells #[.int .i64 y.a, .int .i64 y.b, .int .i64 y.c, .int .i64 y.d, .int .i64 y.e, .int .i64 y.f] 145)).alloc (.cells #[.int .i64 0, .int .i64 0, .int .i64 0, .int .i64 0, .int .i64 0, .int .i64 0, .int .i64 0, .slice none 0 0] 151)).heap[W2.heap.size]? = some (.map (mkE keyS (vW D rA rc) L') L'.length) := mp5
          rw [h1] at h2
          cases h2)
        have hsz : U2.heap.size < (((U2.alloc (.cells #[.int .i64 y.a, .int .i64 y.b, .int .i64 y.c, .int .i64 y.d, .int .i64 y.e, .int .i64 y.f] 145)).alloc (.cells #[.int .i64 0, .int .i64 0, .int .i64 0, .int .i64 0, .int .i64 0, .int .i64 0, .int .i64 0, .slice none 0 0] 151)).putObj W2.heap.size MO).heap.size := y6.lt
        generalize ((U2.alloc (.cells #[.int .i64 y.a, .int .i64 y.b, .int .i64 y.c, .int .i64 y.d, .int .i64 y.e, .int .i64 y.f] 145)).alloc (.cells #[.int .i64 0, .int .i64 0, .int .i64 0, .int .i64 0, .int .i64 0, .int .i64 0, .int .i64 0, .slice none 0 0] 151)).putObj W2.heap.size MO = U6 at *
        clear F6 hlk2 hup hX5 B5 mp5 l5 s5 e5 nx5 y5 HMO t0 t1 t2 t3 t4 t5 c0 c1 e3 s3
        refine Paused.mk ?_
        obtain ⟨t0, t1, t2, t3, t4, t5⟩ := y6.cells6
        have ly := y6.lt
        have hX7 := ex_alloc (Below.refl U6.heap.size U6) (.cells #[.int .i64 y.a, .int .i64 y.b, .int .i64 y.c, .int .i64 y.d, .int .i64 y.e, .int .i64 y.f] 145)
        have n7 : Blk (U6.alloc (.cells #[.int .i64 y.a, .int .i64 y.b, .int .i64 y.c, .int .i64 y.d, .int .i64 y.e, .int .i64 y.f] 145)) U6.heap.size 145 (sC y) := Blk.new _ _ _
        have B7 := ex_trans B6 hX7
        have mp7 := mp6.below hX7
        have l7 := l6.below hX7 l6.lt
        have s7 := s6.below hX7 s6.lt
        have y7 := y6.below hX7 ly
        have nx7 := nx6.below hX7
        have hle : n' ≤ 200000 := by have := HNL.out; omega
        have hB7 := B7.size
        have hql7 : ∀ b, (b = ql ∨ b = qs) → b < (U6.alloc (.cells #[.int .i64 y.a, .int .i64 y.b, .int .i64 y.c, .int .i64 y.d, .int .i64 y.e, .int .i64 y.f] 145)).heap.size := fun b hb => by
          rcases hb with rfl | rfl
          · exact l7.lt
          · exact s7.lt
        go_wp2_with (first | (at_builtin; refine wpList_append_nx _ rfl _ _ rfl W2.heap.size n' c' (fun b => b = ql ∨ b = qs) A' _ nx7 hql7 hB7 rfl y U6.heap.size rfl n7 hle ?_; intro A2 c2 w1 R hnx8 hF8 hR8) | (refine pause_at 69 rfl ?_))
        have hRb : ∀ b, R b → b < Y.heap.size := fun b hb => by
          obtain ⟨⟨o, ho⟩, _⟩ := hR8 b hb
          exact HNlt.out b o ho
        have B8 := hF8.toBelow B7 hB7 (fun b hb => (hR8 b hb).2.1)
        have mp8 := mp7.fr hF8 (fun hb => by
          obtain ⟨_, _, _, cur, hcur⟩ := hR8 _ hb
          have h1 : (U6.alloc (.cells #[.int .i64 y.a, .int .i64 y.b, .int .i64 y.c, .int .i64 y.d, .int .i64 y.e, .int .i64 y.f] 145)).heap[W2.heap.size]? = some (.cells cur 145 (0, 0)) := hcur
          have h2 : (U6.alloc (.cells #[.int .i64 y.a, .int .i64 y.b, .int .i64 y.c, .int .i64 y.d, .int .i64 y.e, .int .i64 y.f] 145)).heap[W2.heap.size]? = some (.map (mkE keyS (vW D rA rc) (L' ++ [(y, (s, some k))])) (L' ++ [(y, ((s, some k) : S6 × Option Nat))]).length) := mp7
          rw [h1] at h2
          cases h2)
        have l8 := l7.fr hF8 (fun hb => (hR8 _ hb).2.2.1 (.inl rfl))
        have s8 := s7.fr hF8 (fun hb => (hR8 _ hb).2.2.1 (.inr rfl))
        have y8 := y7.fr hF8 (fun hb => by have := hRb _ hb; omega)
        have HL2 : Hid (∀ i, i < n' → gS ((L' ++ [(y, ((s, some k) : S6 × Option Nat))]).map (·.1)) (h + 1 + i) = gS (L'.map (·.1)) (h + 1 + i)) := Lib.hid (fun i hi => by
          rw [List.map_append]
          exact gS_app (by rw [List.length_map]; have := HNL.out; omega))
        have HL3 : Hid (gS ((L' ++ [(y, ((s, some k) : S6 × Option Nat))]).map (·.1)) (h + 1 + n') = y) := Lib.hid (by
          rw [List.map_append, show h + 1 + n' = (L'.map (·.1)).length by rw [List.length_map]; have := HNL.out; omega]
          exact gS_last)
        have nx8 := hnx8 (fun i => gS ((L' ++ [(y, ((s, some k) : S6 × Option Nat))]).map (·.1)) (h + 1 + i)) HL2.out HL3.out
        have HNL2 : Hid (n' + 1 + (h + 1) = (L' ++ [(y, ((s, some k) : S6 × Option Nat))]).length) := Lib.hid (by rw [List.length_append]; have := HNL.out; simp; omega)
        clear hnx8 hF8 hR8 hRb B7 mp7 l7 s7 y7 nx7 n7 hX7 hql7 hB7 B6 mp6 l6 s6 y6 nx6 t0 t1 t2 t3 t4 t5 ly hle HL2 HL3 hsz
        have q8 := q3.below B8 q3.lt
        have a0 : w1.cell? ⟨w.heap.size, 0, none⟩ = some (.slice Ar w0.rng.length cr) := q8.cell 0
        have a1 : w1.cell? ⟨w.heap.size, 1, none⟩ = some (.int .i64 w0.room) := q8.cell 1
        have a2 : w1.cell? ⟨w.heap.size, 2, none⟩ = some (.int .i64 w0.steps) := q8.cell 2
        have l1 := q8.lt
        obtain ⟨t0, t1, t2, t3, t4, t5⟩ := y8.cells6
        have ly := y8.lt
        refine Paused.mk ?_
        go_wp2_with fail
        refine (right_any w0 Ar cr y w1 hn6).mono ?_
        rintro e Z1 ⟨rfl, hX⟩
        have B9 := ex_trans B8 hX
        have mp9 := mp8.below hX
        have l9 := l8.below hX l8.lt
        have s9 := s8.below hX s8.lt
        have y9 := y8.below hX ly
        have nx9 := nx8.below hX
        clear B8 mp8 l8 s8 y8 nx8 q8 a0 a1 a2 l1 t0 t1 t2 t3 t4 t5 ly hX
        cases hrt : rightB w0 y
        · have HMid2 : Hid (MidS D (RightS w0) dist (L' ++ [(y, (s, some k))]) h (k + 1) s) := Lib.hid (by
            have := HMid.out.push HDist.out hlt (by rw [HY.out]; exact HNM.out) (by rw [HY.out]; intro h1; rw [rightB_iff.2 h1] at hrt; cases hrt)
            rw [HY.out] at this
            exact this)
          clear hrt
          go_wp2_with fail
          refine ⟨⟨⟨k + 1, by omega, _, n' + 1, A2, c2, B9, mp9, l9, s9, HNL2, nx9, HMid2, exFrame (by kernel_rfl)⟩⟩, ?_⟩
          show D.length - (intOf (.int .i64 ((k : Int) + 1))).toNat < D.length - (intOf (.int .i64 (k : Int))).toNat
          simp [intOf]
          omega
        · have HFo : Hid (Found D (RightS w0) dist (L' ++ [(y, (s, some k))]) y) := Lib.hid (by
            have := HMid.out.found HDist.out hlt (by rw [HY.out]; exact HNM.out) (by rw [HY.out]; exact rightB_iff.1 hrt)
            rw [HY.out] at this
            exact this)
          clear hrt
          obtain ⟨t0, t1, t2, t3, t4, t5⟩ := y9.cells6
          obtain ⟨z0, z1, z2, z3, z4, z5⟩ := l9.cells6
          have fl := l9.frozen0
          have ly := y9.lt
          have ll := l9.lt
          have l10 := l9.six y
          have mp10 := mp9.fr (Fr.st6 ql Z1 y) (show ¬ W2.heap.size = ql by omega)
          have B10 : Below W2.heap.size W2 (st6 Z1 ql y) := st6_below B9 (by omega) y
          have hml := mapLen_eq mp10
          have hst : PlS w0 D dist W2.heap.size ql (st6 Z1 ql y) (L' ++ [(y, (s, some k))]) y (.slice A2 (n' + 1) c2) := .inr HFo.out
          clear mp9 s9 nx9
          go_wp2_with fail
          refine ⟨⟨⟨_, y, _, B10, mp10, l10, hst, exFrame (by kernel_rfl)⟩⟩, ?_⟩
          show 117650 - (mapLen (st6 Z1 ql y) W2.heap.size - (n' + 1)) < 117650 - (mapLen W W2.heap.size - (n + 1))
          rw [hml, HM.out]
          have := HNL2.out
          have := HN.out
          omega
  · have HF : Hid (Found D (RightS w0) dist L t) := Lib.hid (by
      rcases hst with ⟨e, h, A, n, c, _, _, _, h3, _⟩ | h1
      · rw [e]; exact h3 (by rw [← e]; exact rightB_iff.1 hrt)
      · exact h1)
    clear hst hrt hX lt
    obtain ⟨t0, t1, t2, t3, t4, t5⟩ := lZ.cells6
    have ll := lZ.lt
    have hX := ex_alloc (Below.refl Z.heap.size Z) (.cells #[.int .i64 t.a, .int .i64 t.b, .int .i64 t.c, .int .i64 t.d, .int .i64 t.e, .int .i64 t.f] 145)
    have s1 : Blk (Z.alloc (.cells #[.int .i64 t.a, .int .i64 t.b, .int .i64 t.c, .int .i64 t.d, .int .i64 t.e, .int .i64 t.f] 145)) Z.heap.size 145 (sC t) := Blk.new _ _ _
    have B1 := ex_trans hBZ hX
    have mp1 := mpZ.below hX
    have HSm : Hid (dist t ≤ 6) := Lib.hid (by
      have h1 := HF.out
      have h2 := HDist.out
      rw [← HD.out] at h1 h2
      exact Found.small HW.out h2 h1)
    go_wp2_with fail
    have hx1 : XOwn (Z.alloc (.cells #[.int .i64 t.a, .int .i64 t.b, .int .i64 t.c, .int .i64 t.d, .int .i64 t.e, .int .i64 t.f] 145)) W2.heap.size (.slice none 0 0) [] := XOwn.nil
    have hqz : W2.heap.size ≤ Z.heap.size := hBZ.size
    generalize Z.alloc (.cells #[.int .i64 t.a, .int .i64 t.b, .int .i64 t.c, .int .i64 t.d, .int .i64 t.e, .int .i64 t.f] 145) = E0 at *
    generalize Z.heap.size = qz at *
    clear hX t0 t1 t2 t3 t4 t5 ll hBZ mpZ lZ qZ hbZ HM
    refine wp_loop (fun a Y => Rel (fun a Y => ∃ s X v qb, Below W2.heap.size W2 Y ∧ IsMp keyS (vW D rA rc) Y W2.heap.size L ∧ Blk Y qb 145 (sC s) ∧ XOwn Y W2.heap.size v X ∧ Hid (Back D (RightS w0) dist L t s (X.map (·.1))) ∧ ∃ u : Nat → Value, a = ⟨List.toArray (u 0 :: u 1 :: u 2 :: u 3 :: u 4 :: u 5 :: .map (some W2.heap.size) :: u 7 :: u 8 :: u 9 :: u 10 :: u 11 :: u 12 :: u 13 :: u 14 :: v :: .pointer (some ⟨qb, 0, none⟩) :: u 17 :: u 18 :: u 19 :: u 20 :: u 21 :: u 22 :: u 23 :: u 24 :: u 25 :: u 26 :: u 27 :: u 28 :: u 29 :: u 30 :: u 31 :: u 32 :: u 33 :: u 34 :: u 35 :: u 36 :: u 37 :: u 38 :: u 39 :: u 40 :: u 41 :: u 42 :: u 43 :: u 44 :: u 45 :: u 46 :: u 47 :: u 48 :: u 49 :: u 50 :: u 51 :: u 52 :: u 53 :: u 54 :: u 55 :: u 56 :: u 57 :: u 58 :: u 59 :: u 60 :: u 61 :: u 62 :: u 63 :: u 64 :: u 65 :: u 66 :: u 67 :: u 68 :: u 69 :: u 70 :: u 71 :: u 72 :: u 73 :: u 74 :: u 75 :: u 76 :: u 77 :: u 78 :: u 79 :: u 80 :: u 81 :: u 82 :: u 83 :: u 84 :: u 85 :: u 86 :: u 87 :: u 88 :: u 89 :: u 90 :: u 91 :: u 92 :: u 93 :: u 94 :: u 95 :: u 96 :: u 97 :: u 98 :: []), []⟩) a Y)
      (fun a Y => dist (readS Y (blkOf (a.tmps.getD 16 undef)))) ⟨⟨t, [], _, qz, B1, mp1, s1, hx1, Lib.hid HF.out.back, exFrame (by kernel_rfl)⟩⟩ ?_
    clear hx1 s1 B1 mp1
    rintro a Y ⟨⟨s, X, v, qb, hB, mp, sY, hx, HB, u, rfl⟩⟩
    have hYs := hB.size
    obtain ⟨t0, t1, t2, t3, t4, t5⟩ := sY.cells6
    have ls := sY.lt
    have HR : Hid (dist (readS Y qb) = dist s) := Lib.hid (by rw [readS_eq sY])
    go_wp2_with fail
    refine wp_region_ext_mix 2 [(false, 0), (true, 1)] (by kernel_rfl) (by kernel_rfl) (by intro d _ _ _ _ h; cases d <;> exact h) ?_
    have hX0 := (Below.refl Y.heap.size Y).drew
    repeat (refine mix_quiet rfl ?_; go_big_quiet_step (fail); refine wpQuiet_nil ?_)
    refine mix_loud rfl ?_
    go_wp2_with fail
    refine (begun_any Y.drew).mono ?_
    rintro e U ⟨rfl, hXb⟩
    have hX := ex_trans hX0 hXb
    rw [sV_lit begun6]
    go_wp2_with fail
    refine ⟨inEx hX, ?_⟩
    refine mix_nil rfl ?_
    have B2 := ex_trans hB hX
    have mp2 := mp.below hX
    have s2 := sY.below hX ls
    have hx2 := hx.below hX
    clear hX0 hXb hX t0 t1 t2 t3 t4 t5 hB mp sY hx ls
    by_cases hse : s = begun6
    · have e1 : ∀ w, (Op.equalIn 10000 145 (.agg #[.int .i64 s.a, .int .i64 s.b, .int .i64 s.c, .int .i64 s.d, .int .i64 s.e, .int .i64 s.f]) (.agg #[.int .i64 begun6.a, .int .i64 begun6.b, .int .i64 begun6.c, .int .i64 begun6.d, .int .i64 begun6.e, .int .i64 begun6.f])).run Try.prog w = .ok true w := fun w => (run_eql_s6 _ rfl _ _ _ _ _ _ _ _ _ _ _ _ w).trans (by rw [s6_eq, decide_eq_true hse])
      have HV : Hid (MinPl w0 (X.reverse.map (·.1))) := Lib.hid (by
        have h1 := HB.out
        have h2 := HDist.out
        rw [← HD.out] at h1 h2
        rw [hse] at h1
        rw [List.map_reverse]
        exact Back.end_ HW.out h2 h1)
      have hX6 : X.length ≤ 6 := by
        have := HB.out.few HSm.out
        rwa [List.length_map] at this
      clear hse
      have hge := fun (b : Nat) (hb : v.ownBlock = some b) => own_ge hx2.own hb
      go_wp2_with fail
      refine (rev_own hx2 (by omega)).mono ?_
      rintro e Z2 ⟨rfl, hF2, A, c, rA2, rc2, hv, hpl2⟩
      have hbF := ex_trans hb3 (hF2.toBelow B2 B2.size (fun x hx => hge x hx))
      have hl6 : (X.reverse.map (·.1)).length ≤ 6 := by simpa using hX6
      subst hv
      clear hF2 hge hX6 mp2 s2 hx2 B2
      generalize X.reverse.map (·.1) = r at *
      go_wp2_with fail
      rw [Exit.noGoto_ret]
      go_ret2
      exact ⟨⟨A, r, c, rA2, rc2, 0, rfl, Lib.hid (.inr (.inr ⟨HCK.out, HV.out, rfl⟩)), hl6, hpl2⟩, hbF⟩
    · have e1 : ∀ w, (Op.equalIn 10000 145 (.agg #[.int .i64 s.a, .int .i64 s.b, .int .i64 s.c, .int .i64 s.d, .int .i64 s.e, .int .i64 s.f]) (.agg #[.int .i64 begun6.a, .int .i64 begun6.b, .int .i64 begun6.c, .int .i64 begun6.d, .int .i64 begun6.e, .int .i64 begun6.f])).run Try.prog w = .ok false w := fun w => (run_eql_s6 _ rfl _ _ _ _ _ _ _ _ _ _ _ _ w).trans (by rw [s6_eq, decide_eq_false hse])
      obtain ⟨s', k, hg, hk, hds, hback⟩ := HB.out.step hse
      have hX6 : X.length ≤ 6 := by
        have := HB.out.few HSm.out
        rwa [List.length_map] at this
      have h6k := HL6.out k hk
      have h2k : 2 ≤ (gDp D k).ins.length := by
        have h1 : DipOk w0 (gDp D k) := dipsL_ok _ (by rw [HD.out]; exact gDp_mem hk)
        have := h1.len
        omega
      have hplU := hpl.below B2
      have hins := hplU.ins k hk
      have hlook := fun (W : World) (hm : IsMp keyS (vW D rA rc) W W2.heap.size L) => mp_lookup1 Try.underlying152 (et := 151) keyS_ok hm s hg
      have HBk : Hid (Back D (RightS w0) dist L t s' ((X.map (·.1)) ++ [gDp D k])) := Lib.hid hback
      have HDs : Hid (dist s' < dist s) := Lib.hid (by omega)
      have hv : vW D rA rc (s', some k) = .agg #[.int .i64 s'.a, .int .i64 s'.b, .int .i64 s'.c, .int .i64 s'.d, .int .i64 s'.e, .int .i64 s'.f, .int .i64 (gDp D k).heat, .slice (rA k) (gDp D k).ins.length (rc k)] := rfl
      obtain ⟨d, hd⟩ : ∃ d, gDp D k = d := ⟨_, rfl⟩
      have HDk := Lib.hid hd
      rw [hd] at h6k h2k hins HBk hv
      obtain ⟨hh, ins⟩ := d
      simp only at h6k h2k hins hv
      have HLook : Hid (∀ (W : World), IsMp keyS (vW D rA rc) W W2.heap.size L → (Instr.lookup 152 (.map (some W2.heap.size)) (.agg #[.int .i64 s.a, .int .i64 s.b, .int .i64 s.c, .int .i64 s.d, .int .i64 s.e, .int .i64 s.f]) false).run Try.prog W = .ok (.agg #[.int .i64 s'.a, .int .i64 s'.b, .int .i64 s'.c, .int .i64 s'.d, .int .i64 s'.e, .int .i64 s'.f, .int .i64 hh, .slice (rA k) ins.length (rc k)]) W) := Lib.hid (fun W hm => by rw [← hv]; exact hlook W hm)
      clear hg hds hback hse hlook hv hd hplU
      have k1 := HLook.out U mp2
      have kf := field_way1 s'.a s'.b s'.c s'.d s'.e s'.f hh (rA k) ins.length (rc k) U
      obtain ⟨t0, t1, t2, t3, t4, t5⟩ := s2.cells6
      have ls := s2.lt
      have HLT : Hid (∀ g, v.ownBlock = some g → g < U.heap.size) := Lib.hid (fun g hg => hx2.lt hg)
      have hX := ex_alloc (Below.refl U.heap.size U) (.cells #[.int .i64 hh, .slice (rA k) ins.length (rc k)] 112)
      have d3 : Blk (U.alloc (.cells #[.int .i64 hh, .slice (rA k) ins.length (rc k)] 112)) U.heap.size 112 #[.int .i64 hh, .slice (rA k) ins.length (rc k)] := Blk.new _ _ _
      have B3 := ex_trans B2 hX
      have mp3 := mp2.below hX
      have s3 := s2.below hX ls
      have hx3 := hx2.below hX
      have hins3 := (hins.below hX).up hX.size
      go_wp2_with fail
      generalize U.alloc (.cells #[.int .i64 hh, .slice (rA k) ins.length (rc k)] 112) = U3 at *
      obtain ⟨qd, hqd⟩ : ∃ qd, U.heap.size = qd := ⟨_, rfl⟩
      have HLT : Hid (∀ g, v.ownBlock = some g → g ≠ qd) := Lib.hid (fun g hg => by have := HLT.out g hg; omega)
      rw [hqd] at d3 ⊢
      clear hX hqd k1 kf t0 t1 t2 t3 t4 t5 ls B2 mp2 s2 hx2 hins
      have c0 : U3.cell? ⟨qd, 0, none⟩ = some (.int .i64 hh) := d3.cell 0
      have c1 : U3.cell? ⟨qd, 1, none⟩ = some (.slice (rA k) ins.length (rc k)) := d3.cell 1
      have lc := d3.lt
      obtain ⟨bi, oi, hAi, hbi, hci⟩ := hins3 (by omega)
      rw [hAi] at c1
      obtain ⟨row, hrow⟩ : ∃ row, v.ownBlock = row := ⟨_, rfl⟩
      have hnd : ¬ some qd = row := fun e => HLT.out qd (hrow.trans e.symm) rfl
      have hnb : ¬ some qb = row := fun e => own_blkne hx3.own s3 (by decide) (hrow.trans e.symm)
      have hrw := fun (b : Nat) (hb : row = some b) => own_ge hx3.own (hrow.trans hb)
      have HROW := Lib.hid hrow
      clear hrow
      refine wp_region_gx_mix row 9 [(false, 0), (false, 1), (false, 2), (false, 3), (false, 4), (true, 5), (false, 6), (true, 7), (true, 8)] (by kernel_rfl) (by kernel_rfl) (by intro d _ _ _ _ h; cases d <;> exact h) ?_
      have hX0 := (Below.refl U3.heap.size U3).drew
      repeat (refine mix_quiet rfl ?_; go_big_quiet_step (fail); refine wpQuiet_nil ?_)
      refine mix_loud rfl ?_
      go_wp2_with fail
      refine (slices_Clone_int bi oi ins.length (rc k) ins U3.drew (Nat.le_refl _) (by omega) (fun j hj => ?_)).mono ?_
      · have := hci j 0 hj (by omega)
        rw [Nat.mul_one, Nat.add_zero] at this
        exact this
      rintro e U4 ⟨v', rfl, hown, _, hXc⟩
      rw [List.take_length] at hown
      obtain ⟨A4, c4, rfl, hin4⟩ := own_ins hown (by omega)
      have hX4 := ex_trans hX0 hXc
      clear hown hXc
      go_wp2_with fail
      refine ⟨inGx (grown_row hX4), ?_⟩
      repeat (refine mix_quiet rfl ?_; go_big_quiet_step (fail); refine wpQuiet_nil ?_)
      refine mix_loud rfl ?_
      go_wp2_with fail
      have hX5 := ex_alloc hX4 (.cells #[.int .i64 hh, .slice A4 ins.length c4] 112)
      refine ⟨inGx (grown_row hX5), ?_⟩
      have hx5 := hx3.below hX5
      have hin5 := hin4.below (ex_alloc (Below.refl _ _) (.cells #[.int .i64 hh, .slice A4 ins.length c4] 112))
      have y5 := hx5.own
      have l63 : X.length + 1 ≤ maxLen := by unfold maxLen; omega
      have lby : (X.length + 1) * 32 ≤ 140737488355328 := by omega
      have hB3s := B3.size
      have hbase : W2.heap.size ≤ (U4.alloc (.cells #[.int .i64 hh, .slice A4 ins.length c4] 112)).heap.size := by have := hX5.size; omega
      refine mix_loud rfl ?_
      go_wp2_with (at_builtin; refine wpList_append_lies _ rfl _ _ _ rfl W2.heap.size 112 i1 _ 2 32 Try.underlying67 HJ.out hy0 hy1 hy2 rfl (by omega) v _ _ rfl y5 ⟨U4.heap.size, 0, none⟩ 1 1 [.int .i64 hh, .slice A4 ins.length c4] rfl rfl (World.news_of_block (heap_alloc_new U4 _)) (by simp [Value.oneCell']) (by omega) l63 lby hbase (U4.heap.size + 1) (by simp) ?_; intro gg cap w1 hown' hgrow hat hlt')
      have hx6 : XOwn w1 W2.heap.size (.slice (some ⟨gg, 0, none⟩) (X.length + 1) cap) (X ++ [(⟨hh, ins⟩, A4, c4)]) := by
        refine ⟨?_, fun x hx => ?_⟩
        · rw [List.length_append, List.flatMap_append]
          exact hown'
        · rcases List.mem_append.1 hx with h | h
          · exact (hx5.ins x h).grown hgrow y5 (by decide)
          · rw [List.mem_singleton.1 h]
            obtain ⟨g, cur, f1, f2, f3, f4⟩ := hin5.grown hgrow y5 (by decide)
            have f2 : U3.heap.size ≤ g := f2
            exact ⟨g, cur, f1, by omega, f3, f4⟩
      rw [HROW.out] at hgrow
      have hgB := (grown_row (r := row) hX5).andThen hgrow (fun j hj => .inr hj)
      refine ⟨inGx hgB, ?_⟩
      refine mix_nil rfl ?_
      have B6 := B3.grown hgB hB3s (fun j hj => hrw j hj)
      have mp6 := mp3.of_block (hgB.block _ mp3.lt (fun e => by
        have h1 := own_obj hx3.own (HROW.out.trans e.symm)
        obtain ⟨o, ho, _⟩ := h1
        rcases hx3.own.2 with ⟨hv, _⟩ | ⟨g, cap', cur, hv, _, hh', _⟩
        · have h2 := HROW.out.trans e.symm
          rw [hv] at h2
          simp [Value.ownBlock] at h2
        · have h2 := HROW.out.trans e.symm
          rw [hv] at h2
          simp only [Value.ownBlock] at h2
          injection h2 with h2
          rw [h2] at hh'
          have h3 : U3.heap[W2.heap.size]? = some (.map (mkE keyS (vW D rA rc) L) L.length) := mp3
          rw [h3] at hh'
          cases hh'))
      have s6 := s3.grown hgB hnb
      have HX2 : Hid (Back D (RightS w0) dist L t s' ((X ++ [((⟨hh, ins⟩ : Dp), A4, c4)]).map (·.1))) := Lib.hid (by rw [List.map_append]; exact HBk.out)
      clear hx5 hin5 y5 hX5 hX4 hin4 hgrow hown' hat hlt' hgB hrw hnd hnb hX0 mp3 s3 hx3 B3 d3 c0 c1 lc hbase hins3
      have hX := ex_alloc (Below.refl w1.heap.size w1) (.cells #[.int .i64 s.a, .int .i64 s.b, .int .i64 s.c, .int .i64 s.d, .int .i64 s.e, .int .i64 s.f] 145)
      have hX' := ex_alloc (Below.refl w1.heap.size w1) (.cells #[.int .i64 s'.a, .int .i64 s'.b, .int .i64 s'.c, .int .i64 s'.d, .int .i64 s'.e, .int .i64 s'.f] 145)
      have s7 : Blk (w1.alloc (.cells #[.int .i64 s'.a, .int .i64 s'.b, .int .i64 s'.c, .int .i64 s'.d, .int .i64 s'.e, .int .i64 s'.f] 145)) w1.heap.size 145 (sC s') := Blk.new _ _ _
      have k1 := HLook.out (w1.alloc (.cells #[.int .i64 s.a, .int .i64 s.b, .int .i64 s.c, .int .i64 s.d, .int .i64 s.e, .int .i64 s.f] 145)) (mp6.below hX)
      have kf := field_way0 s'.a s'.b s'.c s'.d s'.e s'.f hh (some ⟨bi, oi, none⟩) ins.length (rc k) (w1.alloc (.cells #[.int .i64 s.a, .int .i64 s.b, .int .i64 s.c, .int .i64 s.d, .int .i64 s.e, .int .i64 s.f] 145))
      obtain ⟨t0, t1, t2, t3, t4, t5⟩ := s6.cells6
      have ls := s6.lt
      go_wp2_with fail
      refine ⟨⟨⟨s', X ++ [(⟨hh, ins⟩, A4, c4)], .slice (some ⟨gg, 0, none⟩) (X.length + 1) cap, w1.heap.size, ex_trans B6 hX', mp6.below hX', s7, hx6.below hX', HX2, exFrame (by kernel_rfl)⟩⟩, ?_⟩
      show dist (readS (w1.alloc (.cells #[.int .i64 s'.a, .int .i64 s'.b, .int .i64 s'.c, .int .i64 s'.d, .int .i64 s'.e, .int .i64 s'.f] 145)) w1.heap.size) < dist (readS Y qb)
      rw [HR.out, readS_eq s7]
      exact HDs.out
end Go.Proofs.Ytnplefhigbkbbaa
end

section
namespace Go.Proofs.Ytnplefhigbkbbaa
open Go.RowKit
attribute [local go_sem] Ex.cell? Ex.frozen?

def or2 (x y : Int) : Int := if x = 0 then y else x
set_option maxRecDepth 100000 in
set_option maxHeartbeats 1600000 in
theorem or_any (b c : Nat) (x y : Int) (w : World) (h0 : w.cell? ⟨b, 0, none⟩ = some (.int .i64 x)) (h1 : w.cell? ⟨b, 1, none⟩ = some (.int .i64 y)) :
    Calls Try.prog 123 #[.slice (some ⟨b, 0, none⟩) 2 c] w fun e w' => e = .returned (.int .i64 (or2 x y)) ∧ w = w' := by
  by_cases hx : x = 0
  · subst hx
    by_cases hy : y = 0
    · subst hy
      go_enter Try.func123, Try.ntmps123
      go_wp2
      go_loop [8] (fun i => ∃ k : Nat, k ≤ 2 ∧ i = .int .i64 k) (fun i => 2 - (intOf i).toNat)
      case atStart => exact ⟨0, by omega, rfl⟩
      case round =>
        obtain ⟨k, hk, rfl⟩ := hrel
        by_cases hlt : k < 2
        · have hc : w.cell? ⟨b, k, none⟩ = some (.int .i64 0) := by
            rcases (show k = 0 ∨ k = 1 by omega) with rfl | rfl
            · exact h0
            · exact h1
          go_wp2
          go_round
          case rel => exact ⟨k + 1, by omega, by go_num⟩
          case measure => simp [intOf]; omega
        · go_wp2
          go_ret
          exact ⟨by simp [or2], rfl⟩
    · have HY : Hid (or2 0 y = y) := Lib.hid (by simp [or2])
      have e1 : (y != 0) = true := by simp [hy]
      have e2 : (y == 0) = false := by simp [hy]
      clear hy
      go_enter Try.func123, Try.ntmps123
      go_wp2
      go_loop [8] (fun i => ∃ k : Nat, k ≤ 1 ∧ i = .int .i64 k) (fun i => 2 - (intOf i).toNat)
      case atStart => exact ⟨0, by omega, rfl⟩
      case round =>
        obtain ⟨k, hk, rfl⟩ := hrel
        by_cases hlt : k < 1
        · obtain rfl : k = 0 := by omega
          go_wp2
          go_round
          case rel => exact ⟨1, by omega, by go_num⟩
          case measure => simp [intOf]
        · obtain rfl : k = 1 := by omega
          go_wp2
          go_ret
          exact ⟨ret_int HY.out.symm, rfl⟩
  · have HX : Hid (or2 x y = x) := Lib.hid (by simp [or2, hx])
    have e1 : (x != 0) = true := by simp [hx]
    have e2 : (x == 0) = false := by simp [hx]
    clear hx
    go_enter Try.func123, Try.ntmps123
    go_wp2
    go_loop [8] (fun i => ∃ k : Nat, k ≤ 0 ∧ i = .int .i64 k) (fun i => 2 - (intOf i).toNat)
    case atStart => exact ⟨0, by omega, rfl⟩
    case round =>
      obtain ⟨k, hk, rfl⟩ := hrel
      obtain rfl : k = 0 := by omega
      go_wp2
      go_ret
      exact ⟨ret_int HX.out.symm, rfl⟩

def befI (p q : Nat × Nat) : Int := or2 ((p.1 : Int) - (q.1 : Int)) ((p.2 : Int) - (q.2 : Int))
theorem befI_zero {p q : Nat × Nat} : befI p q = 0 ↔ p = q := by
  obtain ⟨a, b⟩ := p
  obtain ⟨c, d⟩ := q
  unfold befI or2
  simp only [Prod.mk.injEq]
  split <;> omega
theorem befI_neg {p q : Nat × Nat} : befI p q < 0 ↔ pltB p q = true := by
  rw [pltB_iff]
  unfold befI or2
  split <;> omega
def cmpI : List (Nat × Nat) → List (Nat × Nat) → Int
  | [], [] => 0
  | [], _ :: _ => -1
  | _ :: _, [] => 1
  | p :: a, q :: b => if befI p q = 0 then cmpI a b else befI p q
theorem cmpI_neg : ∀ {a b : List (Nat × Nat)}, cmpI a b < 0 ↔ ltP a b = true
  | [], [] => by simp [cmpI, ltP]
  | [], _ :: _ => by simp [cmpI, ltP]
  | _ :: _, [] => by simp [cmpI, ltP]
  | p :: a, q :: b => by
    rw [cmpI, ltP]
    by_cases h : p = q
    · rw [if_pos h, if_pos (befI_zero.2 h)]; exact cmpI_neg
    · rw [if_neg h, if_neg (fun e => h (befI_zero.1 e))]; exact befI_neg
theorem cmpI_drop {a b : List (Nat × Nat)} {k : Nat} (ha : k < a.length) (hb : k < b.length) : cmpI (a.drop k) (b.drop k) = if befI a[k] b[k] = 0 then cmpI (a.drop (k + 1)) (b.drop (k + 1)) else befI a[k] b[k] := by
  rw [List.drop_eq_getElem_cons ha, List.drop_eq_getElem_cons hb, cmpI]
/-- the numbers of these places are small. -/
def SmP (l : List (Nat × Nat)) : Prop := ∀ p, p ∈ l → p.1 ≤ 1000 ∧ p.2 ≤ 1000

set_option maxHeartbeats 1600000 in
theorem before_any (p1 p2 q1 q2 : Nat) (w : World) (h1 : p1 ≤ 1000) (h2 : p2 ≤ 1000) (h3 : q1 ≤ 1000) (h4 : q2 ≤ 1000) :
    Calls Try.prog 108 #[.agg #[.int .i64 (p1 : Int), .int .i64 (p2 : Int)], .agg #[.int .i64 (q1 : Int), .int .i64 (q2 : Int)]] w fun e w' => e = .returned (.int .i64 (befI (p1, p2) (q1, q2))) ∧ Below w.heap.size w w' := by
  go_enter Try.func108, Try.ntmps108
  go_wp2_with fail
  refine (or_any _ _ ((p1 : Int) - (q1 : Int)) ((p2 : Int) - (q2 : Int)) _ (by simp [go_sem]) (by simp [go_sem])).mono ?_
  rintro e w' ⟨rfl, rfl⟩
  go_wp2
  go_ret
  exact ⟨rfl, ex_alloc (ex_alloc (ex_alloc (Below.refl _ _) _) _) _⟩

set_option maxRecDepth 100000 in
set_option maxHeartbeats 1600000 in
theorem compare_any (A B : Option Addr) (ca cb : Nat) (a b : List (Nat × Nat)) (w : World) (ha : SlAt w w.heap.size 2 A a.length (fPl a)) (hb : SlAt w w.heap.size 2 B b.length (fPl b)) (sa : SmP a) (sb : SmP b) (la : a.length ≤ 1000000) (lb : b.length ≤ 1000000) :
    Calls Try.prog 107 #[.slice A a.length ca, .slice B b.length cb, .func (.func 108) #[] #[]] w fun e w' => e = .returned (.int .i64 (cmpI a b)) ∧ Below w.heap.size w w' := by
  go_enter Try.func107, Try.ntmps107
  go_wp2_with fail
  refine wp_loop (fun a' W => Rel (fun a' W => ∃ k : Nat, k ≤ a.length ∧ k ≤ b.length ∧ Hid (cmpI a b = cmpI (a.drop k) (b.drop k)) ∧ Below w.heap.size w W ∧ ∃ u : Nat → Value, a' = ⟨List.toArray (.slice A a.length ca :: .slice B b.length cb :: .func (.func 108) #[] #[] :: u 3 :: u 4 :: u 5 :: u 6 :: u 7 :: u 8 :: u 9 :: u 10 :: .slice A a.length ca :: .int .i64 (a.length : Int) :: .int .i64 (k : Int) :: u 14 :: u 15 :: u 16 :: u 17 :: u 18 :: u 19 :: u 20 :: u 21 :: u 22 :: u 23 :: u 24 :: u 25 :: u 26 :: u 27 :: u 28 :: u 29 :: u 30 :: u 31 :: u 32 :: u 33 :: u 34 :: u 35 :: u 36 :: u 37 :: u 38 :: []), []⟩) a' W)
    (fun a' _ => a.length - (intOf (a'.tmps.getD 13 undef)).toNat) ⟨⟨0, by omega, by omega, Lib.hid rfl, Below.refl _ _, exFrame (by kernel_rfl)⟩⟩ ?_
  rintro a' W ⟨⟨k, hk, hkb, HC, hbl, u, rfl⟩⟩
  by_cases hlt : k < a.length
  rotate_left
  · by_cases hl2 : a.length < b.length
    · have HR : Hid (cmpI a b = -1) := Lib.hid (by
        have e1 : a.drop k = [] := List.drop_eq_nil_of_le (by omega)
        have e2 : b.drop k = b[k] :: b.drop (k + 1) := List.drop_eq_getElem_cons (by omega)
        rw [HC.out, e1, e2]
        rfl)
      have d1 : decide (a.length < b.length) = true := decide_eq_true hl2
      clear HC
      go_wp2
      go_ret
      exact ⟨ret_int HR.out.symm, hbl⟩
    · have HR : Hid (cmpI a b = 0) := Lib.hid (by
        have e1 : a.drop k = [] := List.drop_eq_nil_of_le (by omega)
        have e2 : b.drop k = [] := List.drop_eq_nil_of_le (by omega)
        rw [HC.out, e1, e2]
        rfl)
      have d1 : decide (a.length < b.length) = false := decide_eq_false hl2
      clear HC
      go_wp2
      go_ret
      exact ⟨ret_int HR.out.symm, hbl⟩
  obtain ⟨ba, oa, rfl, hba, ga⟩ := (ha.below hbl) (by omega)
  have g0 : W.cell? ⟨ba, oa + k * 2, none⟩ = some (.int .i64 ((a[k].1 : Nat) : Int)) := by have := ga k 0 hlt (by omega); simpa [fPl, hlt] using this
  have g1 : W.cell? ⟨ba, oa + k * 2 + 1, none⟩ = some (.int .i64 ((a[k].2 : Nat) : Int)) := by have := ga k 1 hlt (by omega); simpa [fPl, hlt, Nat.add_assoc] using this
  have hs := hbl.size
  have lba : ba < W.heap.size := by omega
  have s1 := sa a[k] (List.getElem_mem hlt)
  have HP : Hid (a[k] = (a[k].1, a[k].2)) := Lib.hid rfl
  by_cases hlb : k < b.length
  rotate_left
  · have HR : Hid (cmpI a b = 1) := Lib.hid (by
      have e1 : a.drop k = a[k] :: a.drop (k + 1) := List.drop_eq_getElem_cons hlt
      have e2 : b.drop k = [] := List.drop_eq_nil_of_le (by omega)
      rw [HC.out, e1, e2]
      rfl)
    have d1 : decide (k < b.length) = false := decide_eq_false hlb
    generalize a[k].1 = p1 at *
    generalize a[k].2 = p2 at *
    clear HC ga HP
    go_wp2
    go_ret
    exact ⟨ret_int HR.out.symm, ex_alloc hbl _⟩
  obtain ⟨bb, ob, rfl, hbb, gb⟩ := (hb.below hbl) (by omega)
  have k0 : W.cell? ⟨bb, ob + k * 2, none⟩ = some (.int .i64 ((b[k].1 : Nat) : Int)) := by have := gb k 0 hlb (by omega); simpa [fPl, hlb] using this
  have k1 : W.cell? ⟨bb, ob + k * 2 + 1, none⟩ = some (.int .i64 ((b[k].2 : Nat) : Int)) := by have := gb k 1 hlb (by omega); simpa [fPl, hlb, Nat.add_assoc] using this
  have lbb : bb < W.heap.size := by omega
  have s2 := sb b[k] (List.getElem_mem hlb)
  have HQ : Hid (b[k] = (b[k].1, b[k].2)) := Lib.hid rfl
  have HD := Lib.hid (cmpI_drop hlt hlb)
  rw [HP.out, HQ.out] at HD
  generalize a[k].1 = p1 at *
  generalize a[k].2 = p2 at *
  generalize b[k].1 = q1 at *
  generalize b[k].2 = q2 at *
  clear ga gb HP HQ
  have hbX := ex_alloc (ex_alloc hbl (.cells #[.int .i64 (p1 : Int), .int .i64 (p2 : Int)] 137)) (.cells #[.int .i64 (q1 : Int), .int .i64 (q2 : Int)] 137)
  go_wp2_with fail
  refine (before_any p1 p2 q1 q2 _ s1.1 s1.2 s2.1 s2.2).mono ?_
  rintro e W2 ⟨rfl, hb2⟩
  have B2 := ex_trans hbX hb2
  obtain ⟨r, hr⟩ : ∃ r, befI (p1, p2) (q1, q2) = r := ⟨_, rfl⟩
  rw [hr] at HD ⊢
  clear hr
  by_cases h0 : r = 0
  · subst h0
    have HC2 : Hid (cmpI a b = cmpI (a.drop (k + 1)) (b.drop (k + 1))) := Lib.hid (by rw [HC.out, HD.out, if_pos rfl])
    clear HD HC
    go_wp2_with fail
    refine ⟨⟨⟨k + 1, by omega, by omega, HC2, B2, exFrame (by kernel_rfl)⟩⟩, ?_⟩
    show a.length - (intOf (.int .i64 ((k : Int) + 1))).toNat < a.length - (intOf (.int .i64 (k : Int))).toNat
    simp [intOf]
    omega
  · have HR : Hid (cmpI a b = r) := Lib.hid (by rw [HC.out, HD.out, if_neg h0])
    have e1 : (r != 0) = true := by simp [h0]
    have e2 : (r == 0) = false := by simp [h0]
    clear HD HC h0
    go_wp2
    go_ret
    exact ⟨ret_int HR.out.symm, B2⟩
end Go.Proofs.Ytnplefhigbkbbaa
end
