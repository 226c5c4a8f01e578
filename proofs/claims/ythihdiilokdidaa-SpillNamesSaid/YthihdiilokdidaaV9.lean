/- Spill: ProveRoster (walk). · Spill's laws: ranges, the works and the team of the chapter (walks). · Spill: what comes to a room, and what a book says (walks). · Spill: books; numbers of a list that are right (walks). · Spill: whether a truth is one of a works (walk). -/
import Derived.Test.YthihdiilokdidaaV8
import Derived.Test.YthihdiilokdidaaV3
import Derived.Test.YthihdiilokdidaaV2
set_option linter.unusedVariables false
set_option linter.unusedSimpArgs false
set_option linter.unusedSectionVars false
section
namespace Go.Proofs.Ythihdiilokdidaa
open Go.RowKit
attribute [local go_sem] Ex.cell? Ex.frozen?

structure LisIn (w : World) (B : Nat) (A : Option Addr) (L : List (List Int)) (rV : Nat → Option Addr) (rcV : Nat → Nat) : Prop where
  out : SlAt w B 1 A L.length (fun k _ => .slice (rV k) (gL L k).length (rcV k))
  row : ∀ k, k < L.length → SlAt w B 1 (rV k) (gL L k).length (fI (gL L k))
theorem LisIn.go {w w' : World} {A : Option Addr} {L : List (List Int)} {rV : Nat → Option Addr} {rcV : Nat → Nat} (h : LisIn w w.heap.size A L rV rcV) (hb : Below w.heap.size w w') : LisIn w' w'.heap.size A L rV rcV :=
  ⟨(h.out.below hb).up hb.size, fun k hk => ((h.row k hk).below hb).up hb.size⟩
def rowR (t : Tm) (l : List Int) : Bool := decide (l.length = t.rates.length) && (allTo (fun i => inB (gI l i) 0 t.most) l.length && mayB t (layV l t.rates.length))
def doneV (t : Tm) (L : List (List Int)) : Nat → V3
  | 0 => z3
  | k + 1 => ⟨(doneV t L k).a + (layV (gL L k) t.rates.length).a, (doneV t L k).b + (layV (gL L k) t.rates.length).b, (doneV t L k).c + (layV (gL L k) t.rates.length).c⟩
theorem doneV_get (t : Tm) (L : List (List Int)) (k i : Nat) : (doneV t L (k + 1)).get i = (doneV t L k).get i + (layV (gL L k) t.rates.length).get i := by
  match i with
  | 0 => rfl
  | 1 => rfl
  | 2 => rfl
  | _ + 3 => rfl
def proveR (t : Tm) (L : List (List Int)) (many : Int) : Bool := decide (ckTm t = 0) && (decide ((L.length : Int) ≤ many) && (decide (L.length ≤ 6) && (allTo (fun k => rowR t (gL L k)) L.length && (decide (t.rates.length = t.hours.length) && allTo (fun i => decide ((doneV t L L.length).get i = gI t.hours i)) t.rates.length))))
def addTo (l d : V3) : Nat → V3
  | 0 => l
  | j + 1 => (addTo l d j).set j (l.get j + d.get j)
theorem addTo_get (l d : V3) (j : Nat) (hj : j ≤ 3) (i : Nat) : (addTo l d j).get i = if i < j then l.get i + d.get i else l.get i := by
  induction j with
  | zero => simp [addTo]
  | succ j ih =>
    rw [addTo, V3.set_get _ _ _ _ (by omega), ih (by omega)]
    by_cases h : i = j
    · subst h; simp
    · rw [if_neg h]
      by_cases h2 : i < j
      · rw [if_pos h2, if_pos (by omega)]
      · rw [if_neg h2, if_neg (by omega)]
theorem addTo_all (t : Tm) (L : List (List Int)) (k : Nat) : addTo (doneV t L k) (layV (gL L k) t.rates.length) 3 = doneV t L (k + 1) := V3.ext' fun i hi => by rw [addTo_get _ _ _ (Nat.le_refl _), if_pos hi, doneV_get]

set_option maxHeartbeats 1600000 in
theorem most_any (t : Tm) (Ar Ah : Option Addr) (cr ch pt : Nat) (n : Int) (w : World) (hq : Blk w pt 59 #[.slice Ar t.rates.length cr, .slice Ah t.hours.length ch, .int .i64 t.limit, .int .i64 t.most]) :
    Calls Try.prog 72 #[.int .i64 n, .pointer (some ⟨pt, 0, none⟩)] w fun e w' => e = .returned (.bool (inB n 0 t.most)) ∧ Below w.heap.size w w' := by
  have a3 : w.cell? ⟨pt, 3, none⟩ = some (.int .i64 t.most) := hq.cell 3
  have l3 := hq.lt
  go_enter Try.func72, Try.ntmps72
  go_wp2_with fail
  refine (within_any _ _ _ _).mono ?_
  rintro e w' ⟨rfl, rfl⟩
  go_wp2
  go_ret
  exact ⟨rfl, Below.refl _ _⟩
set_option maxHeartbeats 1600000 in
theorem equal_any (A B : Option Addr) (ca cb n m : Nat) (f g : Nat → Int) (w : World) (hA : SlAt w w.heap.size 1 A n (fun k _ => .int .i64 (f k))) (hB : SlAt w w.heap.size 1 B m (fun k _ => .int .i64 (g k))) (hn : n ≤ 1000000) (hm : m ≤ 1000000) :
    Calls Try.prog 74 #[.slice A n ca, .slice B m cb] w fun e w' => e = .returned (.bool (decide (n = m) && allTo (fun i => decide (f i = g i)) n)) ∧ Below w.heap.size w w' := by
  by_cases h : n = m
  · subst h
    go_enter Try.func74, Try.ntmps74
    go_wp2_with fail
    refine wp_loop (fun a W => Rel (fun a W => ∃ k : Nat, k ≤ n ∧ Below w.heap.size w W ∧ Hid (∀ i, i < k → decide (f i = g i) = true) ∧ ∃ u : Nat → Value, a = ⟨List.toArray (.slice A n ca :: .slice B n cb :: u 2 :: u 3 :: u 4 :: u 5 :: u 6 :: u 7 :: u 8 :: u 9 :: u 10 :: u 11 :: .int .i64 (n : Int) :: .int .i64 (k : Int) :: u 14 :: u 15 :: u 16 :: u 17 :: u 18 :: u 19 :: u 20 :: u 21 :: u 22 :: u 23 :: u 24 :: u 25 :: []), []⟩) a W) (fun a _ => n - (intOf (a.tmps.getD 13 undef)).toNat) ⟨⟨0, by omega, Below.refl _ _, Lib.hid (fun i hi => by omega), exFrame (by kernel_rfl)⟩⟩ ?_
    rintro a W ⟨⟨k, hk, hb, HK, u, rfl⟩⟩
    by_cases hlt : k < n
    · obtain ⟨b1, o1, rfl, hb1, x1⟩ := (hA.below hb) (by omega)
      obtain ⟨b2, o2, rfl, hb2, x2⟩ := (hB.below hb) (by omega)
      have y1 : W.cell? ⟨b1, o1 + k, none⟩ = some (.int .i64 (f k)) := by have := x1 k 0 hlt (by omega); rw [show o1 + (k * 1 + 0) = o1 + k by omega] at this; exact this
      have y2 : W.cell? ⟨b2, o2 + k, none⟩ = some (.int .i64 (g k)) := by have := x2 k 0 hlt (by omega); rw [show o2 + (k * 1 + 0) = o2 + k by omega] at this; exact this
      clear x1 x2
      have hs := hb.size
      have hb1W : b1 < W.heap.size := by omega
      have hb2W : b2 < W.heap.size := by omega
      have hkn : (k : Int) < (n : Int) := by omega
      have DD := (Below.refl W.heap.size W).drew
      have hb3 := ex_trans hb DD
      obtain ⟨fv, hfv⟩ : ∃ x, f k = x := ⟨_, rfl⟩
      obtain ⟨gv, hgv⟩ : ∃ x, g k = x := ⟨_, rfl⟩
      rw [hfv] at y1
      rw [hgv] at y2
      have HFV := Lib.hid hfv
      have HGV := Lib.hid hgv
      clear hfv hgv
      go_upto_region 6 with fail
      refine wp_region_ext_mix 8 [(false, 0), (false, 1), (false, 2), (false, 3), (false, 4), (false, 5), (false, 6), (false, 7)] (by kernel_rfl) (by kernel_rfl) (by intro d _ _ _ _ h; cases d <;> exact h) ?_
      repeat (refine mix_quiet rfl ?_; go_big_quiet_step (fail); refine wpQuiet_nil ?_)
      refine mix_nil (r := [_]) rfl ?_
      by_cases he : fv = gv
      · have HK2 : Hid (∀ i, i < k + 1 → decide (f i = g i) = true) := Lib.hid (fun i hi => by
          rcases Nat.lt_succ_iff_lt_or_eq.1 hi with h | h
          · exact HK.out i h
          · subst h; rw [HFV.out, HGV.out, he]; simp)
        subst he
        go_wp2_with fail
        refine ⟨⟨⟨k + 1, by omega, hb3, HK2, exFrame (by kernel_rfl)⟩⟩, ?_⟩
        show n - (intOf (.int .i64 ((k : Int) + 1))).toNat < n - (intOf (.int .i64 (k : Int))).toNat
        simp [intOf]
        omega
      · have hne : (fv != gv) = true := bne_iff_ne.2 he
        have HF : Hid (allTo (fun i => decide (f i = g i)) n = false) := Lib.hid (by rw [allTo_false hlt (f := fun i => decide (f i = g i)) (by rw [HFV.out, HGV.out]; exact decide_eq_false he)])
        go_wp2
        go_ret
        exact ⟨by rw [HF.out]; rfl, hb3⟩
    · have hkn : k = n := by omega
      have HF : Hid (allTo (fun i => decide (f i = g i)) n = true) := Lib.hid (by rw [allTo_iff.2 (fun i hi => HK.out i (by omega))])
      clear hkn
      go_wp2
      go_ret
      exact ⟨by rw [HF.out]; rfl, hb⟩
  · have h1 : ((n : Int) != (m : Int)) = true := by rw [bne_iff_ne]; omega
    have HF : Hid ((decide (n = m) && allTo (fun i => decide (f i = g i)) n) = false) := Lib.hid (by simp [h])
    go_enter Try.func74, Try.ntmps74
    go_wp2
    go_ret
    exact ⟨by rw [HF.out]; rfl, Below.refl _ _⟩

set_option maxHeartbeats 1600000 in
theorem all1_most (t : Tm) (Ar Ah : Option Addr) (cr ch pt : Nat) (n : Nat) (l : List Int) (w : World) (hq : Blk w pt 59 #[.slice Ar t.rates.length cr, .slice Ah t.hours.length ch, .int .i64 t.limit, .int .i64 t.most]) (k pb : Nat) (hk : k < n) (hp : pb < w.heap.size) (hc : w.cell? ⟨pb, 0, none⟩ = some (.func (.func 72) #[] #[.pointer (some ⟨pt, 0, none⟩)])) :
    Calls Try.prog 103 #[.int .i64 (gI l k), .pointer (some ⟨pb, 0, none⟩)] w fun e w' => e = .returned (.bool (!(inB (gI l k) 0 t.most))) ∧ Below w.heap.size w w' := by
  go_enter Try.func103, Try.ntmps103
  go_wp2_with fail
  refine (most_any t Ar Ah cr ch pt (gI l k) _ hq).mono ?_
  rintro e w2 ⟨rfl, hb2⟩
  go_wp2
  go_ret
  exact ⟨rfl, hb2⟩

set_option maxHeartbeats 1600000 in
theorem index_most (t : Tm) (Ar Ah : Option Addr) (cr ch pt : Nat) (n : Nat) (l : List Int) (A : Option Addr) (c : Nat) (w : World) (hq : Blk w pt 59 #[.slice Ar t.rates.length cr, .slice Ah t.hours.length ch, .int .i64 t.limit, .int .i64 t.most]) (hA : SlAt w w.heap.size 1 A n (fI l)) (hl : n ≤ 1000000) (pb : Nat) (hp : pb < w.heap.size) (hc : w.cell? ⟨pb, 0, none⟩ = some (.func (.func 72) #[] #[.pointer (some ⟨pt, 0, none⟩)])) :
    Calls Try.prog 123 #[.slice A n c, .func (.func 103) #[] #[.pointer (some ⟨pb, 0, none⟩)]] w fun e w' => e = .returned (.int .i64 (firstOf (fun k => !(inB (gI l k) 0 t.most)) n)) ∧ Below w.heap.size w w' := by
  go_enter Try.func123, Try.ntmps123
  go_wp2
  go_loopw [8] (fun i wr => ∃ k : Nat, k ≤ n ∧ i = .int .i64 k ∧ (∀ k', k' < k → (inB (gI l k') 0 t.most) = true) ∧ Below w.heap.size w wr)
    (fun i _ => n - (intOf i).toNat)
  case atStart => exact ⟨0, by omega, rfl, fun j hj => by omega, Below.refl _ _⟩
  case round =>
    obtain ⟨k, hk, rfl, hok, hbl⟩ := hrel
    by_cases hlt : k < n
    · have hAW := (hA.below hbl).up hbl.size
      obtain ⟨b, off, rfl, hbl2, g0⟩ := IsInts.at_ hAW hlt
      have hcr : wr.cell? ⟨pb, 0, none⟩ = some (.func (.func 72) #[] #[.pointer (some ⟨pt, 0, none⟩)]) := (hbl.cell (p := ⟨pb, 0, none⟩) hp).trans hc
      have hpr : pb < wr.heap.size := by have := hbl.size; omega
      have HOK := Lib.hid hok
      clear hok
      cases ht : (inB (gI l k) 0 t.most)
      · have HT := Lib.hid ht
        have HF : Hid (firstOf (fun k => !(inB (gI l k) 0 t.most)) n = (k : Int)) := Lib.hid (firstOf_at hlt (fun j hj => by have := HOK.out j hj; simp only [this]; rfl) (by simp only [ht]; rfl))
        clear ht
        go_wp2_with fail
        refine (all1_most t Ar Ah cr ch pt n l wr (hq.below hbl hq.lt) k pb hlt hpr hcr).mono ?_
        rintro e w2 ⟨rfl, hb2⟩
        rw [HT.out]
        go_wp2
        go_ret
        exact ⟨ret_int HF.out.symm, ex_trans hbl hb2⟩
      · have HT := Lib.hid ht
        clear ht
        go_wp2_with fail
        refine (all1_most t Ar Ah cr ch pt n l wr (hq.below hbl hq.lt) k pb hlt hpr hcr).mono ?_
        rintro e w2 ⟨rfl, hb2⟩
        rw [HT.out]
        go_wp2
        go_roundw
        case rel => exact ⟨k + 1, by omega, by go_num, fun j hj => by rcases Nat.lt_succ_iff_lt_or_eq.1 hj with h | h; exact HOK.out j h; exact h ▸ HT.out, ex_trans hbl hb2⟩
        case measure => simp [intOf]; omega
    · obtain rfl : k = n := by omega
      have HF : Hid (firstOf (fun k => !(inB (gI l k) 0 t.most)) k = -1) := Lib.hid (firstOf_neg fun j hj => by have := hok j hj; simp only [this]; rfl)
      go_wp2
      go_ret
      exact ⟨ret_int HF.out.symm, hbl⟩

theorem contains_most (t : Tm) (Ar Ah : Option Addr) (cr ch pt : Nat) (n : Nat) (l : List Int) (A : Option Addr) (c : Nat) (w : World) (hq : Blk w pt 59 #[.slice Ar t.rates.length cr, .slice Ah t.hours.length ch, .int .i64 t.limit, .int .i64 t.most]) (hA : SlAt w w.heap.size 1 A n (fI l)) (hl : n ≤ 1000000) (pb : Nat) (hp : pb < w.heap.size) (hc : w.cell? ⟨pb, 0, none⟩ = some (.func (.func 72) #[] #[.pointer (some ⟨pt, 0, none⟩)])) :
    Calls Try.prog 102 #[.slice A n c, .func (.func 103) #[] #[.pointer (some ⟨pb, 0, none⟩)]] w fun e w' => e = .returned (.bool (!allTo (fun k => (inB (gI l k) 0 t.most)) n)) ∧ Below w.heap.size w w' := by
  have HF : Hid (decide (0 ≤ firstOf (fun k => !(inB (gI l k) 0 t.most)) n) = !allTo (fun k => (inB (gI l k) 0 t.most)) n) := Lib.hid (by rw [firstOf_nonneg]; simp)
  go_enter Try.func102, Try.ntmps102
  go_wp2_with fail
  refine (index_most t Ar Ah cr ch pt n l A c w hq hA hl pb hp hc).mono ?_
  rintro e w2 ⟨rfl, hb2⟩
  go_wp2
  go_ret
  exact ⟨ret_bool HF.out, hb2⟩

theorem all_most (t : Tm) (Ar Ah : Option Addr) (cr ch pt : Nat) (n : Nat) (l : List Int) (A : Option Addr) (c : Nat) (w : World) (hq : Blk w pt 59 #[.slice Ar t.rates.length cr, .slice Ah t.hours.length ch, .int .i64 t.limit, .int .i64 t.most]) (hA : SlAt w w.heap.size 1 A n (fI l)) (hl : n ≤ 1000000) :
    Calls Try.prog 68 #[.slice A n c, .func (.func 72) #[] #[.pointer (some ⟨pt, 0, none⟩)]] w fun e w' => e = .returned (.bool (allTo (fun k => (inB (gI l k) 0 t.most)) n)) ∧ Below w.heap.size w w' := by
  have hb1 := ex_alloc (Below.refl w.heap.size w) (.cells #[.func (.func 72) #[] #[.pointer (some ⟨pt, 0, none⟩)]] 130)
  have hA1 := (hA.below hb1).up hb1.size
  go_enter Try.func68, Try.ntmps68
  go_wp2_with fail
  refine (contains_most t Ar Ah cr ch pt n l A c _ (hq.below hb1 hq.lt) hA1 hl w.heap.size (by simp) (by simp [go_sem])).mono ?_
  rintro e w2 ⟨rfl, hb2⟩
  go_wp2
  go_ret
  exact ⟨by simp, ex_trans hb1 hb2⟩
set_option maxRecDepth 100000 in
set_option maxHeartbeats 6400000 in
theorem ProveR_any (t : Tm) (Ar Ah : Option Addr) (cr ch : Nat) (w : World) (htm : TmIn w w.heap.size t Ar Ah) (hsm : t.rates.length ≤ 1000 ∧ t.hours.length ≤ 1000) (L : List (List Int)) (AR : Option Addr) (cR : Nat) (rV : Nat → Option Addr) (rcV : Nat → Nat) (hL : LisIn w w.heap.size AR L rV rcV) (hsl : L.length ≤ 1000 ∧ ∀ k, k < L.length → (gL L k).length ≤ 1000) (many : Int) :
    Calls Try.prog 27 #[.agg #[.slice Ar t.rates.length cr, .slice Ah t.hours.length ch, .int .i64 t.limit, .int .i64 t.most], .slice AR L.length cR, .int .i64 many] w fun e w' => e = .returned (.bool (proveR t L many)) ∧ Below w.heap.size w w' := by
  obtain ⟨nL, hnL⟩ : ∃ n, L.length = n := ⟨_, rfl⟩
  have hout := hL.out
  have hrow := hL.row
  rw [hnL] at hout hrow hsl ⊢
  have HNL := Lib.hid hnL
  clear hnL hL
  have hb1 := ex_alloc (Below.refl w.heap.size w) (.cells #[.slice Ar t.rates.length cr, .slice Ah t.hours.length ch, .int .i64 t.limit, .int .i64 t.most] 59)
  have q0 : Blk (w.alloc (.cells #[.slice Ar t.rates.length cr, .slice Ah t.hours.length ch, .int .i64 t.limit, .int .i64 t.most] 59)) w.heap.size 59 #[.slice Ar t.rates.length cr, .slice Ah t.hours.length ch, .int .i64 t.limit, .int .i64 t.most] := Blk.new _ _ _
  have ht1 := htm.go hb1
  go_enter Try.func27, Try.ntmps27
  go_upto_region 1 with fail
  obtain ⟨p0, hp0⟩ : ∃ p, w.heap.size = p := ⟨_, rfl⟩
  rw [hp0] at q0 ⊢
  have HP0 := Lib.hid hp0
  generalize w.alloc (.cells #[.slice Ar t.rates.length cr, .slice Ah t.hours.length ch, .int .i64 t.limit, .int .i64 t.most] 59) = W1 at *
  clear hp0
  have a0 : W1.cell? ⟨p0, 0, none⟩ = some (.slice Ar t.rates.length cr) := q0.cell 0
  have a1 : W1.cell? ⟨p0, 1, none⟩ = some (.slice Ah t.hours.length ch) := q0.cell 1
  have a2 : W1.cell? ⟨p0, 2, none⟩ = some (.int .i64 t.limit) := q0.cell 2
  have a3 : W1.cell? ⟨p0, 3, none⟩ = some (.int .i64 t.most) := q0.cell 3
  have la := q0.lt
  go_wp2_with fail
  refine (checkTm_any t Ar Ah cr ch W1 ht1 hsm).mono ?_
  rintro e W2 ⟨rfl, h2⟩
  have B2 := ex_trans hb1 h2
  have q02 := q0.below h2 q0.lt
  have ht2 := ht1.go h2
  clear a0 a1 a2 a3 la
  have a0 : W2.cell? ⟨p0, 0, none⟩ = some (.slice Ar t.rates.length cr) := q02.cell 0
  have a1 : W2.cell? ⟨p0, 1, none⟩ = some (.slice Ah t.hours.length ch) := q02.cell 1
  have a2 : W2.cell? ⟨p0, 2, none⟩ = some (.int .i64 t.limit) := q02.cell 2
  have a3 : W2.cell? ⟨p0, 3, none⟩ = some (.int .i64 t.most) := q02.cell 3
  have la := q02.lt
  by_cases hc : ckTm t = 0
  · have ht := ckTm_iff.1 hc
    have HC := Lib.hid hc
    rw [hc]
    clear hc
    have hl3 : 1 ≤ t.rates.length ∧ t.rates.length ≤ 3 := by have := ht.len; omega
    have HHL := Lib.hid ht.len.2.2
    by_cases hm : (nL : Int) ≤ many
    · have hm2 : ¬ many < (nL : Int) := by omega
      by_cases h6 : nL ≤ 6
      · have h62 : ¬ (6 : Int) < (nL : Int) := by omega
        have X3 := ex_alloc (Below.refl W2.heap.size W2) (.cells #[.int .i64 0, .int .i64 0, .int .i64 0] 136)
        have q7 : Blk (W2.alloc (.cells #[.int .i64 0, .int .i64 0, .int .i64 0] 136)) W2.heap.size 136 (v3C (doneV t L 0)) := Blk.new _ _ _
        have q03 := q02.below X3 q02.lt
        have ht3 := ht2.go X3
        have B3 := ex_trans B2 X3
        go_upto_region 4 with fail
        obtain ⟨p7, hp7⟩ : ∃ p, W2.heap.size = p := ⟨_, rfl⟩
        rw [hp7] at q7 ⊢
        have hp07 : p0 < p7 := by have := q02.lt; omega
        generalize W2.alloc (.cells #[.int .i64 0, .int .i64 0, .int .i64 0] 136) = W3 at *
        clear hp7
        clear a0 a1 a2 a3 la
        go_wp2_with fail
        refine wp_loop (fun a W => Rel (fun a W => ∃ k : Nat, k ≤ nL ∧ Hid (∀ i, i < k → rowR t (gL L i) = true) ∧ Blk W p0 59 #[.slice Ar t.rates.length cr, .slice Ah t.hours.length ch, .int .i64 t.limit, .int .i64 t.most] ∧ Blk W p7 136 (v3C (doneV t L k)) ∧ (∀ i, i < 3 → 0 ≤ (doneV t L k).get i ∧ (doneV t L k).get i ≤ 8 * k) ∧ Below w.heap.size w W ∧ ∃ u : Nat → Value, a = ⟨List.toArray (u 0 :: .slice AR nL cR :: .int .i64 many :: .pointer (some ⟨p0, 0, none⟩) :: u 4 :: u 5 :: .bool false :: .pointer (some ⟨p7, 0, none⟩) :: u 8 :: u 9 :: u 10 :: u 11 :: u 12 :: u 13 :: u 14 :: u 15 :: u 16 :: u 17 :: u 18 :: u 19 :: u 20 :: u 21 :: u 22 :: u 23 :: u 24 :: u 25 :: u 26 :: .slice AR nL cR :: .int .i64 (nL : Int) :: .int .i64 (k : Int) :: u 30 :: u 31 :: u 32 :: u 33 :: u 34 :: u 35 :: u 36 :: u 37 :: u 38 :: u 39 :: u 40 :: u 41 :: u 42 :: u 43 :: u 44 :: u 45 :: u 46 :: u 47 :: u 48 :: u 49 :: u 50 :: u 51 :: u 52 :: u 53 :: u 54 :: u 55 :: u 56 :: u 57 :: u 58 :: u 59 :: u 60 :: u 61 :: u 62 :: u 63 :: u 64 :: u 65 :: u 66 :: u 67 :: u 68 :: u 69 :: u 70 :: u 71 :: u 72 :: []), []⟩) a W) (fun a _ => nL - (intOf (a.tmps.getD 29 undef)).toNat) ⟨⟨0, by omega, Lib.hid (fun i hi => by omega), q03, q7, fun i _ => by rw [show doneV t L 0 = z3 from rfl, z3_get]; simp, B3, exFrame (by kernel_rfl)⟩⟩ ?_
        clear q03 q7 B3 ht3 X3
        rintro a W ⟨⟨k, hk, HK, q0, q7, hdn, Bw, u, rfl⟩⟩
        have a0 : W.cell? ⟨p0, 0, none⟩ = some (.slice Ar t.rates.length cr) := q0.cell 0
        have a1 : W.cell? ⟨p0, 1, none⟩ = some (.slice Ah t.hours.length ch) := q0.cell 1
        have a2 : W.cell? ⟨p0, 2, none⟩ = some (.int .i64 t.limit) := q0.cell 2
        have a3 : W.cell? ⟨p0, 3, none⟩ = some (.int .i64 t.most) := q0.cell 3
        have la := q0.lt
        by_cases hlt : k < nL
        · obtain ⟨bR, oR, rfl, hbR, x0⟩ := (hout.below Bw) (by omega)
          have x1 : W.cell? ⟨bR, oR + k, none⟩ = some (.slice (rV k) (gL L k).length (rcV k)) := by have := x0 k 0 hlt (by omega); rw [show oR + (k * 1 + 0) = oR + k by omega] at this; exact this
          have hrw := hrow k hlt
          have hrl := hsl.2 k hlt
          obtain ⟨l, hl⟩ : ∃ l, gL L k = l := ⟨_, rfl⟩
          rw [hl] at x1 hrw hrl
          have HL := Lib.hid hl
          clear x0 hl
          obtain ⟨nl, hnl⟩ : ∃ n, l.length = n := ⟨_, rfl⟩
          rw [hnl] at x1 hrw hrl
          have HNl := Lib.hid hnl
          clear hnl
          obtain ⟨rv, hrv⟩ : ∃ x, rV k = x := ⟨_, rfl⟩
          rw [hrv] at x1 hrw
          obtain ⟨rc, hrc⟩ : ∃ x, rcV k = x := ⟨_, rfl⟩
          rw [hrc] at x1
          clear hrv hrc
          have hbRW : bR < W.heap.size := by have := Bw.size; omega
          have hkn : (k : Int) < (nL : Int) := by omega
          by_cases hlen : nl = t.rates.length
          · subst hlen
            have hrW := (hrw.below Bw).up Bw.size
            go_wp2_with fail
            refine (all_most t Ar Ah cr ch p0 t.rates.length l rv rc W q0 hrW (by omega)).mono ?_
            rintro e W4 ⟨rfl, h4⟩
            have Bw4 := ex_trans Bw h4
            have q04 := q0.below h4 q0.lt
            have q74 := q7.below h4 q7.lt
            have hrW4 := (hrW.below h4).up h4.size
            clear a0 a1 a2 a3 la
            clear x1
            cases hA : allTo (fun i => inB (gI l i) 0 t.most) t.rates.length
            · have HA := Lib.hid hA
              clear hA
              have HF : Hid (proveR t L many = false) := Lib.hid (by unfold proveR; rw [HNL.out, allTo_false hlt (f := fun k => rowR t (gL L k)) (by rw [HL.out]; unfold rowR; rw [HNl.out]; rw [HA.out]; simp)]; simp)
              go_wp2
              go_ret
              exact ⟨by rw [HF.out]; rfl, Bw4⟩
            · have HA := Lib.hid hA
              clear hA
              have X5 := ex_alloc (Below.refl W4.heap.size W4) (.cells #[.int .i64 0, .int .i64 0, .int .i64 0] 136)
              have q11 : Blk (W4.alloc (.cells #[.int .i64 0, .int .i64 0, .int .i64 0] 136)) W4.heap.size 136 #[.int .i64 0, .int .i64 0, .int .i64 0] := Blk.new _ _ _
              have q05 := q04.below X5 q04.lt
              have q75 := q74.below X5 q74.lt
              have hrW5 := (hrW4.below X5).up X5.size
              have Bw5 := ex_trans Bw4 X5
              go_upto_region 11 with fail
              obtain ⟨p11, hp11⟩ : ∃ p, W4.heap.size = p := ⟨_, rfl⟩
              rw [hp11] at q11 ⊢
              have hp711 : p7 < p11 := by have := q74.lt; omega
              generalize W4.alloc (.cells #[.int .i64 0, .int .i64 0, .int .i64 0] 136) = W5 at *
              clear hp11
              have l11 := q11.lt
              obtain ⟨W6, hcp, q116, fr6⟩ := copy_left (c := rc) q11 hrW5 hl3.1 hl3.2
              have hcp2 := hcp 0
              have hcp3 := hcp 3
              clear hcp
              have q06 := q05.fr fr6 (by omega)
              have q76 := q75.fr fr6 (by omega)
              have Bw6 := fr6.toBelow Bw5 Bw5.size (fun x hx => by have := HP0.out; omega)
              go_upto_region 12 with fail
              clear hcp2 hcp3
              obtain ⟨v, hv⟩ : ∃ v, layV l t.rates.length = v := ⟨_, rfl⟩
              have hvb : HrBd v := fun i hi => by
                rw [← hv, layV_get _ _ hi]
                split
                · rename_i h; have a := inB_iff.1 (allTo_iff.1 HA.out i h); have b := ht.most; omega
                · omega
              rw [hv] at q116
              have HV := Lib.hid hv
              clear hv
              have a0 : W6.cell? ⟨p0, 0, none⟩ = some (.slice Ar t.rates.length cr) := q06.cell 0
              have a1 : W6.cell? ⟨p0, 1, none⟩ = some (.slice Ah t.hours.length ch) := q06.cell 1
              have a2 : W6.cell? ⟨p0, 2, none⟩ = some (.int .i64 t.limit) := q06.cell 2
              have a3 : W6.cell? ⟨p0, 3, none⟩ = some (.int .i64 t.most) := q06.cell 3
              have la := q06.lt
              have c0 : W6.cell? ⟨p11, 0, none⟩ = some (.int .i64 v.a) := q116.cell 0
              have c1 : W6.cell? ⟨p11, 1, none⟩ = some (.int .i64 v.b) := q116.cell 1
              have c2 : W6.cell? ⟨p11, 2, none⟩ = some (.int .i64 v.c) := q116.cell 2
              have lc := q116.lt
              have hmy := may_team t Ar Ah cr ch W6 ⟨(htm.rates.below Bw6).up Bw6.size, (htm.hours.below Bw6).up Bw6.size⟩ ht v hvb
              unfold v3C at hmy
              go_wp2_with fail
              refine hmy.mono ?_
              clear hmy
              rintro e W7 ⟨rfl, h7⟩
              have Bw7 := ex_trans Bw6 h7
              have q07 := q06.below h7 q06.lt
              have q77 := q76.below h7 q76.lt
              have q117 := q116.below h7 q116.lt
              clear a0 a1 a2 a3 la
              clear c0 c1 c2 lc
              cases hM : mayB t v
              · have HM := Lib.hid hM
                clear hM
                have HF : Hid (proveR t L many = false) := Lib.hid (by unfold proveR; rw [HNL.out, allTo_false hlt (f := fun k => rowR t (gL L k)) (by rw [HL.out]; unfold rowR; rw [HNl.out]; rw [HV.out, HM.out]; simp)]; simp)
                go_wp2
                go_ret
                exact ⟨by rw [HF.out]; rfl, Bw7⟩
              · have HM := Lib.hid hM
                clear hM
                have HR : Hid (rowR t (gL L k) = true) := Lib.hid (by rw [HL.out]; unfold rowR; rw [HNl.out, HA.out, HV.out, HM.out]; simp)
                have hat := addTo_all t L k
                rw [HL.out, HV.out] at hat
                have HAT := Lib.hid hat
                have hdn2 : ∀ i, i < 3 → 0 ≤ (doneV t L (k + 1)).get i ∧ (doneV t L (k + 1)).get i ≤ 8 * ((k + 1 : Nat) : Int) := fun i hi => by
                  have a := hdn i hi
                  have b := hvb i hi
                  rw [doneV_get, HL.out, HV.out]
                  omega
                clear hat
                obtain ⟨dv, hdv⟩ : ∃ d, doneV t L k = d := ⟨_, rfl⟩
                rw [hdv] at q77 hdn HAT
                clear hdv
                go_wp2_with fail
                refine wp_loop (fun a Z => Rel (fun a Z => ∃ j : Nat, j ≤ 3 ∧ Blk Z p7 136 (v3C (addTo dv v j)) ∧ Fr (fun b => b = p7) W7 Z ∧ ∃ u : Nat → Value, a = ⟨List.toArray (u 0 :: .slice (some ⟨bR, oR, none⟩) nL cR :: .int .i64 many :: .pointer (some ⟨p0, 0, none⟩) :: u 4 :: u 5 :: .bool false :: .pointer (some ⟨p7, 0, none⟩) :: u 8 :: u 9 :: u 10 :: .pointer (some ⟨p11, 0, none⟩) :: u 12 :: u 13 :: u 14 :: u 15 :: u 16 :: u 17 :: u 18 :: u 19 :: u 20 :: u 21 :: u 22 :: u 23 :: u 24 :: u 25 :: u 26 :: .slice (some ⟨bR, oR, none⟩) nL cR :: .int .i64 (nL : Int) :: .int .i64 (k : Int) :: u 30 :: u 31 :: u 32 :: u 33 :: u 34 :: u 35 :: u 36 :: u 37 :: u 38 :: u 39 :: u 40 :: u 41 :: u 42 :: u 43 :: u 44 :: u 45 :: u 46 :: u 47 :: u 48 :: u 49 :: u 50 :: u 51 :: u 52 :: .int .i64 (j : Int) :: u 54 :: u 55 :: u 56 :: u 57 :: u 58 :: u 59 :: u 60 :: u 61 :: u 62 :: u 63 :: u 64 :: u 65 :: u 66 :: u 67 :: u 68 :: u 69 :: u 70 :: u 71 :: u 72 :: []), []⟩) a Z) (fun a _ => 3 - (intOf (a.tmps.getD 53 undef)).toNat) ⟨⟨0, by omega, q77, Fr.refl _ _, exFrame (by kernel_rfl)⟩⟩ ?_
                rintro a Z ⟨⟨j, hj, s7, frz, u2, rfl⟩⟩
                by_cases hlj : j < 3
                · have s11 := q117.fr frz (by omega)
                  have v1 := s7.cell j
                  rw [v3_at _ hlj, addTo_get dv v j hj, if_neg (by omega)] at v1
                  have v2 : Z.cell? ⟨p11, j, none⟩ = _ := (s11.cell j).trans (v3_at v hlj)
                  have hjl := hdn j hlj
                  have hjd := hvb j hlj
                  have hs := s7.set_ j (.int .i64 (dv.get j + v.get j))
                  rw [v3_set _ hlj] at hs
                  have hs' : (addTo dv v j).set j (dv.get j + v.get j) = addTo dv v (j + 1) := rfl
                  rw [hs'] at hs
                  clear hs'
                  obtain ⟨lj, hlj2⟩ : ∃ x, dv.get j = x := ⟨_, rfl⟩
                  obtain ⟨dj, hdj2⟩ : ∃ x, v.get j = x := ⟨_, rfl⟩
                  rw [hlj2] at v1 hjl hs
                  rw [hdj2] at v2 hjd hs
                  clear hlj2 hdj2
                  have l12 := s7.lt
                  have l11 := s11.lt
                  have f12 := s7.frozen0
                  have hj33 : (j : Int) < 3 := by omega
                  have hk6 : (k : Int) ≤ 6 := by omega
                  have DD := (Below.refl Z.heap.size Z).drew
                  go_upto_region 17 with fail
                  refine wp_region_ext_mix 8 [(false, 0), (false, 1), (false, 2), (false, 3), (false, 4), (false, 5), (false, 6), (false, 7)] (by kernel_rfl) (by kernel_rfl) (by intro d _ _ _ _ h; cases d <;> exact h) ?_
                  repeat (refine mix_quiet rfl ?_; go_big_quiet_step (fail); refine wpQuiet_nil ?_)
                  refine mix_nil (r := [_]) rfl ?_
                  have hs2 : Blk (Z.drew.setCell ⟨p7, j, none⟩ (.int .i64 (lj + dj))) p7 136 (v3C (addTo dv v (j + 1))) := hs
                  have frz2 : Fr (fun b => b = p7) W7 (Z.drew.setCell ⟨p7, j, none⟩ (.int .i64 (lj + dj))) := (frz.trans (Fr.below (R := fun b => b = p7) DD) (fun _ _ h => h)).trans (Fr.set (R := fun b => b = p7) _ _ _ _ rfl) (fun _ _ h => h)
                  go_wp2_with fail
                  refine ⟨⟨⟨j + 1, by omega, hs2, frz2, exFrame (by kernel_rfl)⟩⟩, ?_⟩
                  show 3 - (intOf (.int .i64 ((j : Int) + 1))).toNat < 3 - (intOf (.int .i64 (j : Int))).toNat
                  simp [intOf]
                  omega
                · obtain rfl : j = 3 := by omega
                  rw [HAT.out] at s7
                  have q0z := q07.fr frz (by omega)
                  have Bz := frz.toBelow Bw7 Bw7.size (fun x hx => by have := HP0.out; omega)
                  have HK2 : Hid (∀ i, i < k + 1 → rowR t (gL L i) = true) := Lib.hid (fun i hi => by
                    rcases Nat.lt_succ_iff_lt_or_eq.1 hi with h | h
                    · exact HK.out i h
                    · subst h; exact HR.out)
                  go_wp2_with fail
                  refine ⟨⟨⟨k + 1, by omega, HK2, q0z, s7, hdn2, Bz, exFrame (by kernel_rfl)⟩⟩, ?_⟩
                  show nL - (intOf (.int .i64 ((k : Int) + 1))).toNat < nL - (intOf (.int .i64 (k : Int))).toNat
                  simp [intOf]
                  omega
          · have hne : ((nl : Int) != (t.rates.length : Int)) = true := by rw [bne_iff_ne]; omega
            have HF : Hid (proveR t L many = false) := Lib.hid (by unfold proveR; rw [HNL.out, allTo_false hlt (f := fun k => rowR t (gL L k)) (by rw [HL.out]; unfold rowR; rw [HNl.out]; simp [hlen])]; simp)
            go_wp2
            go_ret
            exact ⟨by rw [HF.out]; rfl, Bw⟩
        · have hkn : k = nL := by omega
          have HDN : Hid (doneV t L nL = doneV t L k) := Lib.hid (by rw [hkn])
          have HKA : Hid (allTo (fun k => rowR t (gL L k)) nL = true) := Lib.hid (allTo_iff.2 (fun i hi => HK.out i (by omega)))
          have hkn2 : ¬ (k : Int) < (nL : Int) := by omega
          clear hkn hlt
          obtain ⟨dv, hdv⟩ : ∃ d, doneV t L k = d := ⟨_, rfl⟩
          rw [hdv] at q7 hdn HDN
          clear hdv
          have l7 := q7.lt
          have hn3 : ((t.rates.length : Nat) : Int) ≤ 3 := by omega
          have DD := (Below.refl W.heap.size W).drew
          go_upto_region 20 with fail
          refine wp_region_ext_mix 7 [(false, 0), (false, 1), (false, 2), (false, 3), (false, 4), (false, 5), (true, 6)] (by kernel_rfl) (by kernel_rfl) (by intro d _ _ _ _ h; cases d <;> exact h) ?_
          repeat (refine mix_quiet rfl ?_; go_big_quiet_step (fail); refine wpQuiet_nil ?_)
          refine mix_loud rfl ?_
          go_wp2_with fail
          have hq7 := q7.below DD l7
          refine (equal_any (some ⟨p7, 0, none⟩) Ah 3 ch t.rates.length t.hours.length (fun i => dv.get i) (fun i => gI t.hours i) W.drew (fun _ => ⟨p7, 0, rfl, hq7.lt, fun i j hi hj => by
            obtain rfl : j = 0 := by omega
            rw [show 0 + (i * 1 + 0) = i by omega, hq7.cell, v3_at dv (by omega)]⟩) ((htm.hours.below (ex_trans Bw DD)).up (ex_trans Bw DD).size) (by omega) (by omega)).mono ?_
          rintro e Z ⟨rfl, hz⟩
          have EZ := ex_trans DD hz
          have HF : Hid (proveR t L many = (decide (t.rates.length = t.hours.length) && allTo (fun i => decide (dv.get i = gI t.hours i)) t.rates.length)) := Lib.hid (by unfold proveR; rw [HNL.out, HC.out, HKA.out, HDN.out]; simp [hm, h6])
          go_wp2_with fail
          refine ⟨inEx EZ, ?_⟩
          repeat (refine mix_quiet rfl ?_; go_big_quiet_step (fail); refine wpQuiet_nil ?_)
          refine mix_nil (r := [_]) rfl ?_
          go_wp2
          go_ret
          exact ⟨by rw [HF.out]; rfl, ex_trans Bw EZ⟩
      · have h62 : (6 : Int) < (nL : Int) := by omega
        have HF : Hid (proveR t L many = false) := Lib.hid (by unfold proveR; rw [HNL.out]; simp [h6])
        go_wp2
        go_ret
        exact ⟨by rw [HF.out]; rfl, B2⟩
    · have hm2 : many < (nL : Int) := by omega
      have HF : Hid (proveR t L many = false) := Lib.hid (by unfold proveR; rw [HNL.out]; simp [hm])
      go_wp2
      go_ret
      exact ⟨by rw [HF.out]; rfl, B2⟩
  · have hne : (ckTm t != 0) = true := bne_iff_ne.2 hc
    have HF : Hid (proveR t L many = false) := Lib.hid (by unfold proveR; simp [hc])
    go_wp2
    go_ret
    exact ⟨by rw [HF.out]; rfl, B2⟩
end Go.Proofs.Ythihdiilokdidaa
end

section
namespace Go.Proofs.Ythihdiilokdidaa
open Go.RowKit
attribute [local go_sem] Ex.cell? Ex.frozen?

set_option maxRecDepth 100000 in
set_option maxHeartbeats 1600000 in
theorem between_any (lo hi : Int) (w : World) :
    Calls Try.prog 49 #[.int .i64 lo, .int .i64 hi] w fun e w' => e = .returned (.agg #[.int .i64 lo, .int .i64 hi]) ∧ Below w.heap.size w w' := by
  have hb1 := ex_alloc (Below.refl w.heap.size w) (.cells #[.int .i64 0, .int .i64 0] 50)
  have q : Blk (w.alloc (.cells #[.int .i64 0, .int .i64 0] 50)) w.heap.size 50 #[.int .i64 0, .int .i64 0] := Blk.new _ _ _
  have q2 := (q.set_ 0 (.int .i64 lo)).set_ 1 (.int .i64 hi)
  simp only [List.setIfInBounds_toArray, List.set_cons_zero, List.set_cons_succ] at q2
  have c0 := q.cell 0
  have c1 := q.cell 1
  have l := q.lt
  have f := q.frozen0
  simp only [List.getElem?_toArray, List.getElem?_cons_zero, List.getElem?_cons_succ] at c0 c1
  have hb3 := ex_set (ex_set hb1 (p := ⟨w.heap.size, 0, none⟩) (Nat.le_refl _) (.int .i64 lo)) (p := ⟨w.heap.size, 1, none⟩) (Nat.le_refl _) (.int .i64 hi)
  go_enter Try.func49, Try.ntmps49
  go_upto_region 1 with fail
  generalize w.alloc (.cells #[.int .i64 0, .int .i64 0] 50) = W at *
  go_wp2_with fail
  refine bodyPost_ret (results_cell_row rfl _ _ w.heap.size 50 _ (0, 0) _ rfl q2 rfl rfl rfl) rfl ?_
  exact ⟨rfl, hb3⟩
def cellS (lo hi : Int) : Ws := ⟨[⟨⟨100, 100⟩, ⟨1, 2⟩⟩, ⟨⟨0, 5⟩, ⟨0, 1⟩⟩], 3, [⟨0, 0, 1, ⟨40, 45⟩⟩, ⟨1, 1, -1, ⟨20, 20⟩⟩, ⟨2, 0, 1, ⟨0, 10⟩⟩], [⟨1, 1, ⟨lo, hi⟩⟩]⟩
theorem blk_sl {W : World} {g n sz : Nat} {t : TypeId} {cs : Array Value} {f : Nat → Nat → Value} (h : Blk W g t cs) (hc : ∀ k j, k < n → j < sz → cs[k * sz + j]? = some (f k j)) : SlAt W W.heap.size sz (some ⟨g, 0, none⟩) n f :=
  fun _ => ⟨g, 0, rfl, h.lt, fun k j hk hj => by rw [Nat.zero_add, h.cell]; exact hc k j hk hj⟩
set_option maxRecDepth 100000 in
set_option maxHeartbeats 3200000 in
theorem cellar_any (lo hi : Int) (w : World) :
    Calls Try.prog 58 #[.int .i64 lo, .int .i64 hi] w fun e w' => (∃ Ar Am Aw cr cm cw, e = .returned (.agg #[.slice Ar 2 cr, .int .i64 3, .slice Am 3 cm, .slice Aw 1 cw]) ∧ WsIn w' w'.heap.size (cellS lo hi) Ar Am Aw) ∧ Below w.heap.size w w' := by
  have N0 := ex_alloc (Below.refl w.heap.size w) (.cells #[.slice none 0 0, .int .i64 0, .slice none 0 0, .slice none 0 0] 42)
  have q4 : Blk (w.alloc (.cells #[.slice none 0 0, .int .i64 0, .slice none 0 0, .slice none 0 0] 42)) w.heap.size 42 #[.slice none 0 0, .int .i64 0, .slice none 0 0, .slice none 0 0] := Blk.new _ _ _
  go_enter Try.func58, Try.ntmps58
  go_upto_region 1 with fail
  obtain ⟨p4, hp4⟩ : ∃ p, w.heap.size = p := ⟨_, rfl⟩
  have HP4 := Lib.hid hp4
  rw [hp4] at q4 ⊢
  generalize w.alloc (.cells #[.slice none 0 0, .int .i64 0, .slice none 0 0, .slice none 0 0] 42) = W0 at *
  clear hp4
  go_wp2_with fail
  refine (between_any 100 100 W0).mono ?_
  rintro e W1 ⟨rfl, hW1⟩
  replace q4 := q4.below hW1 q4.lt
  have B_W1 := ex_trans N0 hW1
  go_wp2_with fail
  refine (between_any 1 2 W1).mono ?_
  rintro e W2 ⟨rfl, hW2⟩
  replace q4 := q4.below hW2 q4.lt
  have B_W2 := ex_trans B_W1 hW2
  go_wp2_with fail
  refine (between_any 0 5 W2).mono ?_
  rintro e W3 ⟨rfl, hW3⟩
  replace q4 := q4.below hW3 q4.lt
  have B_W3 := ex_trans B_W2 hW3
  go_wp2_with fail
  refine (between_any 0 1 W3).mono ?_
  rintro e W4 ⟨rfl, hW4⟩
  replace q4 := q4.below hW4 q4.lt
  have B_W4 := ex_trans B_W3 hW4
  have N_W5 := ex_alloc (Below.refl W4.heap.size W4) (.cells #[.int .i64 100, .int .i64 100, .int .i64 1, .int .i64 2, .int .i64 0, .int .i64 5, .int .i64 0, .int .i64 1] 126)
  have qr : Blk (W4.alloc (.cells #[.int .i64 100, .int .i64 100, .int .i64 1, .int .i64 2, .int .i64 0, .int .i64 5, .int .i64 0, .int .i64 1] 126)) W4.heap.size 126 #[.int .i64 100, .int .i64 100, .int .i64 1, .int .i64 2, .int .i64 0, .int .i64 5, .int .i64 0, .int .i64 1] := Blk.new _ _ _
  replace q4 := q4.below N_W5 q4.lt
  have B_W5 := ex_trans B_W4 N_W5
  go_wp2_with fail
  obtain ⟨gqr, hgqr⟩ : ∃ p, W4.heap.size = p := ⟨_, rfl⟩
  rw [hgqr] at qr ⊢
  generalize W4.alloc (.cells #[.int .i64 100, .int .i64 100, .int .i64 1, .int .i64 2, .int .i64 0, .int .i64 5, .int .i64 0, .int .i64 1] 126) = W5 at *
  clear hgqr N_W5
  refine (between_any 40 45 W5).mono ?_
  rintro e W6 ⟨rfl, hW6⟩
  replace q4 := q4.below hW6 q4.lt
  replace qr := qr.below hW6 qr.lt
  have B_W6 := ex_trans B_W5 hW6
  go_wp2_with fail
  refine (between_any 20 20 W6).mono ?_
  rintro e W7 ⟨rfl, hW7⟩
  replace q4 := q4.below hW7 q4.lt
  replace qr := qr.below hW7 qr.lt
  have B_W7 := ex_trans B_W6 hW7
  go_wp2_with fail
  refine (between_any 0 10 W7).mono ?_
  rintro e W8 ⟨rfl, hW8⟩
  replace q4 := q4.below hW8 q4.lt
  replace qr := qr.below hW8 qr.lt
  have B_W8 := ex_trans B_W7 hW8
  have N_W9 := ex_alloc (Below.refl W8.heap.size W8) (.cells #[.int .i64 0, .int .i64 0, .int .i64 1, .int .i64 40, .int .i64 45, .int .i64 1, .int .i64 1, .int .i64 (-1), .int .i64 20, .int .i64 20, .int .i64 2, .int .i64 0, .int .i64 1, .int .i64 0, .int .i64 10] 122)
  have qm : Blk (W8.alloc (.cells #[.int .i64 0, .int .i64 0, .int .i64 1, .int .i64 40, .int .i64 45, .int .i64 1, .int .i64 1, .int .i64 (-1), .int .i64 20, .int .i64 20, .int .i64 2, .int .i64 0, .int .i64 1, .int .i64 0, .int .i64 10] 122)) W8.heap.size 122 #[.int .i64 0, .int .i64 0, .int .i64 1, .int .i64 40, .int .i64 45, .int .i64 1, .int .i64 1, .int .i64 (-1), .int .i64 20, .int .i64 20, .int .i64 2, .int .i64 0, .int .i64 1, .int .i64 0, .int .i64 10] := Blk.new _ _ _
  replace q4 := q4.below N_W9 q4.lt
  replace qr := qr.below N_W9 qr.lt
  have B_W9 := ex_trans B_W8 N_W9
  go_wp2_with fail
  obtain ⟨gqm, hgqm⟩ : ∃ p, W8.heap.size = p := ⟨_, rfl⟩
  rw [hgqm] at qm ⊢
  generalize W8.alloc (.cells #[.int .i64 0, .int .i64 0, .int .i64 1, .int .i64 40, .int .i64 45, .int .i64 1, .int .i64 1, .int .i64 (-1), .int .i64 20, .int .i64 20, .int .i64 2, .int .i64 0, .int .i64 1, .int .i64 0, .int .i64 10] 122) = W9 at *
  clear hgqm N_W9
  refine (between_any lo hi W9).mono ?_
  rintro e W10 ⟨rfl, hW10⟩
  replace q4 := q4.below hW10 q4.lt
  replace qr := qr.below hW10 qr.lt
  replace qm := qm.below hW10 qm.lt
  have B_W10 := ex_trans B_W9 hW10
  have N_W11 := ex_alloc (Below.refl W10.heap.size W10) (.cells #[.int .i64 1, .int .i64 1, .int .i64 lo, .int .i64 hi] 128)
  have qw : Blk (W10.alloc (.cells #[.int .i64 1, .int .i64 1, .int .i64 lo, .int .i64 hi] 128)) W10.heap.size 128 #[.int .i64 1, .int .i64 1, .int .i64 lo, .int .i64 hi] := Blk.new _ _ _
  replace q4 := q4.below N_W11 q4.lt
  replace qr := qr.below N_W11 qr.lt
  replace qm := qm.below N_W11 qm.lt
  have B_W11 := ex_trans B_W10 N_W11
  have c0 : (W10.alloc (.cells #[.int .i64 1, .int .i64 1, .int .i64 lo, .int .i64 hi] 128)).cell? ⟨p4, 0, none⟩ = some (.slice none 0 0) := q4.cell 0
  have c1 : (W10.alloc (.cells #[.int .i64 1, .int .i64 1, .int .i64 lo, .int .i64 hi] 128)).cell? ⟨p4, 1, none⟩ = some (.int .i64 0) := q4.cell 1
  have c2 : (W10.alloc (.cells #[.int .i64 1, .int .i64 1, .int .i64 lo, .int .i64 hi] 128)).cell? ⟨p4, 2, none⟩ = some (.slice none 0 0) := q4.cell 2
  have c3 : (W10.alloc (.cells #[.int .i64 1, .int .i64 1, .int .i64 lo, .int .i64 hi] 128)).cell? ⟨p4, 3, none⟩ = some (.slice none 0 0) := q4.cell 3
  have l4 := q4.lt
  have f4 := q4.frozen0
  have qz := (((q4.set_ 0 (.slice (some ⟨gqr, 0, none⟩) 2 2)).set_ 1 (.int .i64 3)).set_ 2 (.slice (some ⟨gqm, 0, none⟩) 3 3)).set_ 3 (.slice (some ⟨W10.heap.size, 0, none⟩) 1 1)
  simp only [List.setIfInBounds_toArray, List.set_cons_zero, List.set_cons_succ] at qz
  have frz : Fr (fun b => b = p4) (W10.alloc (.cells #[.int .i64 1, .int .i64 1, .int .i64 lo, .int .i64 hi] 128)) (((((W10.alloc (.cells #[.int .i64 1, .int .i64 1, .int .i64 lo, .int .i64 hi] 128)).setCell ⟨p4, 0, none⟩ (.slice (some ⟨gqr, 0, none⟩) 2 2)).setCell ⟨p4, 1, none⟩ (.int .i64 3)).setCell ⟨p4, 2, none⟩ (.slice (some ⟨gqm, 0, none⟩) 3 3)).setCell ⟨p4, 3, none⟩ (.slice (some ⟨W10.heap.size, 0, none⟩) 1 1)) := (((Fr.set (R := fun b => b = p4) _ _ _ _ rfl).trans (Fr.set (R := fun b => b = p4) _ _ _ _ rfl) (fun _ _ h => h)).trans (Fr.set (R := fun b => b = p4) _ _ _ _ rfl) (fun _ _ h => h)).trans (Fr.set (R := fun b => b = p4) _ _ _ _ rfl) (fun _ _ h => h)
  have Bz := frz.toBelow B_W11 B_W11.size (fun x hx => by have := HP4.out; omega)
  have rr := qr.fr frz (fun e => blk_ne qr q4 (by decide) e)
  have rm := qm.fr frz (fun e => blk_ne qm q4 (by decide) e)
  have rw' := qw.fr frz (fun e => blk_ne qw q4 (by decide) e)
  go_wp2_with fail
  refine bodyPost_ret (results_cell_row rfl _ _ p4 42 _ (0, 0) _ rfl qz rfl rfl rfl) rfl ?_
  refine ⟨⟨_, _, _, 2, 3, 1, rfl, blk_sl rr (fun k j hk hj => ?_), blk_sl rm (fun k j hk hj => ?_), blk_sl rw' (fun k j hk hj => ?_)⟩, Bz⟩
  · match k, hk with
    | 0, _ =>
      match j, hj with
      | 0, _ => rfl
      | 1, _ => rfl
      | 2, _ => rfl
      | 3, _ => rfl
    | 1, _ =>
      match j, hj with
      | 0, _ => rfl
      | 1, _ => rfl
      | 2, _ => rfl
      | 3, _ => rfl
  · match k, hk with
    | 0, _ =>
      match j, hj with
      | 0, _ => rfl
      | 1, _ => rfl
      | 2, _ => rfl
      | 3, _ => rfl
      | 4, _ => rfl
    | 1, _ =>
      match j, hj with
      | 0, _ => rfl
      | 1, _ => rfl
      | 2, _ => rfl
      | 3, _ => rfl
      | 4, _ => rfl
    | 2, _ =>
      match j, hj with
      | 0, _ => rfl
      | 1, _ => rfl
      | 2, _ => rfl
      | 3, _ => rfl
      | 4, _ => rfl
  · match k, hk with
    | 0, _ =>
      match j, hj with
      | 0, _ => rfl
      | 1, _ => rfl
      | 2, _ => rfl
      | 3, _ => rfl
def shiftT : Tm := ⟨[⟨3, 5⟩, ⟨8, 10⟩], [4, 3], 30, 5⟩
set_option maxRecDepth 100000 in
set_option maxHeartbeats 3200000 in
theorem shift_any (w : World) :
    Calls Try.prog 59 #[] w fun e w' => (∃ Ar Ah cr ch, e = .returned (.agg #[.slice Ar 2 cr, .slice Ah 2 ch, .int .i64 30, .int .i64 5]) ∧ TmIn w' w'.heap.size shiftT Ar Ah) ∧ Below w.heap.size w w' := by
  have N0 := ex_alloc (Below.refl w.heap.size w) (.cells #[.slice none 0 0, .slice none 0 0, .int .i64 0, .int .i64 0] 59)
  have q4 : Blk (w.alloc (.cells #[.slice none 0 0, .slice none 0 0, .int .i64 0, .int .i64 0] 59)) w.heap.size 59 #[.slice none 0 0, .slice none 0 0, .int .i64 0, .int .i64 0] := Blk.new _ _ _
  go_enter Try.func59, Try.ntmps59
  go_upto_region 1 with fail
  obtain ⟨p4, hp4⟩ : ∃ p, w.heap.size = p := ⟨_, rfl⟩
  have HP4 := Lib.hid hp4
  rw [hp4] at q4 ⊢
  generalize w.alloc (.cells #[.slice none 0 0, .slice none 0 0, .int .i64 0, .int .i64 0] 59) = W0 at *
  clear hp4
  go_wp2_with fail
  refine (between_any 3 5 W0).mono ?_
  rintro e W1 ⟨rfl, hW1⟩
  replace q4 := q4.below hW1 q4.lt
  have B_W1 := ex_trans N0 hW1
  go_wp2_with fail
  refine (between_any 8 10 W1).mono ?_
  rintro e W2 ⟨rfl, hW2⟩
  replace q4 := q4.below hW2 q4.lt
  have B_W2 := ex_trans B_W1 hW2
  have N_W3 := ex_alloc (Below.refl W2.heap.size W2) (.cells #[.int .i64 3, .int .i64 5, .int .i64 8, .int .i64 10] 50)
  have qr : Blk (W2.alloc (.cells #[.int .i64 3, .int .i64 5, .int .i64 8, .int .i64 10] 50)) W2.heap.size 50 #[.int .i64 3, .int .i64 5, .int .i64 8, .int .i64 10] := Blk.new _ _ _
  replace q4 := q4.below N_W3 q4.lt
  have B_W3 := ex_trans B_W2 N_W3
  obtain ⟨gqr, hgqr⟩ : ∃ p, W2.heap.size = p := ⟨_, rfl⟩
  have N_X := ex_alloc (Below.refl (W2.alloc (.cells #[.int .i64 3, .int .i64 5, .int .i64 8, .int .i64 10] 50)).heap.size (W2.alloc (.cells #[.int .i64 3, .int .i64 5, .int .i64 8, .int .i64 10] 50))) (.cells #[.int .i64 4, .int .i64 3] 3)
  have qh : Blk ((W2.alloc (.cells #[.int .i64 3, .int .i64 5, .int .i64 8, .int .i64 10] 50)).alloc (.cells #[.int .i64 4, .int .i64 3] 3)) (W2.alloc (.cells #[.int .i64 3, .int .i64 5, .int .i64 8, .int .i64 10] 50)).heap.size 3 #[.int .i64 4, .int .i64 3] := Blk.new _ _ _
  replace q4 := q4.below N_X q4.lt
  replace qr := qr.below N_X qr.lt
  have B_WX := ex_trans B_W3 N_X
  have hsz : (W2.alloc (.cells #[.int .i64 3, .int .i64 5, .int .i64 8, .int .i64 10] 50)).heap.size = gqr + 1 := by simp [hgqr]
  rw [hgqr] at qr
  rw [hsz] at qh
  have c0 : ((W2.alloc (.cells #[.int .i64 3, .int .i64 5, .int .i64 8, .int .i64 10] 50)).alloc (.cells #[.int .i64 4, .int .i64 3] 3)).cell? ⟨p4, 0, none⟩ = some (.slice none 0 0) := q4.cell 0
  have c1 : ((W2.alloc (.cells #[.int .i64 3, .int .i64 5, .int .i64 8, .int .i64 10] 50)).alloc (.cells #[.int .i64 4, .int .i64 3] 3)).cell? ⟨p4, 1, none⟩ = some (.slice none 0 0) := q4.cell 1
  have c2 : ((W2.alloc (.cells #[.int .i64 3, .int .i64 5, .int .i64 8, .int .i64 10] 50)).alloc (.cells #[.int .i64 4, .int .i64 3] 3)).cell? ⟨p4, 2, none⟩ = some (.int .i64 0) := q4.cell 2
  have c3 : ((W2.alloc (.cells #[.int .i64 3, .int .i64 5, .int .i64 8, .int .i64 10] 50)).alloc (.cells #[.int .i64 4, .int .i64 3] 3)).cell? ⟨p4, 3, none⟩ = some (.int .i64 0) := q4.cell 3
  have l4 := q4.lt
  have f4 := q4.frozen0
  have qz := (((q4.set_ 0 (.slice (some ⟨gqr, 0, none⟩) 2 2)).set_ 1 (.slice (some ⟨gqr + 1, 0, none⟩) 2 2)).set_ 2 (.int .i64 30)).set_ 3 (.int .i64 5)
  simp only [List.setIfInBounds_toArray, List.set_cons_zero, List.set_cons_succ] at qz
  have frz : Fr (fun b => b = p4) ((W2.alloc (.cells #[.int .i64 3, .int .i64 5, .int .i64 8, .int .i64 10] 50)).alloc (.cells #[.int .i64 4, .int .i64 3] 3)) ((((((W2.alloc (.cells #[.int .i64 3, .int .i64 5, .int .i64 8, .int .i64 10] 50)).alloc (.cells #[.int .i64 4, .int .i64 3] 3)).setCell ⟨p4, 0, none⟩ (.slice (some ⟨gqr, 0, none⟩) 2 2)).setCell ⟨p4, 1, none⟩ (.slice (some ⟨gqr + 1, 0, none⟩) 2 2)).setCell ⟨p4, 2, none⟩ (.int .i64 30)).setCell ⟨p4, 3, none⟩ (.int .i64 5)) := (((Fr.set (R := fun b => b = p4) _ _ _ _ rfl).trans (Fr.set (R := fun b => b = p4) _ _ _ _ rfl) (fun _ _ h => h)).trans (Fr.set (R := fun b => b = p4) _ _ _ _ rfl) (fun _ _ h => h)).trans (Fr.set (R := fun b => b = p4) _ _ _ _ rfl) (fun _ _ h => h)
  have Bz := frz.toBelow B_WX B_WX.size (fun x hx => by have := HP4.out; omega)
  have rr := qr.fr frz (fun e => blk_ne qr q4 (by decide) e)
  have rh := qh.fr frz (fun e => blk_ne qh q4 (by decide) e)
  go_wp2_with fail
  refine bodyPost_ret (results_cell_row rfl _ _ p4 59 _ (0, 0) _ rfl qz rfl rfl rfl) rfl ?_
  refine ⟨⟨_, _, 2, 2, rfl, blk_sl rr (fun k j hk hj => ?_), blk_sl rh (fun k j hk hj => ?_)⟩, Bz⟩
  · match k, hk with
    | 0, _ =>
      match j, hj with
      | 0, _ => rfl
      | 1, _ => rfl
    | 1, _ =>
      match j, hj with
      | 0, _ => rfl
      | 1, _ => rfl
  · match k, hk with
    | 0, _ =>
      match j, hj with
      | 0, _ => rfl
    | 1, _ =>
      match j, hj with
      | 0, _ => rfl
set_option maxRecDepth 100000 in
set_option maxHeartbeats 1600000 in
theorem ints_eq (A B : Option Addr) (ca cb n m : Nat) (f g : Nat → Int) (w : World) (hA : SlAt w w.heap.size 1 A n (fun k _ => .int .i64 (f k))) (hB : SlAt w w.heap.size 1 B m (fun k _ => .int .i64 (g k))) (hn : n ≤ 1000000) (hm : m ≤ 1000000) :
    Calls Try.prog 41 #[.slice A n ca, .slice B m cb] w fun e w' => e = .returned (.bool (decide (n = m) && allTo (fun i => decide (f i = g i)) n)) ∧ Below w.heap.size w w' := by
  by_cases h : n = m
  · subst h
    go_enter Try.func41, Try.ntmps41
    go_wp2_with fail
    refine wp_loop (fun a W => Rel (fun a W => ∃ k : Nat, k ≤ n ∧ Below w.heap.size w W ∧ Hid (∀ i, i < k → decide (f i = g i) = true) ∧ ∃ u : Nat → Value, a = ⟨List.toArray (.slice A n ca :: .slice B n cb :: u 2 :: u 3 :: u 4 :: .int .i64 (k : Int) :: u 6 :: u 7 :: u 8 :: u 9 :: u 10 :: u 11 :: u 12 :: u 13 :: u 14 :: u 15 :: u 16 :: u 17 :: u 18 :: u 19 :: u 20 :: u 21 :: u 22 :: u 23 :: u 24 :: u 25 :: []), []⟩) a W) (fun a _ => n - (intOf (a.tmps.getD 5 undef)).toNat) ⟨⟨0, by omega, Below.refl _ _, Lib.hid (fun i hi => by omega), exFrame (by kernel_rfl)⟩⟩ ?_
    rintro a W ⟨⟨k, hk, hb, HK, u, rfl⟩⟩
    by_cases hlt : k < n
    · obtain ⟨b1, o1, rfl, hb1, x1⟩ := (hA.below hb) (by omega)
      obtain ⟨b2, o2, rfl, hb2, x2⟩ := (hB.below hb) (by omega)
      have y1 : W.cell? ⟨b1, o1 + k, none⟩ = some (.int .i64 (f k)) := by have := x1 k 0 hlt (by omega); rw [show o1 + (k * 1 + 0) = o1 + k by omega] at this; exact this
      have y2 : W.cell? ⟨b2, o2 + k, none⟩ = some (.int .i64 (g k)) := by have := x2 k 0 hlt (by omega); rw [show o2 + (k * 1 + 0) = o2 + k by omega] at this; exact this
      clear x1 x2
      have hs := hb.size
      have hb1W : b1 < W.heap.size := by omega
      have hb2W : b2 < W.heap.size := by omega
      have hkn : (k : Int) < (n : Int) := by omega
      have DD := (Below.refl W.heap.size W).drew
      have hb3 := ex_trans hb DD
      obtain ⟨fv, hfv⟩ : ∃ x, f k = x := ⟨_, rfl⟩
      obtain ⟨gv, hgv⟩ : ∃ x, g k = x := ⟨_, rfl⟩
      rw [hfv] at y1
      rw [hgv] at y2
      have HFV := Lib.hid hfv
      have HGV := Lib.hid hgv
      clear hfv hgv
      go_upto_region 6 with fail
      refine wp_region_ext_mix 8 [(false, 0), (false, 1), (false, 2), (false, 3), (false, 4), (false, 5), (false, 6), (false, 7)] (by kernel_rfl) (by kernel_rfl) (by intro d _ _ _ _ h; cases d <;> exact h) ?_
      repeat (refine mix_quiet rfl ?_; go_big_quiet_step (fail); refine wpQuiet_nil ?_)
      refine mix_nil (r := [_]) rfl ?_
      by_cases he : fv = gv
      · have HK2 : Hid (∀ i, i < k + 1 → decide (f i = g i) = true) := Lib.hid (fun i hi => by
          rcases Nat.lt_succ_iff_lt_or_eq.1 hi with h | h
          · exact HK.out i h
          · subst h; rw [HFV.out, HGV.out, he]; simp)
        subst he
        go_wp2_with fail
        refine ⟨⟨⟨k + 1, by omega, hb3, HK2, exFrame (by kernel_rfl)⟩⟩, ?_⟩
        show n - (intOf (.int .i64 ((k : Int) + 1))).toNat < n - (intOf (.int .i64 (k : Int))).toNat
        simp [intOf]
        omega
      · have hne : (fv != gv) = true := bne_iff_ne.2 he
        have HF : Hid (allTo (fun i => decide (f i = g i)) n = false) := Lib.hid (by rw [allTo_false hlt (f := fun i => decide (f i = g i)) (by rw [HFV.out, HGV.out]; exact decide_eq_false he)])
        go_wp2
        go_ret
        exact ⟨by rw [HF.out]; rfl, hb3⟩
    · have hkn : k = n := by omega
      have HF : Hid (allTo (fun i => decide (f i = g i)) n = true) := Lib.hid (by rw [allTo_iff.2 (fun i hi => HK.out i (by omega))])
      clear hkn
      go_wp2
      go_ret
      exact ⟨by rw [HF.out]; rfl, hb⟩
  · have h1 : ((n : Int) != (m : Int)) = true := by rw [bne_iff_ne]; omega
    have HF : Hid ((decide (n = m) && allTo (fun i => decide (f i = g i)) n) = false) := Lib.hid (by simp [h])
    go_enter Try.func41, Try.ntmps41
    go_wp2
    go_ret
    exact ⟨by rw [HF.out]; rfl, Below.refl _ _⟩
end Go.Proofs.Ythihdiilokdidaa
end

section
namespace Go.Proofs.Ythihdiilokdidaa
open Go.RowKit
attribute [local go_sem] Ex.cell? Ex.frozen?

set_option maxRecDepth 100000 in
set_option maxHeartbeats 3200000 in
theorem comes_any (s : Ws) (Ar Am Aw : Option Addr) (cr cm cw : Nat) (w : World) (hs : WsIn w w.heap.size s Ar Am Aw) (hw : WoOk s.wo) (gs : List Int) (Ag : Option Addr) (n cg : Nat) (hA : SlAt w w.heap.size 1 Ag n (fI gs)) (hn : s.moves.length ≤ n) (hG : ∀ i, i < s.moves.length → 0 ≤ gI gs i ∧ gI gs i ≤ 2000) (r d : Int) :
  Calls Try.prog 113 #[.agg #[.slice Ar s.rooms.length cr, .int .i64 s.days, .slice Am s.moves.length cm, .slice Aw s.wgs.length cw], .slice Ag n cg, .int .i64 r, .int .i64 d] w fun e w' => e = .returned (.int .i64 (comes s.wo (gI gs) r d s.moves.length)) ∧ Below w.heap.size w w' := by
 have hm12 : s.moves.length ≤ 12 := hw.len.2.2.1
 have hb1 := ex_alloc (Below.refl w.heap.size w) (.cells #[.slice Ar s.rooms.length cr, .int .i64 s.days, .slice Am s.moves.length cm, .slice Aw s.wgs.length cw] 42)
 have q0 : Blk (w.alloc (.cells #[.slice Ar s.rooms.length cr, .int .i64 s.days, .slice Am s.moves.length cm, .slice Aw s.wgs.length cw] 42)) w.heap.size 42 #[.slice Ar s.rooms.length cr, .int .i64 s.days, .slice Am s.moves.length cm, .slice Aw s.wgs.length cw] := Blk.new _ _ _
 go_enter Try.func113, Try.ntmps113
 go_upto_region 1 with fail
 obtain ⟨p0, hp0⟩ : ∃ p, w.heap.size = p := ⟨_, rfl⟩
 rw [hp0] at q0 ⊢
 have HP0 := Lib.hid hp0
 generalize w.alloc (.cells #[.slice Ar s.rooms.length cr, .int .i64 s.days, .slice Am s.moves.length cm, .slice Aw s.wgs.length cw] 42) = W1 at *
 clear hp0
 have a0 : W1.cell? ⟨p0, 0, none⟩ = some (.slice Ar s.rooms.length cr) := q0.cell 0
 have a1 : W1.cell? ⟨p0, 1, none⟩ = some (.int .i64 s.days) := q0.cell 1
 have a2 : W1.cell? ⟨p0, 2, none⟩ = some (.slice Am s.moves.length cm) := q0.cell 2
 have a3 : W1.cell? ⟨p0, 3, none⟩ = some (.slice Aw s.wgs.length cw) := q0.cell 3
 have l0 := q0.lt
 go_wp2_with fail
 refine wp_loop (fun a W => Rel (fun a W => ∃ k : Nat, k ≤ s.moves.length ∧ Below w.heap.size w W ∧ ∃ u : Nat → Value, a = ⟨List.toArray (u 0 :: .slice Ag n cg :: .int .i64 r :: .int .i64 d :: .pointer (some ⟨p0, 0, none⟩) :: u 5 :: u 6 :: u 7 :: .int .i64 (comes s.wo (gI gs) r d k) :: u 9 :: u 10 :: u 11 :: .slice Am s.moves.length cm :: .int .i64 (s.moves.length : Int) :: .int .i64 (k : Int) :: u 15 :: u 16 :: u 17 :: u 18 :: u 19 :: u 20 :: u 21 :: u 22 :: u 23 :: u 24 :: u 25 :: u 26 :: u 27 :: u 28 :: u 29 :: u 30 :: u 31 :: u 32 :: u 33 :: u 34 :: u 35 :: u 36 :: u 37 :: u 38 :: u 39 :: u 40 :: u 41 :: u 42 :: u 43 :: u 44 :: []), []⟩) a W) (fun a _ => s.moves.length - (intOf (a.tmps.getD 14 undef)).toNat) ⟨⟨0, by omega, hb1, exFrame (by kernel_rfl)⟩⟩ ?_
 clear a0 a1 a2 a3 l0 q0 hb1 W1
 rintro a W ⟨⟨k, hk, hb, u, rfl⟩⟩
 by_cases hlt : k < s.moves.length
 ·
  have hbd := comes_bd s.wo (G := gI gs) r d k (fun i hi => hG i (by omega))
  have hgk := hG k hlt
  have hsc := comes_succ s.wo (gI gs) r d k
  obtain ⟨C, hC⟩ : ∃ C, comes s.wo (gI gs) r d k = C := ⟨_, rfl⟩
  rw [hC] at hbd hsc ⊢
  have hmv : gMv s.wo.moves k = gMv s.moves k := rfl
  rw [hmv] at hsc
  clear hmv
  obtain ⟨bi, oi, rfl, hbi, x0, x1, x2, x3, x4⟩ := IsMvs.at_ (hs.moves.below hb) hlt
  obtain ⟨bg, og, rfl, hbg, y0⟩ := IsInts.at_ (hA.below hb) (show k < n by omega)
  obtain ⟨⟨md, ms, mt, ⟨ml, mh⟩⟩, hm⟩ : ∃ m, gMv s.moves k = m := ⟨_, rfl⟩
  rw [hm] at x0 x1 x2 x3 x4 hsc
  dsimp only at x0 x1 x2 x3 x4 hsc
  obtain ⟨g, hg⟩ : ∃ g, gI gs k = g := ⟨_, rfl⟩
  rw [hg] at y0 hgk hsc
  have HSC := Lib.hid hsc
  have HC := Lib.hid hC
  clear hm hg hsc hC
  have X1 := ex_alloc (Below.refl W.heap.size W) (.cells #[.int .i64 md, .int .i64 ms, .int .i64 mt, .int .i64 ml, .int .i64 mh] 122)
  have qm : Blk (W.alloc (.cells #[.int .i64 md, .int .i64 ms, .int .i64 mt, .int .i64 ml, .int .i64 mh] 122)) W.heap.size 122 #[.int .i64 md, .int .i64 ms, .int .i64 mt, .int .i64 ml, .int .i64 mh] := Blk.new _ _ _
  have hb2 := ex_trans hb X1
  have hbiW : bi < W.heap.size := by have := hb.size; omega
  have hbgW : bg < W.heap.size := by have := hb.size; omega
  have y1 : (W.alloc (.cells #[.int .i64 md, .int .i64 ms, .int .i64 mt, .int .i64 ml, .int .i64 mh] 122)).cell? ⟨bg, og + k, none⟩ = some (.int .i64 g) := (X1.cell (p := ⟨bg, og + k, none⟩) hbgW).trans y0
  go_upto_region 4 with fail
  obtain ⟨pm, hpm⟩ : ∃ p, W.heap.size = p := ⟨_, rfl⟩
  rw [hpm] at qm ⊢
  generalize W.alloc (.cells #[.int .i64 md, .int .i64 ms, .int .i64 mt, .int .i64 ml, .int .i64 mh] 122) = Y at *
  clear hpm x0 x1 x2 x3 x4 y0
  have z0 : Y.cell? ⟨pm, 0, none⟩ = some (.int .i64 md) := qm.cell 0
  have z1 : Y.cell? ⟨pm, 1, none⟩ = some (.int .i64 ms) := qm.cell 1
  have z2 : Y.cell? ⟨pm, 2, none⟩ = some (.int .i64 mt) := qm.cell 2
  have z3 : Y.cell? ⟨pm, 3, none⟩ = some (.int .i64 ml) := qm.cell 3
  have z4 : Y.cell? ⟨pm, 4, none⟩ = some (.int .i64 mh) := qm.cell 4
  have zl := qm.lt
  have hbgY : bg < Y.heap.size := by have := X1.size; omega
  have hkn : (k : Int) < (n : Int) := by omega
  by_cases hd1 : md = d
  ·
   by_cases hd2 : mt = r
   ·
    by_cases hd3 : ms = r
    ·
     go_wp2_with fail
     refine ⟨⟨⟨k + 1, by omega, hb2, exFrame (by rw [HSC.out]; rw [if_pos hd1, if_pos hd2, if_pos hd3, show C + (g - g) = C by omega]; kernel_rfl)⟩⟩, ?_⟩
     show s.moves.length - (intOf (.int .i64 ((k : Int) + 1))).toNat < s.moves.length - (intOf (.int .i64 (k : Int))).toNat
     simp [intOf]
     omega
    ·
     go_wp2_with fail
     refine ⟨⟨⟨k + 1, by omega, hb2, exFrame (by rw [HSC.out]; rw [if_pos hd1, if_pos hd2, if_neg hd3, show C + (g - 0) = C + g by omega]; kernel_rfl)⟩⟩, ?_⟩
     show s.moves.length - (intOf (.int .i64 ((k : Int) + 1))).toNat < s.moves.length - (intOf (.int .i64 (k : Int))).toNat
     simp [intOf]
     omega
   ·
    by_cases hd3 : ms = r
    ·
     go_wp2_with fail
     refine ⟨⟨⟨k + 1, by omega, hb2, exFrame (by rw [HSC.out]; rw [if_pos hd1, if_neg hd2, if_pos hd3, show C + (0 - g) = C - g by omega]; kernel_rfl)⟩⟩, ?_⟩
     show s.moves.length - (intOf (.int .i64 ((k : Int) + 1))).toNat < s.moves.length - (intOf (.int .i64 (k : Int))).toNat
     simp [intOf]
     omega
    ·
     go_wp2_with fail
     refine ⟨⟨⟨k + 1, by omega, hb2, exFrame (by rw [HSC.out]; rw [if_pos hd1, if_neg hd2, if_neg hd3, show C + ((0 : Int) - 0) = C by omega]; kernel_rfl)⟩⟩, ?_⟩
     show s.moves.length - (intOf (.int .i64 ((k : Int) + 1))).toNat < s.moves.length - (intOf (.int .i64 (k : Int))).toNat
     simp [intOf]
     omega
  ·
   go_wp2_with fail
   refine ⟨⟨⟨k + 1, by omega, hb2, exFrame (by rw [HSC.out]; rw [if_neg hd1, Int.add_zero]; kernel_rfl)⟩⟩, ?_⟩
   show s.moves.length - (intOf (.int .i64 ((k : Int) + 1))).toNat < s.moves.length - (intOf (.int .i64 (k : Int))).toNat
   simp [intOf]
   omega
 ·
  obtain rfl : k = s.moves.length := by omega
  go_wp2
  go_ret
  exact ⟨rfl, hb⟩
end Go.Proofs.Ythihdiilokdidaa
end

section
namespace Go.Proofs.Ythihdiilokdidaa
open Go.RowKit
attribute [local go_sem] Ex.cell? Ex.frozen?

set_option maxRecDepth 100000 in
set_option maxHeartbeats 3200000 in
theorem says_any (s : Ws) (Ar Am Aw : Option Addr) (cr cm cw : Nat) (w : World) (hs : WsIn w w.heap.size s Ar Am Aw) (hw : WoOk s.wo) (b : Bk) (Af Ag : Option Addr) (cf cg : Nat) (hAf0 : SlAt w w.heap.size 1 Af b.fs.length (fI b.fs)) (hAg0 : SlAt w w.heap.size 1 Ag b.gs.length (fI b.gs)) (hB : b.fs.length = s.rooms.length ∧ b.gs.length = s.moves.length ∧ (∀ k, k < s.rooms.length → 0 ≤ gI b.fs k ∧ gI b.fs k ≤ 2000) ∧ ∀ k, k < s.moves.length → 0 ≤ gI b.gs k ∧ gI b.gs k ≤ 2000) (r d : Nat) (hr : r < s.rooms.length) (hd : d < s.wo.days) :
  Calls Try.prog 85 #[.agg #[.slice Ar s.rooms.length cr, .int .i64 s.days, .slice Am s.moves.length cm, .slice Aw s.wgs.length cw], .agg #[.slice Af b.fs.length cf, .slice Ag b.gs.length cg], .int .i64 (r : Int), .int .i64 (d : Int)] w fun e w' => e = .returned (.int .i64 (saysF s.wo b r d)) ∧ Below w.heap.size w w' := by
 have hm12 : s.moves.length ≤ 12 := hw.len.2.2.1
 have hD6 : s.wo.days ≤ 6 := hw.days.2
 have hF0 := hB.2.2.1 r hr
 have HFL := Lib.hid hB.1
 have HGL := Lib.hid hB.2.1
 have HG := Lib.hid hB.2.2.2
 clear hB
 have hb1 := ex_alloc (ex_alloc (Below.refl w.heap.size w) (.cells #[.slice Ar s.rooms.length cr, .int .i64 s.days, .slice Am s.moves.length cm, .slice Aw s.wgs.length cw] 42)) (.cells #[.slice Af b.fs.length cf, .slice Ag b.gs.length cg] 99)
 have q0 : Blk ((w.alloc (.cells #[.slice Ar s.rooms.length cr, .int .i64 s.days, .slice Am s.moves.length cm, .slice Aw s.wgs.length cw] 42)).alloc (.cells #[.slice Af b.fs.length cf, .slice Ag b.gs.length cg] 99)) w.heap.size 42 #[.slice Ar s.rooms.length cr, .int .i64 s.days, .slice Am s.moves.length cm, .slice Aw s.wgs.length cw] := (Blk.new _ _ _).alloc _
 have q1 : Blk ((w.alloc (.cells #[.slice Ar s.rooms.length cr, .int .i64 s.days, .slice Am s.moves.length cm, .slice Aw s.wgs.length cw] 42)).alloc (.cells #[.slice Af b.fs.length cf, .slice Ag b.gs.length cg] 99)) (w.heap.size + 1) 99 #[.slice Af b.fs.length cf, .slice Ag b.gs.length cg] := Blk.new' _ _ _ (by simp)
 go_enter Try.func85, Try.ntmps85
 go_upto_region 1 with fail
 show Code.wp _ _ _ _ ((w.alloc (.cells #[.slice Ar s.rooms.length cr, .int .i64 s.days, .slice Am s.moves.length cm, .slice Aw s.wgs.length cw] 42)).alloc (.cells #[.slice Af b.fs.length cf, .slice Ag b.gs.length cg] 99))
 obtain ⟨p0, hp0⟩ : ∃ p, w.heap.size = p := ⟨_, rfl⟩
 rw [hp0] at q0 q1 ⊢
 have HP0 := Lib.hid hp0
 generalize (w.alloc (.cells #[.slice Ar s.rooms.length cr, .int .i64 s.days, .slice Am s.moves.length cm, .slice Aw s.wgs.length cw] 42)).alloc (.cells #[.slice Af b.fs.length cf, .slice Ag b.gs.length cg] 99) = W1 at *
 clear hp0
 have a0 : W1.cell? ⟨p0, 0, none⟩ = some (.slice Ar s.rooms.length cr) := q0.cell 0
 have a1 : W1.cell? ⟨p0, 1, none⟩ = some (.int .i64 s.days) := q0.cell 1
 have a2 : W1.cell? ⟨p0, 2, none⟩ = some (.slice Am s.moves.length cm) := q0.cell 2
 have a3 : W1.cell? ⟨p0, 3, none⟩ = some (.slice Aw s.wgs.length cw) := q0.cell 3
 have l0 := q0.lt
 have b0 : W1.cell? ⟨p0 + 1, 0, none⟩ = some (.slice Af b.fs.length cf) := q1.cell 0
 have b1 : W1.cell? ⟨p0 + 1, 1, none⟩ = some (.slice Ag b.gs.length cg) := q1.cell 1
 have l1 := q1.lt
 have hrf : r < b.fs.length := by rw [HFL.out]; exact hr
 obtain ⟨bf, of, hAf, hbf, y0⟩ := IsInts.at_ (hAf0.below hb1) hrf
 subst hAf
 have hbfW : bf < W1.heap.size := by have := hb1.size; omega
 have hrr : (r : Int) < (b.fs.length : Int) := by omega
 go_wp2_with fail
 refine wp_loop (fun a W => Rel (fun a W => ∃ k : Nat, k ≤ d + 1 ∧ Below w.heap.size w W ∧ Blk W p0 42 #[.slice Ar s.rooms.length cr, .int .i64 s.days, .slice Am s.moves.length cm, .slice Aw s.wgs.length cw] ∧ Blk W (p0 + 1) 99 #[.slice (some ⟨bf, of, none⟩) b.fs.length cf, .slice Ag b.gs.length cg] ∧ (-(24000 * (k : Int)) ≤ gI b.fs r + esum (fun e : Nat => comes s.wo (gI b.gs) r e s.wo.moves.length) (List.range k) ∧ gI b.fs r + esum (fun e : Nat => comes s.wo (gI b.gs) r e s.wo.moves.length) (List.range k) ≤ 2000 + 24000 * k) ∧ ∃ u : Nat → Value, a = ⟨List.toArray (u 0 :: u 1 :: .int .i64 (r : Int) :: .int .i64 (d : Int) :: .pointer (some ⟨p0, 0, none⟩) :: .pointer (some ⟨p0 + 1, 0, none⟩) :: u 6 :: u 7 :: .int .i64 0 :: .int .i64 (gI b.fs r + esum (fun e : Nat => comes s.wo (gI b.gs) r e s.wo.moves.length) (List.range k)) :: u 10 :: u 11 :: u 12 :: u 13 :: u 14 :: u 15 :: u 16 :: .int .i64 ((d : Int) + 1) :: .int .i64 (k : Int) :: u 19 :: u 20 :: u 21 :: u 22 :: u 23 :: u 24 :: u 25 :: u 26 :: u 27 :: u 28 :: u 29 :: u 30 :: []), []⟩) a W) (fun a _ => (d + 1) - (intOf (a.tmps.getD 18 undef)).toNat) ⟨⟨0, by omega, hb1, q0, q1, by simp [esum]; omega, exFrame (by rw [show gI b.fs r + esum (fun e : Nat => comes s.wo (gI b.gs) r e s.wo.moves.length) (List.range 0) = gI b.fs r by simp [esum]]; kernel_rfl)⟩⟩ ?_
 clear a0 a1 a2 a3 l0 q0 q1 b0 b1 l1 y0 hbfW hb1 W1
 rintro a W ⟨⟨k, hk, hb, q0, q1, hbd, u, rfl⟩⟩
 have a0 : W.cell? ⟨p0, 0, none⟩ = some (.slice Ar s.rooms.length cr) := q0.cell 0
 have a1 : W.cell? ⟨p0, 1, none⟩ = some (.int .i64 s.days) := q0.cell 1
 have a2 : W.cell? ⟨p0, 2, none⟩ = some (.slice Am s.moves.length cm) := q0.cell 2
 have a3 : W.cell? ⟨p0, 3, none⟩ = some (.slice Aw s.wgs.length cw) := q0.cell 3
 have l0 := q0.lt
 have b0 : W.cell? ⟨p0 + 1, 0, none⟩ = some (.slice (some ⟨bf, of, none⟩) b.fs.length cf) := q1.cell 0
 have b1 : W.cell? ⟨p0 + 1, 1, none⟩ = some (.slice Ag b.gs.length cg) := q1.cell 1
 have l1 := q1.lt
 by_cases hlt : k < d + 1
 ·
  have hs1 := saysF_succ s.wo b r k
  have hcb := comes_bd s.wo (G := gI b.gs) r k s.moves.length HG.out
  have hm0 : s.wo.moves.length = s.moves.length := rfl
  have hc1 : -24000 ≤ comes s.wo (gI b.gs) r k s.moves.length ∧ comes s.wo (gI b.gs) r k s.moves.length ≤ 24000 := by omega
  clear hcb
  obtain ⟨T, hT⟩ : ∃ T, gI b.fs r + esum (fun e : Nat => comes s.wo (gI b.gs) r e s.wo.moves.length) (List.range k) = T := ⟨_, rfl⟩
  rw [hT] at hs1 hbd ⊢
  have HT := Lib.hid hT
  have HS1 := Lib.hid hs1
  clear hT hs1 hm0
  go_wp2_with fail
  refine (comes_any s Ar Am Aw cr cm cw W ((hs.below hb).up hb.size) hw b.gs Ag b.gs.length cg ((hAg0.below hb).up hb.size) (by have := HGL.out; omega) HG.out (r : Int) (k : Int)).mono ?_
  rintro e W2 ⟨rfl, h2⟩
  obtain ⟨cc, hcc⟩ : ∃ c, comes s.wo (gI b.gs) r k s.moves.length = c := ⟨_, rfl⟩
  rw [hcc] at hc1 ⊢
  have HCC := Lib.hid hcc
  clear hcc
  have hb2 := ex_trans hb h2
  have q02 := q0.below h2 q0.lt
  have q12 := q1.below h2 q1.lt
  have HN : Hid (gI b.fs r + esum (fun e : Nat => comes s.wo (gI b.gs) r e s.wo.moves.length) (List.range (k + 1)) = T + cc) := Lib.hid (by rw [HS1.out]; show T + comes s.wo (gI b.gs) r k s.moves.length = _; rw [HCC.out])
  go_wp2_with fail
  refine ⟨⟨⟨k + 1, by omega, hb2, q02, q12, by rw [HN.out]; omega, exFrame (by rw [HN.out]; kernel_rfl)⟩⟩, ?_⟩
  show (d + 1) - (intOf (.int .i64 ((k : Int) + 1))).toNat < (d + 1) - (intOf (.int .i64 (k : Int))).toNat
  simp [intOf]
  omega
 ·
  obtain rfl : k = d + 1 := by omega
  go_wp2
  go_ret
  exact ⟨rfl, hb⟩

set_option maxHeartbeats 1600000 in
theorem grams_any (n : Int) (w : World) :
  Calls Try.prog 112 #[.int .i64 n] w fun e w' => e = .returned (.bool (inB n 0 2000)) ∧ Below w.heap.size w w' := by
 go_enter Try.func112, Try.ntmps112
 go_wp2_with fail
 refine (within_any n 0 2000 w).mono ?_
 rintro e w' ⟨rfl, rfl⟩
 go_wp2
 go_ret
 exact ⟨rfl, Below.refl _ _⟩

set_option maxHeartbeats 1600000 in
theorem all1_grams (n : Nat) (l : List Int) (w : World)  (k pb : Nat) (hk : k < n) (hp : pb < w.heap.size) (hc : w.cell? ⟨pb, 0, none⟩ = some (.func (.func 112) #[] #[])) :
  Calls Try.prog 103 #[.int .i64 (gI l k), .pointer (some ⟨pb, 0, none⟩)] w fun e w' => e = .returned (.bool (!(inB (gI l k) 0 2000))) ∧ Below w.heap.size w w' := by
 go_enter Try.func103, Try.ntmps103
 go_wp2_with fail
 refine (grams_any (gI l k) w).mono ?_
 rintro e w2 ⟨rfl, hb2⟩
 go_wp2
 go_ret
 exact ⟨rfl, hb2⟩

set_option maxHeartbeats 1600000 in
theorem index_grams (n : Nat) (l : List Int) (A : Option Addr) (c : Nat) (w : World)  (hA : SlAt w w.heap.size 1 A n (fI l)) (hl : n ≤ 1000000) (pb : Nat) (hp : pb < w.heap.size) (hc : w.cell? ⟨pb, 0, none⟩ = some (.func (.func 112) #[] #[])) :
  Calls Try.prog 123 #[.slice A n c, .func (.func 103) #[] #[.pointer (some ⟨pb, 0, none⟩)]] w fun e w' => e = .returned (.int .i64 (firstOf (fun k => !(inB (gI l k) 0 2000)) n)) ∧ Below w.heap.size w w' := by
 go_enter Try.func123, Try.ntmps123
 go_wp2
 go_loopw [8] (fun i wr => ∃ k : Nat, k ≤ n ∧ i = .int .i64 k ∧ (∀ k', k' < k → (inB (gI l k') 0 2000) = true) ∧ Below w.heap.size w wr)
  (fun i _ => n - (intOf i).toNat)
 case atStart => exact ⟨0, by omega, rfl, fun j hj => by omega, Below.refl _ _⟩
 case round =>
  obtain ⟨k, hk, rfl, hok, hbl⟩ := hrel
  by_cases hlt : k < n
  ·
   have hAW := (hA.below hbl).up hbl.size
   obtain ⟨b, off, rfl, hbl2, g0⟩ := IsInts.at_ hAW hlt
   have hcr : wr.cell? ⟨pb, 0, none⟩ = some (.func (.func 112) #[] #[]) := (hbl.cell (p := ⟨pb, 0, none⟩) hp).trans hc
   have hpr : pb < wr.heap.size := by have := hbl.size; omega
   have HOK := Lib.hid hok
   clear hok
   cases ht : (inB (gI l k) 0 2000)
   ·
    have HT := Lib.hid ht
    have HF : Hid (firstOf (fun k => !(inB (gI l k) 0 2000)) n = (k : Int)) := Lib.hid (firstOf_at hlt (fun j hj => by have := HOK.out j hj; simp only [this]; rfl) (by simp only [ht]; rfl))
    clear ht
    go_wp2_with fail
    refine (all1_grams n l wr  k pb hlt hpr hcr).mono ?_
    rintro e w2 ⟨rfl, hb2⟩
    rw [HT.out]
    go_wp2
    go_ret
    exact ⟨ret_int HF.out.symm, ex_trans hbl hb2⟩
   ·
    have HT := Lib.hid ht
    clear ht
    go_wp2_with fail
    refine (all1_grams n l wr  k pb hlt hpr hcr).mono ?_
    rintro e w2 ⟨rfl, hb2⟩
    rw [HT.out]
    go_wp2
    go_roundw
    case rel => exact ⟨k + 1, by omega, by go_num, fun j hj => by rcases Nat.lt_succ_iff_lt_or_eq.1 hj with h | h; exact HOK.out j h; exact h ▸ HT.out, ex_trans hbl hb2⟩
    case measure => simp [intOf]; omega
  ·
   obtain rfl : k = n := by omega
   have HF : Hid (firstOf (fun k => !(inB (gI l k) 0 2000)) k = -1) := Lib.hid (firstOf_neg fun j hj => by have := hok j hj; simp only [this]; rfl)
   go_wp2
   go_ret
   exact ⟨ret_int HF.out.symm, hbl⟩

theorem contains_grams (n : Nat) (l : List Int) (A : Option Addr) (c : Nat) (w : World)  (hA : SlAt w w.heap.size 1 A n (fI l)) (hl : n ≤ 1000000) (pb : Nat) (hp : pb < w.heap.size) (hc : w.cell? ⟨pb, 0, none⟩ = some (.func (.func 112) #[] #[])) :
  Calls Try.prog 102 #[.slice A n c, .func (.func 103) #[] #[.pointer (some ⟨pb, 0, none⟩)]] w fun e w' => e = .returned (.bool (!allTo (fun k => (inB (gI l k) 0 2000)) n)) ∧ Below w.heap.size w w' := by
 have HF : Hid (decide (0 ≤ firstOf (fun k => !(inB (gI l k) 0 2000)) n) = !allTo (fun k => (inB (gI l k) 0 2000)) n) := Lib.hid (by rw [firstOf_nonneg]; simp)
 go_enter Try.func102, Try.ntmps102
 go_wp2_with fail
 refine (index_grams n l A c w  hA hl pb hp hc).mono ?_
 rintro e w2 ⟨rfl, hb2⟩
 go_wp2
 go_ret
 exact ⟨ret_bool HF.out, hb2⟩

theorem all_grams (n : Nat) (l : List Int) (A : Option Addr) (c : Nat) (w : World)  (hA : SlAt w w.heap.size 1 A n (fI l)) (hl : n ≤ 1000000) :
  Calls Try.prog 68 #[.slice A n c, .func (.func 112) #[] #[]] w fun e w' => e = .returned (.bool (allTo (fun k => (inB (gI l k) 0 2000)) n)) ∧ Below w.heap.size w w' := by
 have hb1 := ex_alloc (Below.refl w.heap.size w) (.cells #[.func (.func 112) #[] #[]] 130)
 have hA1 := (hA.below hb1).up hb1.size
 go_enter Try.func68, Try.ntmps68
 go_wp2_with fail
 refine (contains_grams n l A c _  hA1 hl w.heap.size (by simp) (by simp [go_sem])).mono ?_
 rintro e w2 ⟨rfl, hb2⟩
 go_wp2
 go_ret
 exact ⟨by simp, ex_trans hb1 hb2⟩

set_option maxHeartbeats 1600000 in
theorem all1_has (lo hi : Int) (n : Nat) (l : List Int) (w : World)  (k pb : Nat) (hk : k < n) (hp : pb < w.heap.size) (hc : w.cell? ⟨pb, 0, none⟩ = some (.func (.func 96) #[.agg #[.int .i64 lo, .int .i64 hi]] #[])) :
  Calls Try.prog 103 #[.int .i64 (gI l k), .pointer (some ⟨pb, 0, none⟩)] w fun e w' => e = .returned (.bool (!(inB (gI l k) lo hi))) ∧ Below w.heap.size w w' := by
 go_enter Try.func103, Try.ntmps103
 go_wp2_with fail
 refine (has_any lo hi (gI l k) w).mono ?_
 rintro e w2 ⟨rfl, hb2⟩
 go_wp2
 go_ret
 exact ⟨rfl, hb2⟩

set_option maxHeartbeats 1600000 in
theorem index_has (lo hi : Int) (n : Nat) (l : List Int) (A : Option Addr) (c : Nat) (w : World)  (hA : SlAt w w.heap.size 1 A n (fI l)) (hl : n ≤ 1000000) (pb : Nat) (hp : pb < w.heap.size) (hc : w.cell? ⟨pb, 0, none⟩ = some (.func (.func 96) #[.agg #[.int .i64 lo, .int .i64 hi]] #[])) :
  Calls Try.prog 123 #[.slice A n c, .func (.func 103) #[] #[.pointer (some ⟨pb, 0, none⟩)]] w fun e w' => e = .returned (.int .i64 (firstOf (fun k => !(inB (gI l k) lo hi)) n)) ∧ Below w.heap.size w w' := by
 go_enter Try.func123, Try.ntmps123
 go_wp2
 go_loopw [8] (fun i wr => ∃ k : Nat, k ≤ n ∧ i = .int .i64 k ∧ (∀ k', k' < k → (inB (gI l k') lo hi) = true) ∧ Below w.heap.size w wr)
  (fun i _ => n - (intOf i).toNat)
 case atStart => exact ⟨0, by omega, rfl, fun j hj => by omega, Below.refl _ _⟩
 case round =>
  obtain ⟨k, hk, rfl, hok, hbl⟩ := hrel
  by_cases hlt : k < n
  ·
   have hAW := (hA.below hbl).up hbl.size
   obtain ⟨b, off, rfl, hbl2, g0⟩ := IsInts.at_ hAW hlt
   have hcr : wr.cell? ⟨pb, 0, none⟩ = some (.func (.func 96) #[.agg #[.int .i64 lo, .int .i64 hi]] #[]) := (hbl.cell (p := ⟨pb, 0, none⟩) hp).trans hc
   have hpr : pb < wr.heap.size := by have := hbl.size; omega
   have HOK := Lib.hid hok
   clear hok
   cases ht : (inB (gI l k) lo hi)
   ·
    have HT := Lib.hid ht
    have HF : Hid (firstOf (fun k => !(inB (gI l k) lo hi)) n = (k : Int)) := Lib.hid (firstOf_at hlt (fun j hj => by have := HOK.out j hj; simp only [this]; rfl) (by simp only [ht]; rfl))
    clear ht
    go_wp2_with fail
    refine (all1_has lo hi n l wr  k pb hlt hpr hcr).mono ?_
    rintro e w2 ⟨rfl, hb2⟩
    rw [HT.out]
    go_wp2
    go_ret
    exact ⟨ret_int HF.out.symm, ex_trans hbl hb2⟩
   ·
    have HT := Lib.hid ht
    clear ht
    go_wp2_with fail
    refine (all1_has lo hi n l wr  k pb hlt hpr hcr).mono ?_
    rintro e w2 ⟨rfl, hb2⟩
    rw [HT.out]
    go_wp2
    go_roundw
    case rel => exact ⟨k + 1, by omega, by go_num, fun j hj => by rcases Nat.lt_succ_iff_lt_or_eq.1 hj with h | h; exact HOK.out j h; exact h ▸ HT.out, ex_trans hbl hb2⟩
    case measure => simp [intOf]; omega
  ·
   obtain rfl : k = n := by omega
   have HF : Hid (firstOf (fun k => !(inB (gI l k) lo hi)) k = -1) := Lib.hid (firstOf_neg fun j hj => by have := hok j hj; simp only [this]; rfl)
   go_wp2
   go_ret
   exact ⟨ret_int HF.out.symm, hbl⟩

theorem contains_has (lo hi : Int) (n : Nat) (l : List Int) (A : Option Addr) (c : Nat) (w : World)  (hA : SlAt w w.heap.size 1 A n (fI l)) (hl : n ≤ 1000000) (pb : Nat) (hp : pb < w.heap.size) (hc : w.cell? ⟨pb, 0, none⟩ = some (.func (.func 96) #[.agg #[.int .i64 lo, .int .i64 hi]] #[])) :
  Calls Try.prog 102 #[.slice A n c, .func (.func 103) #[] #[.pointer (some ⟨pb, 0, none⟩)]] w fun e w' => e = .returned (.bool (!allTo (fun k => (inB (gI l k) lo hi)) n)) ∧ Below w.heap.size w w' := by
 have HF : Hid (decide (0 ≤ firstOf (fun k => !(inB (gI l k) lo hi)) n) = !allTo (fun k => (inB (gI l k) lo hi)) n) := Lib.hid (by rw [firstOf_nonneg]; simp)
 go_enter Try.func102, Try.ntmps102
 go_wp2_with fail
 refine (index_has lo hi n l A c w  hA hl pb hp hc).mono ?_
 rintro e w2 ⟨rfl, hb2⟩
 go_wp2
 go_ret
 exact ⟨ret_bool HF.out, hb2⟩

theorem all_has (lo hi : Int) (n : Nat) (l : List Int) (A : Option Addr) (c : Nat) (w : World)  (hA : SlAt w w.heap.size 1 A n (fI l)) (hl : n ≤ 1000000) :
  Calls Try.prog 68 #[.slice A n c, .func (.func 96) #[.agg #[.int .i64 lo, .int .i64 hi]] #[]] w fun e w' => e = .returned (.bool (allTo (fun k => (inB (gI l k) lo hi)) n)) ∧ Below w.heap.size w w' := by
 have hb1 := ex_alloc (Below.refl w.heap.size w) (.cells #[.func (.func 96) #[.agg #[.int .i64 lo, .int .i64 hi]] #[]] 130)
 have hA1 := (hA.below hb1).up hb1.size
 go_enter Try.func68, Try.ntmps68
 go_wp2_with fail
 refine (contains_has lo hi n l A c _  hA1 hl w.heap.size (by simp) (by simp [go_sem])).mono ?_
 rintro e w2 ⟨rfl, hb2⟩
 go_wp2
 go_ret
 exact ⟨by simp, ex_trans hb1 hb2⟩
set_option maxRecDepth 100000 in
set_option maxHeartbeats 3200000 in
theorem book_any (s : Ws) (Ar Am Aw : Option Addr) (cr cm cw : Nat) (w : World) (hs : WsIn w w.heap.size s Ar Am Aw) (b : Bk) (Af Ag : Option Addr) (cf cg : Nat) (hAf0 : SlAt w w.heap.size 1 Af b.fs.length (fI b.fs)) (hAg0 : SlAt w w.heap.size 1 Ag b.gs.length (fI b.gs)) (hsr : s.rooms.length ≤ 1000 ∧ s.moves.length ≤ 1000) (hsb : b.fs.length ≤ 1000 ∧ b.gs.length ≤ 1000) :
  Calls Try.prog 82 #[.agg #[.slice Ar s.rooms.length cr, .int .i64 s.days, .slice Am s.moves.length cm, .slice Aw s.wgs.length cw], .agg #[.slice Af b.fs.length cf, .slice Ag b.gs.length cg]] w fun e w' => e = .returned (.bool (bookB s b)) ∧ Below w.heap.size w w' := by
 obtain ⟨n1, hn1⟩ : ∃ n, b.fs.length = n := ⟨_, rfl⟩
 obtain ⟨n2, hn2⟩ : ∃ n, b.gs.length = n := ⟨_, rfl⟩
 rw [hn1] at hAf0 hsb ⊢
 rw [hn2] at hAg0 hsb ⊢
 have HN1 := Lib.hid hn1
 have HN2 := Lib.hid hn2
 clear hn1 hn2
 have hb1 := ex_alloc (ex_alloc (Below.refl w.heap.size w) (.cells #[.slice Ar s.rooms.length cr, .int .i64 s.days, .slice Am s.moves.length cm, .slice Aw s.wgs.length cw] 42)) (.cells #[.slice Af n1 cf, .slice Ag n2 cg] 99)
 have q0 : Blk ((w.alloc (.cells #[.slice Ar s.rooms.length cr, .int .i64 s.days, .slice Am s.moves.length cm, .slice Aw s.wgs.length cw] 42)).alloc (.cells #[.slice Af n1 cf, .slice Ag n2 cg] 99)) w.heap.size 42 #[.slice Ar s.rooms.length cr, .int .i64 s.days, .slice Am s.moves.length cm, .slice Aw s.wgs.length cw] := (Blk.new _ _ _).alloc _
 have q1 : Blk ((w.alloc (.cells #[.slice Ar s.rooms.length cr, .int .i64 s.days, .slice Am s.moves.length cm, .slice Aw s.wgs.length cw] 42)).alloc (.cells #[.slice Af n1 cf, .slice Ag n2 cg] 99)) (w.heap.size + 1) 99 #[.slice Af n1 cf, .slice Ag n2 cg] := Blk.new' _ _ _ (by simp)
 go_enter Try.func82, Try.ntmps82
 go_upto_region 1 with fail
 show Code.wp _ _ _ _ ((w.alloc (.cells #[.slice Ar s.rooms.length cr, .int .i64 s.days, .slice Am s.moves.length cm, .slice Aw s.wgs.length cw] 42)).alloc (.cells #[.slice Af n1 cf, .slice Ag n2 cg] 99))
 obtain ⟨p0, hp0⟩ : ∃ p, w.heap.size = p := ⟨_, rfl⟩
 rw [hp0] at q0 q1 ⊢
 have HP0 := Lib.hid hp0
 generalize (w.alloc (.cells #[.slice Ar s.rooms.length cr, .int .i64 s.days, .slice Am s.moves.length cm, .slice Aw s.wgs.length cw] 42)).alloc (.cells #[.slice Af n1 cf, .slice Ag n2 cg] 99) = W1 at *
 clear hp0
 have a0 : W1.cell? ⟨p0, 0, none⟩ = some (.slice Ar s.rooms.length cr) := q0.cell 0
 have a1 : W1.cell? ⟨p0, 1, none⟩ = some (.int .i64 s.days) := q0.cell 1
 have a2 : W1.cell? ⟨p0, 2, none⟩ = some (.slice Am s.moves.length cm) := q0.cell 2
 have a3 : W1.cell? ⟨p0, 3, none⟩ = some (.slice Aw s.wgs.length cw) := q0.cell 3
 have l0 := q0.lt
 have b0 : W1.cell? ⟨p0 + 1, 0, none⟩ = some (.slice Af n1 cf) := q1.cell 0
 have b1 : W1.cell? ⟨p0 + 1, 1, none⟩ = some (.slice Ag n2 cg) := q1.cell 1
 have l1 := q1.lt
 have k1 := (hAf0.below hb1).up hb1.size
 have k2 := (hAg0.below hb1).up hb1.size
 by_cases h1 : n1 = s.rooms.length
 ·
  subst h1
  by_cases h2 : n2 = s.moves.length
  ·
   subst h2
   go_wp2_with fail
   refine (all_grams s.rooms.length b.fs Af cf W1 k1 (by omega)).mono ?_
   rintro e W2 ⟨rfl, h2⟩
   have hb2 := ex_trans hb1 h2
   have q02 := q0.below h2 q0.lt
   have q12 := q1.below h2 q1.lt
   have k22 := (k2.below h2).up h2.size
   clear a0 a1 a2 a3 l0 b0 b1 l1
   have a0 : W2.cell? ⟨p0, 0, none⟩ = some (.slice Ar s.rooms.length cr) := q02.cell 0
   have a1 : W2.cell? ⟨p0, 1, none⟩ = some (.int .i64 s.days) := q02.cell 1
   have a2 : W2.cell? ⟨p0, 2, none⟩ = some (.slice Am s.moves.length cm) := q02.cell 2
   have a3 : W2.cell? ⟨p0, 3, none⟩ = some (.slice Aw s.wgs.length cw) := q02.cell 3
   have l0 := q02.lt
   have b0 : W2.cell? ⟨p0 + 1, 0, none⟩ = some (.slice Af s.rooms.length cf) := q12.cell 0
   have b1 : W2.cell? ⟨p0 + 1, 1, none⟩ = some (.slice Ag s.moves.length cg) := q12.cell 1
   have l1 := q12.lt
   cases hA : allTo (fun k => inB (gI b.fs k) 0 2000) s.rooms.length
   ·
    have HA := Lib.hid hA
    clear hA
    have HF : Hid (bookB s b = false) := Lib.hid (by unfold bookB; rw [HN1.out, HN2.out, HA.out]; simp)
    go_wp2
    go_ret
    exact ⟨by rw [HF.out]; rfl, hb2⟩
   ·
    have HA := Lib.hid hA
    clear hA
    go_wp2_with fail
    refine (all_grams s.moves.length b.gs Ag cg W2 k22 (by omega)).mono ?_
    rintro e W3 ⟨rfl, h3⟩
    have HF : Hid (bookB s b = allTo (fun k => inB (gI b.gs k) 0 2000) s.moves.length) := Lib.hid (by unfold bookB; rw [HN1.out, HN2.out, HA.out]; simp)
    go_wp2
    go_ret
    exact ⟨by rw [HF.out]; rfl, (ex_trans hb2 h3)⟩
  ·
   have HF : Hid (bookB s b = false) := Lib.hid (by unfold bookB; rw [HN1.out, HN2.out]; simp [h2])
   go_wp2
   go_ret
   exact ⟨by rw [HF.out]; rfl, hb1⟩
 ·
  have HF : Hid (bookB s b = false) := Lib.hid (by unfold bookB; rw [HN1.out, HN2.out]; simp [h1])
  go_wp2
  go_ret
  exact ⟨by rw [HF.out]; rfl, hb1⟩
end Go.Proofs.Ythihdiilokdidaa
end

section
namespace Go.Proofs.Ythihdiilokdidaa
open Go.RowKit
attribute [local go_sem] Ex.cell? Ex.frozen?

set_option maxRecDepth 100000 in
set_option maxHeartbeats 6400000 in
theorem truth_any (s : Ws) (Ar Am Aw : Option Addr) (cr cm cw : Nat) (w : World) (hs : WsIn w w.heap.size s Ar Am Aw) (t : Tt) (Af Av Ag : Option Addr) (cf cv cg : Nat) (rV : Nat → Option Addr) (rcV : Nat → Nat) (ht : TtIn w w.heap.size t Af Av Ag rV rcV) (hsm : SmT t) (hsw : s.rooms.length ≤ 1000 ∧ s.moves.length ≤ 1000) :
  Calls Try.prog 93 #[.agg #[.slice Ar s.rooms.length cr, .int .i64 s.days, .slice Am s.moves.length cm, .slice Aw s.wgs.length cw], .agg #[.slice Af t.fs.length cf, .slice Av t.vs.length cv, .slice Ag t.gs.length cg]] w fun e w' => e = .returned (.bool (truT s t)) ∧ Below w.heap.size w w' := by
 obtain ⟨n1, hn1⟩ : ∃ n, t.fs.length = n := ⟨_, rfl⟩
 obtain ⟨n2, hn2⟩ : ∃ n, t.vs.length = n := ⟨_, rfl⟩
 obtain ⟨n3, hn3⟩ : ∃ n, t.gs.length = n := ⟨_, rfl⟩
 have hfs := ht.fs
 have hvs := ht.vs
 have hrow := ht.row
 have hgs := ht.gs
 have hsr := hsm.row
 have hsv := hsm.vs
 rw [hn1] at hfs ⊢
 rw [hn2] at hvs hrow hsr hsv ⊢
 rw [hn3] at hgs ⊢
 have HN1 := Lib.hid hn1
 have HN2 := Lib.hid hn2
 have HN3 := Lib.hid hn3
 clear hn1 hn2 hn3 ht hsm
 have hb1 := ex_alloc (ex_alloc (Below.refl w.heap.size w) (.cells #[.slice Ar s.rooms.length cr, .int .i64 s.days, .slice Am s.moves.length cm, .slice Aw s.wgs.length cw] 42)) (.cells #[.slice Af n1 cf, .slice Av n2 cv, .slice Ag n3 cg] 112)
 have q0 : Blk ((w.alloc (.cells #[.slice Ar s.rooms.length cr, .int .i64 s.days, .slice Am s.moves.length cm, .slice Aw s.wgs.length cw] 42)).alloc (.cells #[.slice Af n1 cf, .slice Av n2 cv, .slice Ag n3 cg] 112)) w.heap.size 42 #[.slice Ar s.rooms.length cr, .int .i64 s.days, .slice Am s.moves.length cm, .slice Aw s.wgs.length cw] := (Blk.new _ _ _).alloc _
 have q1 : Blk ((w.alloc (.cells #[.slice Ar s.rooms.length cr, .int .i64 s.days, .slice Am s.moves.length cm, .slice Aw s.wgs.length cw] 42)).alloc (.cells #[.slice Af n1 cf, .slice Av n2 cv, .slice Ag n3 cg] 112)) (w.heap.size + 1) 112 #[.slice Af n1 cf, .slice Av n2 cv, .slice Ag n3 cg] := Blk.new' _ _ _ (by simp)
 go_enter Try.func93, Try.ntmps93
 go_upto_region 1 with fail
 show Code.wp _ _ _ _ ((w.alloc (.cells #[.slice Ar s.rooms.length cr, .int .i64 s.days, .slice Am s.moves.length cm, .slice Aw s.wgs.length cw] 42)).alloc (.cells #[.slice Af n1 cf, .slice Av n2 cv, .slice Ag n3 cg] 112))
 obtain ⟨p0, hp0⟩ : ∃ p, w.heap.size = p := ⟨_, rfl⟩
 rw [hp0] at q0 q1 ⊢
 have HP0 := Lib.hid hp0
 generalize (w.alloc (.cells #[.slice Ar s.rooms.length cr, .int .i64 s.days, .slice Am s.moves.length cm, .slice Aw s.wgs.length cw] 42)).alloc (.cells #[.slice Af n1 cf, .slice Av n2 cv, .slice Ag n3 cg] 112) = W1 at *
 clear hp0
 have a0 : W1.cell? ⟨p0, 0, none⟩ = some (.slice Ar s.rooms.length cr) := q0.cell 0
 have a1 : W1.cell? ⟨p0, 1, none⟩ = some (.int .i64 s.days) := q0.cell 1
 have a2 : W1.cell? ⟨p0, 2, none⟩ = some (.slice Am s.moves.length cm) := q0.cell 2
 have a3 : W1.cell? ⟨p0, 3, none⟩ = some (.slice Aw s.wgs.length cw) := q0.cell 3
 have l0 := q0.lt
 have b0 : W1.cell? ⟨p0 + 1, 0, none⟩ = some (.slice Af n1 cf) := q1.cell 0
 have b1 : W1.cell? ⟨p0 + 1, 1, none⟩ = some (.slice Av n2 cv) := q1.cell 1
 have b2 : W1.cell? ⟨p0 + 1, 2, none⟩ = some (.slice Ag n3 cg) := q1.cell 2
 have l1 := q1.lt
 by_cases h1 : n1 = s.rooms.length
 ·
  subst h1
  by_cases h2 : n2 = s.rooms.length
  ·
   subst h2
   by_cases h3 : n3 = s.moves.length
   ·
    subst h3
    have HLN : Hid (lenT s t = true) := Lib.hid (lenT_iff.2 ⟨HN1.out, HN2.out, HN3.out⟩)
    go_wp2_with fail
    refine wp_loop (fun a W => Rel (fun a W => ∃ k : Nat, k ≤ s.rooms.length ∧ (Below w.heap.size w W ∧ Blk W p0 42 #[.slice Ar s.rooms.length cr, .int .i64 s.days, .slice Am s.moves.length cm, .slice Aw s.wgs.length cw] ∧ Blk W (p0 + 1) 112 #[.slice Af s.rooms.length cf, .slice Av s.rooms.length cv, .slice Ag s.moves.length cg]) ∧ Hid (allTo (rowT s t) k = true) ∧ ∃ u : Nat → Value, a = ⟨List.toArray (u 0 :: u 1 :: .pointer (some ⟨p0, 0, none⟩) :: .pointer (some ⟨p0 + 1, 0, none⟩) :: .bool false :: u 5 :: u 6 :: u 7 :: u 8 :: u 9 :: u 10 :: u 11 :: u 12 :: u 13 :: u 14 :: u 15 :: u 16 :: u 17 :: u 18 :: u 19 :: u 20 :: u 21 :: u 22 :: u 23 :: u 24 :: u 25 :: u 26 :: u 27 :: u 28 :: u 29 :: u 30 :: u 31 :: u 32 :: u 33 :: u 34 :: .slice Ar s.rooms.length cr :: .int .i64 (s.rooms.length : Int) :: .int .i64 (k : Int) :: u 38 :: u 39 :: u 40 :: u 41 :: u 42 :: u 43 :: u 44 :: u 45 :: u 46 :: u 47 :: u 48 :: u 49 :: u 50 :: u 51 :: u 52 :: u 53 :: u 54 :: u 55 :: u 56 :: u 57 :: u 58 :: u 59 :: u 60 :: u 61 :: u 62 :: u 63 :: u 64 :: u 65 :: u 66 :: u 67 :: u 68 :: u 69 :: u 70 :: u 71 :: u 72 :: u 73 :: u 74 :: u 75 :: u 76 :: u 77 :: u 78 :: u 79 :: u 80 :: u 81 :: u 82 :: u 83 :: u 84 :: u 85 :: u 86 :: u 87 :: u 88 :: u 89 :: u 90 :: u 91 :: u 92 :: []), []⟩) a W) (fun a _ => s.rooms.length - (intOf (a.tmps.getD 37 undef)).toNat) ⟨⟨0, by omega, ⟨hb1, q0, q1⟩, Lib.hid rfl, exFrame (by kernel_rfl)⟩⟩ ?_
    clear a0 a1 a2 a3 l0 b0 b1 b2 l1 q0 q1 hb1 W1
    rintro a W ⟨⟨k, hk, ⟨hb, q0, q1⟩, HK, u, rfl⟩⟩
    have a0 : W.cell? ⟨p0, 0, none⟩ = some (.slice Ar s.rooms.length cr) := q0.cell 0
    have a1 : W.cell? ⟨p0, 1, none⟩ = some (.int .i64 s.days) := q0.cell 1
    have a2 : W.cell? ⟨p0, 2, none⟩ = some (.slice Am s.moves.length cm) := q0.cell 2
    have a3 : W.cell? ⟨p0, 3, none⟩ = some (.slice Aw s.wgs.length cw) := q0.cell 3
    have l0 := q0.lt
    have b0 : W.cell? ⟨p0 + 1, 0, none⟩ = some (.slice Af s.rooms.length cf) := q1.cell 0
    have b1 : W.cell? ⟨p0 + 1, 1, none⟩ = some (.slice Av s.rooms.length cv) := q1.cell 1
    have b2 : W.cell? ⟨p0 + 1, 2, none⟩ = some (.slice Ag s.moves.length cg) := q1.cell 2
    have l1 := q1.lt
    by_cases hlt : k < s.rooms.length
    ·
     obtain ⟨br, or_, rfl, hbr, x0, x1, x2, x3⟩ := IsRms.at_ (hs.rooms.below hb) hlt
     obtain ⟨bf, of, rfl, hbf, y0⟩ := IsInts.at_ (hfs.below hb) hlt
     obtain ⟨bv, ov, rfl, hbv, z0⟩ := (hvs.below hb) (show 0 < s.rooms.length by omega)
     have z1 : W.cell? ⟨bv, ov + k, none⟩ = some (.slice (rV k) (gL t.vs k).length (rcV k)) := by have := z0 k 0 hlt (by omega); rw [show ov + (k * 1 + 0) = ov + k by omega] at this; exact this
     have hro := (hrow k hlt).below hb
     have hrl := hsr k hlt
     clear z0
     obtain ⟨⟨⟨flo, fhi⟩, ⟨vlo, vhi⟩⟩, hrm⟩ : ∃ x, gRm s.rooms k = x := ⟨_, rfl⟩
     rw [hrm] at x0 x1 x2 x3
     dsimp only at x0 x1 x2 x3
     obtain ⟨fv, hfv⟩ : ∃ x, gI t.fs k = x := ⟨_, rfl⟩
     rw [hfv] at y0
     obtain ⟨L, hL⟩ : ∃ x, gL t.vs k = x := ⟨_, rfl⟩
     rw [hL] at z1 hro hrl
     obtain ⟨nl, hnl⟩ : ∃ n, L.length = n := ⟨_, rfl⟩
     rw [hnl] at z1 hro hrl
     obtain ⟨rv, hrv⟩ : ∃ x, rV k = x := ⟨_, rfl⟩
     rw [hrv] at z1 hro
     obtain ⟨rc, hrc⟩ : ∃ x, rcV k = x := ⟨_, rfl⟩
     rw [hrc] at z1
     have HRW : Hid (rowT s t k = (inB fv flo fhi && (decide ((nl : Int) = s.days) && allTo (fun d => inB (gI L d) vlo vhi) nl))) := Lib.hid (by unfold rowT; rw [hrm, hfv, hL, hnl])
     clear hrm hfv hL hnl hrv hrc
     have X1 := ex_alloc (Below.refl W.heap.size W) (.cells #[.int .i64 flo, .int .i64 fhi, .int .i64 vlo, .int .i64 vhi] 126)
     have q6 : Blk (W.alloc (.cells #[.int .i64 flo, .int .i64 fhi, .int .i64 vlo, .int .i64 vhi] 126)) W.heap.size 126 #[.int .i64 flo, .int .i64 fhi, .int .i64 vlo, .int .i64 vhi] := Blk.new _ _ _
     have hb2 := ex_trans hb X1
     have r0 := q0.below X1 l0
     have r1 := q1.below X1 l1
     have hro2 := (hro.below (X1.mono (by have := hb.size; omega))).up (show w.heap.size ≤ (W.alloc (.cells #[.int .i64 flo, .int .i64 fhi, .int .i64 vlo, .int .i64 vhi] 126)).heap.size by have := hb2.size; omega)
     have y0' : (W.alloc (.cells #[.int .i64 flo, .int .i64 fhi, .int .i64 vlo, .int .i64 vhi] 126)).cell? ⟨bf, of + k, none⟩ = _ := (X1.cell (p := ⟨bf, of + k, none⟩) (by show bf < W.heap.size; have := hb.size; omega)).trans y0
     have z1' : (W.alloc (.cells #[.int .i64 flo, .int .i64 fhi, .int .i64 vlo, .int .i64 vhi] 126)).cell? ⟨bv, ov + k, none⟩ = _ := (X1.cell (p := ⟨bv, ov + k, none⟩) (by show bv < W.heap.size; have := hb.size; omega)).trans z1
     have hbrW : br < W.heap.size := by have := hb.size; omega
     have hbfY : bf < (W.alloc (.cells #[.int .i64 flo, .int .i64 fhi, .int .i64 vlo, .int .i64 vhi] 126)).heap.size := by have := hb2.size; omega
     have hbvY : bv < (W.alloc (.cells #[.int .i64 flo, .int .i64 fhi, .int .i64 vlo, .int .i64 vhi] 126)).heap.size := by have := hb2.size; omega
     go_upto_region 6 with fail
     obtain ⟨p6, hp6⟩ : ∃ p, W.heap.size = p := ⟨_, rfl⟩
     rw [hp6] at q6 ⊢
     generalize W.alloc (.cells #[.int .i64 flo, .int .i64 fhi, .int .i64 vlo, .int .i64 vhi] 126) = Y at *
     clear hp6 x0 x1 x2 x3 y0 z1 a0 a1 a2 a3 l0 b0 b1 b2 l1 hro
     have a0 : Y.cell? ⟨p0, 0, none⟩ = some (.slice (some ⟨br, or_, none⟩) s.rooms.length cr) := r0.cell 0
     have a1 : Y.cell? ⟨p0, 1, none⟩ = some (.int .i64 s.days) := r0.cell 1
     have a2 : Y.cell? ⟨p0, 2, none⟩ = some (.slice Am s.moves.length cm) := r0.cell 2
     have a3 : Y.cell? ⟨p0, 3, none⟩ = some (.slice Aw s.wgs.length cw) := r0.cell 3
     have l0 := r0.lt
     have b0 : Y.cell? ⟨p0 + 1, 0, none⟩ = some (.slice (some ⟨bf, of, none⟩) s.rooms.length cf) := r1.cell 0
     have b1 : Y.cell? ⟨p0 + 1, 1, none⟩ = some (.slice (some ⟨bv, ov, none⟩) s.rooms.length cv) := r1.cell 1
     have b2 : Y.cell? ⟨p0 + 1, 2, none⟩ = some (.slice Ag s.moves.length cg) := r1.cell 2
     have l1 := r1.lt
     have x0 : Y.cell? ⟨p6, 0, none⟩ = some (.int .i64 flo) := q6.cell 0
     have x1 : Y.cell? ⟨p6, 1, none⟩ = some (.int .i64 fhi) := q6.cell 1
     have x2 : Y.cell? ⟨p6, 2, none⟩ = some (.int .i64 vlo) := q6.cell 2
     have x3 : Y.cell? ⟨p6, 3, none⟩ = some (.int .i64 vhi) := q6.cell 3
     have l6 := q6.lt
     have hkk : (k : Int) < (s.rooms.length : Int) := by omega
     have D0 := (Below.refl Y.heap.size Y).drew
     refine wp_region_ext_mix 31 [(false, 0), (false, 1), (false, 2), (false, 3), (false, 4), (false, 5), (false, 6), (true, 7), (false, 8), (false, 9), (false, 10), (false, 11), (false, 12), (false, 13), (false, 14), (false, 15), (false, 16), (false, 17), (false, 18), (false, 19), (false, 20), (false, 21), (false, 22), (false, 23), (false, 24), (false, 25), (false, 26), (false, 27), (true, 28), (true, 29), (false, 30)] (by kernel_rfl) (by kernel_rfl) (by intro d _ _ _ _ h; cases d <;> exact h) ?_
     repeat (refine mix_quiet rfl ?_; go_big_quiet_step (fail); refine wpQuiet_nil ?_)
     refine mix_loud rfl ?_
     go_wp2_with fail
     refine (has_any flo fhi fv Y.drew).mono ?_
     rintro e Z1 ⟨rfl, hz1⟩
     have E1 := ex_trans D0 hz1
     cases hI : inB fv flo fhi
     ·
      have HI := Lib.hid hI
      clear hI
      go_wp2_with fail
      refine ⟨inEx E1, ?_⟩
      repeat (refine mix_quiet rfl ?_; go_big_quiet_step (fail); refine wpQuiet_nil ?_)
      refine mix_loud rfl ?_
      go_wp2_with fail
      refine ⟨inEx E1, ?_⟩
      repeat (refine mix_quiet rfl ?_; go_big_quiet_step (fail); refine wpQuiet_nil ?_)
      refine mix_loud rfl ?_
      go_wp2_with fail
      refine ⟨inEx E1, ?_⟩
      repeat (refine mix_quiet rfl ?_; go_big_quiet_step (fail); refine wpQuiet_nil ?_)
      refine mix_nil (r := [_]) rfl ?_
      have HF : Hid (truT s t = false) := Lib.hid (by unfold truT; rw [allTo_false hlt (f := rowT s t) (by rw [HRW.out]; rw [HI.out]; simp)]; simp)
      go_wp2
      go_ret
      exact ⟨by rw [HF.out]; rfl, ex_trans hb2 E1⟩
     ·
      have HI := Lib.hid hI
      clear hI
      by_cases hnd : (nl : Int) = s.days
      ·
       go_wp2_with fail
       refine ⟨inEx E1, ?_⟩
       repeat (refine mix_quiet rfl ?_; go_big_quiet_step (fail); refine wpQuiet_nil ?_)
       refine mix_loud rfl ?_
       go_wp2_with fail
       refine ⟨inEx E1, ?_⟩
       repeat (refine mix_quiet rfl ?_; go_big_quiet_step (fail); refine wpQuiet_nil ?_)
       refine mix_loud rfl ?_
       go_wp2_with fail
       refine (all_has vlo vhi nl L rv rc Z1 ((hro2.below E1).up E1.size) (by omega)).mono ?_
       rintro e Z2 ⟨rfl, hz2⟩
       have E2 := ex_trans E1 hz2
       cases hA : allTo (fun d => inB (gI L d) vlo vhi) nl
       ·
        have HA := Lib.hid hA
        clear hA
        have HND := Lib.hid hnd
        clear hnd
        go_wp2_with fail
        refine ⟨inEx E2, ?_⟩
        repeat (refine mix_quiet rfl ?_; go_big_quiet_step (fail); refine wpQuiet_nil ?_)
        refine mix_nil (r := [_]) rfl ?_
        have HF : Hid (truT s t = false) := Lib.hid (by unfold truT; rw [allTo_false hlt (f := rowT s t) (by rw [HRW.out]; rw [HA.out]; simp)]; simp)
        go_wp2
        go_ret
        exact ⟨by rw [HF.out]; rfl, ex_trans hb2 E2⟩
       ·
        have HA := Lib.hid hA
        clear hA
        have HND := Lib.hid hnd
        clear hnd
        have HK2 : Hid (allTo (rowT s t) (k + 1) = true) := Lib.hid (by rw [allTo, HK.out, HRW.out, HI.out, HA.out]; simp [HND.out])
        have s0 := r0.below E2 r0.lt
        have s1 := r1.below E2 r1.lt
        have E3 := ex_trans hb2 E2
        go_wp2_with fail
        refine ⟨inEx E2, ?_⟩
        repeat (refine mix_quiet rfl ?_; go_big_quiet_step (fail); refine wpQuiet_nil ?_)
        refine mix_nil (r := [_]) rfl ?_
        go_wp2_with fail
        refine ⟨⟨⟨k + 1, by omega, ⟨E3, s0, s1⟩, HK2, exFrame (by kernel_rfl)⟩⟩, ?_⟩
        show s.rooms.length - (intOf (.int .i64 ((k : Int) + 1))).toNat < s.rooms.length - (intOf (.int .i64 (k : Int))).toNat
        simp [intOf]
        omega
      ·
       have hq1 : ((nl : Int) = s.days) = False := eq_false hnd
       have hq2 : decide ((nl : Int) = s.days) = false := decide_eq_false hnd
       have hq3 : ((nl : Int) != s.days) = true := bne_iff_ne.2 hnd
       go_wp2_with fail
       refine ⟨inEx E1, ?_⟩
       repeat (refine mix_quiet rfl ?_; go_big_quiet_step (fail); refine wpQuiet_nil ?_)
       refine mix_loud rfl ?_
       go_wp2_with fail
       refine ⟨inEx E1, ?_⟩
       repeat (refine mix_quiet rfl ?_; go_big_quiet_step (fail); refine wpQuiet_nil ?_)
       refine mix_loud rfl ?_
       go_wp2_with fail
       refine ⟨inEx E1, ?_⟩
       repeat (refine mix_quiet rfl ?_; go_big_quiet_step (fail); refine wpQuiet_nil ?_)
       refine mix_nil (r := [_]) rfl ?_
       have HF : Hid (truT s t = false) := Lib.hid (by unfold truT; rw [allTo_false hlt (f := rowT s t) (by rw [HRW.out]; simp [hnd])]; simp)
       go_wp2
       go_ret
       exact ⟨by rw [HF.out]; rfl, ex_trans hb2 E1⟩
    ·
     have hkr : k = s.rooms.length := by omega
     have HKA : Hid (allTo (rowT s t) s.rooms.length = true) := Lib.hid (hkr ▸ HK.out)
     clear hkr
     go_wp2_with fail
     refine wp_loop (fun a W => Rel (fun a W => ∃ j : Nat, j ≤ s.moves.length ∧ (Below w.heap.size w W ∧ Blk W p0 42 #[.slice Ar s.rooms.length cr, .int .i64 s.days, .slice Am s.moves.length cm, .slice Aw s.wgs.length cw] ∧ Blk W (p0 + 1) 112 #[.slice Af s.rooms.length cf, .slice Av s.rooms.length cv, .slice Ag s.moves.length cg]) ∧ Hid (allTo (movT s t.gs) j = true) ∧ ∃ u : Nat → Value, a = ⟨List.toArray (u 0 :: u 1 :: .pointer (some ⟨p0, 0, none⟩) :: .pointer (some ⟨p0 + 1, 0, none⟩) :: .bool false :: u 5 :: u 6 :: u 7 :: u 8 :: u 9 :: u 10 :: u 11 :: u 12 :: u 13 :: u 14 :: u 15 :: u 16 :: u 17 :: u 18 :: u 19 :: u 20 :: u 21 :: u 22 :: u 23 :: u 24 :: u 25 :: u 26 :: u 27 :: u 28 :: u 29 :: u 30 :: u 31 :: u 32 :: u 33 :: u 34 :: u 35 :: u 36 :: u 37 :: u 38 :: u 39 :: u 40 :: u 41 :: u 42 :: u 43 :: u 44 :: u 45 :: u 46 :: u 47 :: u 48 :: u 49 :: u 50 :: u 51 :: u 52 :: u 53 :: u 54 :: u 55 :: u 56 :: u 57 :: u 58 :: u 59 :: u 60 :: u 61 :: u 62 :: u 63 :: u 64 :: u 65 :: u 66 :: u 67 :: u 68 :: u 69 :: u 70 :: u 71 :: u 72 :: u 73 :: u 74 :: u 75 :: .slice Am s.moves.length cm :: .int .i64 (s.moves.length : Int) :: .int .i64 (j : Int) :: u 79 :: u 80 :: u 81 :: u 82 :: u 83 :: u 84 :: u 85 :: u 86 :: u 87 :: u 88 :: u 89 :: u 90 :: u 91 :: u 92 :: []), []⟩) a W) (fun a _ => s.moves.length - (intOf (a.tmps.getD 78 undef)).toNat) ⟨⟨0, by omega, ⟨hb, q0, q1⟩, Lib.hid rfl, exFrame (by kernel_rfl)⟩⟩ ?_
     clear a0 a1 a2 a3 l0 b0 b1 b2 l1 q0 q1 hb W HK hlt hk
     rintro a W ⟨⟨j, hj, ⟨hb, q0, q1⟩, HK, u1, rfl⟩⟩
     have a0 : W.cell? ⟨p0, 0, none⟩ = some (.slice Ar s.rooms.length cr) := q0.cell 0
     have a1 : W.cell? ⟨p0, 1, none⟩ = some (.int .i64 s.days) := q0.cell 1
     have a2 : W.cell? ⟨p0, 2, none⟩ = some (.slice Am s.moves.length cm) := q0.cell 2
     have a3 : W.cell? ⟨p0, 3, none⟩ = some (.slice Aw s.wgs.length cw) := q0.cell 3
     have l0 := q0.lt
     have b0 : W.cell? ⟨p0 + 1, 0, none⟩ = some (.slice Af s.rooms.length cf) := q1.cell 0
     have b1 : W.cell? ⟨p0 + 1, 1, none⟩ = some (.slice Av s.rooms.length cv) := q1.cell 1
     have b2 : W.cell? ⟨p0 + 1, 2, none⟩ = some (.slice Ag s.moves.length cg) := q1.cell 2
     have l1 := q1.lt
     by_cases hlt : j < s.moves.length
     ·
      obtain ⟨bi, oi, rfl, hbi, x0, x1, x2, x3, x4⟩ := IsMvs.at_ (hs.moves.below hb) hlt
      obtain ⟨bg, og, rfl, hbg, y0⟩ := IsInts.at_ (hgs.below hb) hlt
      obtain ⟨⟨md, ms, mt, ⟨ml, mh⟩⟩, hm⟩ : ∃ m, gMv s.moves j = m := ⟨_, rfl⟩
      rw [hm] at x0 x1 x2 x3 x4
      dsimp only at x0 x1 x2 x3 x4
      obtain ⟨g, hg⟩ : ∃ g, gI t.gs j = g := ⟨_, rfl⟩
      rw [hg] at y0
      have HMV : Hid (movT s t.gs j = inB g ml mh) := Lib.hid (by unfold movT; rw [hm, hg])
      clear hm hg
      have X1 := ex_alloc (Below.refl W.heap.size W) (.cells #[.int .i64 md, .int .i64 ms, .int .i64 mt, .int .i64 ml, .int .i64 mh] 122)
      have q8 : Blk (W.alloc (.cells #[.int .i64 md, .int .i64 ms, .int .i64 mt, .int .i64 ml, .int .i64 mh] 122)) W.heap.size 122 #[.int .i64 md, .int .i64 ms, .int .i64 mt, .int .i64 ml, .int .i64 mh] := Blk.new _ _ _
      have hb2 := ex_trans hb X1
      have r0 := q0.below X1 l0
      have r1 := q1.below X1 l1
      have hbiW : bi < W.heap.size := by have := hb.size; omega
      have hbgY : bg < (W.alloc (.cells #[.int .i64 md, .int .i64 ms, .int .i64 mt, .int .i64 ml, .int .i64 mh] 122)).heap.size := by have := hb2.size; omega
      have y0' : (W.alloc (.cells #[.int .i64 md, .int .i64 ms, .int .i64 mt, .int .i64 ml, .int .i64 mh] 122)).cell? ⟨bg, og + j, none⟩ = _ := (X1.cell (p := ⟨bg, og + j, none⟩) (by show bg < W.heap.size; have := hb.size; omega)).trans y0
      go_upto_region 12 with fail
      obtain ⟨p8, hp8⟩ : ∃ p, W.heap.size = p := ⟨_, rfl⟩
      rw [hp8] at q8 ⊢
      generalize W.alloc (.cells #[.int .i64 md, .int .i64 ms, .int .i64 mt, .int .i64 ml, .int .i64 mh] 122) = Y at *
      clear hp8 x0 x1 x2 x3 x4 y0 a0 a1 a2 a3 l0 b0 b1 b2 l1
      have b0 : Y.cell? ⟨p0 + 1, 0, none⟩ = some (.slice Af s.rooms.length cf) := r1.cell 0
      have b1 : Y.cell? ⟨p0 + 1, 1, none⟩ = some (.slice Av s.rooms.length cv) := r1.cell 1
      have b2 : Y.cell? ⟨p0 + 1, 2, none⟩ = some (.slice (some ⟨bg, og, none⟩) s.moves.length cg) := r1.cell 2
      have l1 := r1.lt
      have x0 : Y.cell? ⟨p8, 0, none⟩ = some (.int .i64 md) := q8.cell 0
      have x1 : Y.cell? ⟨p8, 1, none⟩ = some (.int .i64 ms) := q8.cell 1
      have x2 : Y.cell? ⟨p8, 2, none⟩ = some (.int .i64 mt) := q8.cell 2
      have x3 : Y.cell? ⟨p8, 3, none⟩ = some (.int .i64 ml) := q8.cell 3
      have x4 : Y.cell? ⟨p8, 4, none⟩ = some (.int .i64 mh) := q8.cell 4
      have l8 := q8.lt
      have hjj : (j : Int) < (s.moves.length : Int) := by omega
      have D0 := (Below.refl Y.heap.size Y).drew
      refine wp_region_ext_mix 8 [(false, 0), (false, 1), (false, 2), (false, 3), (false, 4), (false, 5), (false, 6), (true, 7)] (by kernel_rfl) (by kernel_rfl) (by intro d _ _ _ _ h; cases d <;> exact h) ?_
      repeat (refine mix_quiet rfl ?_; go_big_quiet_step (fail); refine wpQuiet_nil ?_)
      refine mix_loud rfl ?_
      go_wp2_with fail
      refine (has_any ml mh g Y.drew).mono ?_
      rintro e Z1 ⟨rfl, hz1⟩
      have E1 := ex_trans D0 hz1
      cases hI : inB g ml mh
      ·
       have HI := Lib.hid hI
       clear hI
       go_wp2_with fail
       refine ⟨inEx E1, ?_⟩
       repeat (refine mix_quiet rfl ?_; go_big_quiet_step (fail); refine wpQuiet_nil ?_)
       refine mix_nil (r := [_]) rfl ?_
       have HF : Hid (truT s t = false) := Lib.hid (by unfold truT; rw [allTo_false hlt (f := movT s t.gs) (by rw [HMV.out]; exact HI.out)]; simp)
       go_wp2
       go_ret
       exact ⟨by rw [HF.out]; rfl, ex_trans hb2 E1⟩
      ·
       have HI := Lib.hid hI
       clear hI
       have HK2 : Hid (allTo (movT s t.gs) (j + 1) = true) := Lib.hid (by rw [allTo, HK.out, HMV.out, HI.out]; rfl)
       have s0 := r0.below E1 r0.lt
       have s1 := r1.below E1 r1.lt
       have E3 := ex_trans hb2 E1
       go_wp2_with fail
       refine ⟨inEx E1, ?_⟩
       repeat (refine mix_quiet rfl ?_; go_big_quiet_step (fail); refine wpQuiet_nil ?_)
       refine mix_nil (r := [_]) rfl ?_
       go_wp2_with fail
       refine ⟨⟨⟨j + 1, by omega, ⟨E3, s0, s1⟩, HK2, exFrame (by kernel_rfl)⟩⟩, ?_⟩
       show s.moves.length - (intOf (.int .i64 ((j : Int) + 1))).toNat < s.moves.length - (intOf (.int .i64 (j : Int))).toNat
       simp [intOf]
       omega
     ·
      have hjr : j = s.moves.length := by omega
      have HF : Hid (truT s t = true) := Lib.hid (by unfold truT; rw [HLN.out, HKA.out, ← hjr, HK.out]; rfl)
      clear hjr
      go_wp2
      go_ret
      exact ⟨by rw [HF.out]; rfl, hb⟩
   ·
    have HF : Hid (truT s t = false) := Lib.hid (by unfold truT; rw [show lenT s t = false by rw [← Bool.not_eq_true, lenT_iff]; exact fun h => h3 (HN3.out ▸ h.2.2)]; rfl)
    go_wp2
    go_ret
    exact ⟨by rw [HF.out]; rfl, hb1⟩
  ·
   have HF : Hid (truT s t = false) := Lib.hid (by unfold truT; rw [show lenT s t = false by rw [← Bool.not_eq_true, lenT_iff]; exact fun h => h2 (HN2.out ▸ h.2.1)]; rfl)
   go_wp2
   go_ret
   exact ⟨by rw [HF.out]; rfl, hb1⟩
 ·
  have HF : Hid (truT s t = false) := Lib.hid (by unfold truT; rw [show lenT s t = false by rw [← Bool.not_eq_true, lenT_iff]; exact fun h => h1 (HN1.out ▸ h.1)]; rfl)
  go_wp2
  go_ret
  exact ⟨by rw [HF.out]; rfl, hb1⟩
end Go.Proofs.Ythihdiilokdidaa
end
