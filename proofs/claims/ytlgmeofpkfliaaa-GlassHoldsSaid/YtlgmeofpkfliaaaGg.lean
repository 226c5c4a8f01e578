/- The law's and the reference's small helpers (walks): In, span, Thin, to. · The reference's Fault, IcesFault; the law's fault, lived, iced, ready (walks). · The law's fault, lived, iced, ready (walks). · The law's conversions of lists (walks): History, Ices, list. · A region that draws its order, where at one place two loud operations may come in either order (after XMX). · The law's conversions (walks): list, Truth. · The law's conversion of a glass (walk). -/
import Derived.Test.YtlgmeofpkfliaaaGf
import Derived.Test.YtlgmeofpkfliaaaGd
set_option linter.unusedVariables false
set_option linter.unusedSimpArgs false
set_option linter.unusedSectionVars false
section
namespace Go.Proofs.Ytlgmeofpkfliaaa
open Go.RowKit
attribute [local go_sem] Ex.cell? Ex.frozen?

theorem In_any (n lo hi : Int) (w : World) :
    Calls Try.prog 65 #[.int .i64 n, .int .i64 lo, .int .i64 hi] w fun e w' => e = .returned (.bool (inB n lo hi)) ∧ w = w' := by
  by_cases h1 : lo ≤ n
  · by_cases h2 : n ≤ hi
    · go_enter Try.func65, Try.ntmps65
      go_wp2
      go_ret
      simp [inB, h1, h2]
    · have h2' : decide (n ≤ hi) = false := by simpa using h2
      go_enter Try.func65, Try.ntmps65
      go_wp2
      go_ret
      simp [inB, h1, h2]
  · have h1' : decide (lo ≤ n) = false := by simpa using h1
    go_enter Try.func65, Try.ntmps65
    go_wp2
    go_ret
    exact ⟨by rw [inB, h1']; rfl, rfl⟩

theorem span_any (lo hi high : Int) (w : World) :
    Calls Try.prog 88 #[.agg #[.int .i64 lo, .int .i64 hi], .int .i64 high] w fun e w' => e = .returned (.bool (toB lo hi high)) ∧ Below w.heap.size w w' := by
  have hb1 := ex_alloc (Below.refl w.heap.size w) (.cells #[.int .i64 lo, .int .i64 hi] 25)
  cases h1 : inB lo 0 hi
  · have HR : Hid (toB lo hi high = false) := by
      have : ¬ (0 ≤ lo ∧ lo ≤ hi) := fun h => by rw [inB_iff.2 h] at h1; cases h1
      cases ht : toB lo hi high
      · exact Lib.hid rfl
      · exact absurd ⟨(toB_iff.1 ht).1, (toB_iff.1 ht).2.1⟩ this
    go_enter Try.func88, Try.ntmps88
    go_wp2_with (go_at_call 65; refine (In_any _ _ _ _).mono ?_; rintro e w' ⟨rfl, rfl⟩)
    go_ret
    exact ⟨by rw [HR.out]; rfl, hb1⟩
  · have h1' := inB_iff.1 h1
    by_cases h2 : hi ≤ high
    · have HR : Hid (toB lo hi high = true) := Lib.hid (toB_iff.2 ⟨h1'.1, h1'.2, h2⟩)
      go_enter Try.func88, Try.ntmps88
      go_wp2_with (go_at_call 65; refine (In_any _ _ _ _).mono ?_; rintro e w' ⟨rfl, rfl⟩)
      go_ret
      exact ⟨by rw [HR.out]; rfl, hb1⟩
    · have HR : Hid (toB lo hi high = false) := by
        cases ht : toB lo hi high
        · exact Lib.hid rfl
        · exact absurd (toB_iff.1 ht).2.2 h2
      have h2' : decide (hi ≤ high) = false := by simpa using h2
      go_enter Try.func88, Try.ntmps88
      go_wp2_with (go_at_call 65; refine (In_any _ _ _ _).mono ?_; rintro e w' ⟨rfl, rfl⟩)
      go_ret
      exact ⟨by rw [HR.out]; rfl, hb1⟩

/-- at most 5 bands, 6 depths, 20 days, 11 ices? -/
def thinB (nb nd nh ni : Nat) : Bool := decide (nb ≤ 5) && (decide (nd ≤ 6) && (decide (nh ≤ 20) && decide (ni ≤ 11)))
theorem thinB_iff {nb nd nh ni : Nat} : thinB nb nd nh ni = true ↔ nb ≤ 5 ∧ nd ≤ 6 ∧ nh ≤ 20 ∧ ni ≤ 11 := by simp [thinB]

theorem Thin_any (base blo bhi : Int) (Ab Ad Ah Ai : Option Addr) (nb nd nh ni cb cd ch ci : Nat) (w : World) :
    Calls Try.prog 17 #[.agg #[.int .i64 base, .slice Ab nb cb, .slice Ad nd cd, .int .i64 blo, .int .i64 bhi], .slice Ah nh ch, .slice Ai ni ci] w fun e w' => e = .returned (.bool (thinB nb nd nh ni)) ∧ Below w.heap.size w w' := by
  have hb1 := ex_alloc (Below.refl w.heap.size w) (.cells #[.int .i64 base, .slice Ab nb cb, .slice Ad nd cd, .int .i64 blo, .int .i64 bhi] 27)
  by_cases h1 : nb ≤ 5
  · have h1' : decide (nb ≤ 5) = true := decide_eq_true h1
    by_cases h2 : nd ≤ 6
    · have h2' : decide (nd ≤ 6) = true := decide_eq_true h2
      by_cases h3 : nh ≤ 20
      · have h3' : decide (nh ≤ 20) = true := decide_eq_true h3
        by_cases h4 : ni ≤ 11
        · have HR : Hid (thinB nb nd nh ni = true) := Lib.hid (thinB_iff.2 ⟨h1, h2, h3, h4⟩)
          have h4' : decide ((ni : Int) ≤ 11) = true := decide_eq_true (by omega)
          go_enter Try.func17, Try.ntmps17
          go_wp2
          go_ret
          exact ⟨by rw [HR.out]; rfl, hb1⟩
        · have h4' : decide ((ni : Int) ≤ 11) = false := decide_eq_false (by omega)
          have HR : Hid (thinB nb nd nh ni = false) := Lib.hid (by simp [thinB, h4])
          go_enter Try.func17, Try.ntmps17
          go_wp2
          go_ret
          exact ⟨by rw [HR.out]; rfl, hb1⟩
      · have h3' : decide (nh ≤ 20) = false := decide_eq_false h3
        have HR : Hid (thinB nb nd nh ni = false) := Lib.hid (by simp [thinB, h3])
        go_enter Try.func17, Try.ntmps17
        go_wp2
        go_ret
        exact ⟨by rw [HR.out]; rfl, hb1⟩
    · have h2' : decide (nd ≤ 6) = false := decide_eq_false h2
      have HR : Hid (thinB nb nd nh ni = false) := Lib.hid (by simp [thinB, h2])
      go_enter Try.func17, Try.ntmps17
      go_wp2
      go_ret
      exact ⟨by rw [HR.out]; rfl, hb1⟩
  · have h1' : decide (nb ≤ 5) = false := decide_eq_false h1
    have HR : Hid (thinB nb nd nh ni = false) := Lib.hid (by simp [thinB, h1])
    go_enter Try.func17, Try.ntmps17
    go_wp2
    go_ret
    exact ⟨by rw [HR.out]; rfl, hb1⟩

theorem to_law (lo hi : Int) (w : World) :
    Calls Try.prog 57 #[.agg #[.int .i64 lo, .int .i64 hi]] w fun e w' => e = .returned (.agg #[.int .i64 lo, .int .i64 hi]) ∧ Below w.heap.size w w' := by
  go_enter Try.func57, Try.ntmps57
  go_wp2
  exact bodyPost_ret (v := .agg #[.int .i64 lo, .int .i64 hi]) (by simp [results, Try.results57, go_sem]) rfl ⟨rfl, by (repeat (first | with_reducible exact Below.refl _ _ | with_reducible refine ex_set ?_ ?_ _ | with_reducible refine ex_alloc ?_ _ | (simp; done) | (simp; omega)))⟩

/-- the error of a history alone; of ices alone. -/
def hisF (h : List Rg) : Int := if 16 < h.length then 3 else if h.length = 0 ∨ allTo (heatOk h) h.length = false then 2 else 0
def icsF (n : Nat) (l : List Ic) : Int := if 8 < l.length then 3 else if allTo (iceOk n l) l.length = false then 2 else 0
theorem lived_eq (g : Gl) (h : List Rg) : lived g h = if ckGlass g ≠ 0 then ckGlass g else hisF h := rfl
theorem iced_eq' (g : Gl) (h : List Rg) (l : List Ic) : iced g h l = if lived g h ≠ 0 then lived g h else icsF h.length l := rfl

set_option maxHeartbeats 800000 in
theorem HistoryFault_any (A : Option Addr) (c : Nat) (h : List Rg) (w : World) (hA : SlAt w w.heap.size 2 A h.length (fR h)) :
    Calls Try.prog 77 #[.slice A h.length c] w fun e w' => e = .returned (.int .i64 (hisF h)) ∧ Below w.heap.size w w' := by
  by_cases hl : 16 < h.length
  · have HR : Hid (hisF h = 3) := Lib.hid (if_pos hl)
    have h1 : decide (16 < h.length) = true := decide_eq_true hl
    go_enter Try.func77, Try.ntmps77
    go_wp2
    go_ret
    exact ⟨ret_int HR.out.symm, Below.refl _ _⟩
  have HR : Hid (hisF h = if h.length = 0 ∨ allTo (heatOk h) h.length = false then 2 else 0) := Lib.hid (if_neg hl)
  have h1 : decide (16 < h.length) = false := decide_eq_false hl
  go_enter Try.func77, Try.ntmps77
  go_wp2_with fail
  go_loopw [3] (fun i wr => ∃ k : Nat, k ≤ h.length ∧ i = .int .i64 k ∧ (∀ j, j < k → heatOk h j = true) ∧ Below w.heap.size w wr)
    (fun i _ => h.length - (intOf i).toNat)
  case atStart => exact ⟨0, by omega, rfl, fun j hj => by omega, Below.refl _ _⟩
  case round =>
    obtain ⟨k, hk, rfl, hag, hbl⟩ := hrel
    have HAG := Lib.hid hag
    clear hag
    by_cases hlt : k < h.length
    · obtain ⟨b, off, rfl, hb, hc0, hc1⟩ := IsRgs.at_ (hA.below hbl) hlt
      have HO : Hid (heatOk h k = toB (gR h k).lo (gR h k).hi 500) := Lib.hid rfl
      cases ht : toB (gR h k).lo (gR h k).hi 500
      · have HR2 : Hid ((if h.length = 0 ∨ allTo (heatOk h) h.length = false then (2 : Int) else 0) = 2) := Lib.hid (if_pos (.inr (allTo_false hlt (by rw [HO.out, ht]))))
        go_wp2_with (go_at_call 88; refine (span_any _ _ _ _).mono ?_; rintro e w2 ⟨rfl, hb2⟩)
        go_ret
        exact ⟨ret_int (by rw [HR.out, HR2.out]), ex_trans hbl hb2⟩
      · have HT := Lib.hid ht
        go_wp2_with (go_at_call 88; refine (span_any _ _ _ _).mono ?_; rintro e w2 ⟨rfl, hb2⟩)
        go_roundw
        case rel => exact ⟨k + 1, by omega, by go_num, fun j hj => by rcases Nat.lt_succ_iff_lt_or_eq.1 hj with h | h; exact HAG.out j h; rw [h, HO.out]; exact HT.out, ex_trans hbl hb2⟩
        case measure => simp [intOf]; omega
    · have HK : Hid (k = h.length) := Lib.hid (by omega)
      by_cases hz : h.length = 0
      · have HR2 : Hid ((if h.length = 0 ∨ allTo (heatOk h) h.length = false then (2 : Int) else 0) = 2) := Lib.hid (if_pos (.inl hz))
        have e1 : ((h.length : Int) == 0) = true := by simp [hz]
        have e2 : (h.length == 0) = true := by simp [hz]
        clear hz
        go_wp2
        go_ret
        exact ⟨ret_int (by rw [HR.out, HR2.out]), hbl⟩
      · have HR2 : Hid ((if h.length = 0 ∨ allTo (heatOk h) h.length = false then (2 : Int) else 0) = 0) := Lib.hid (if_neg (fun hc => by
          rcases hc with hc | hc
          · exact hz hc
          · rw [allTo_iff.2 (fun j hj => HAG.out j (by rw [HK.out]; exact hj))] at hc; cases hc))
        have e1 : ((h.length : Int) == 0) = false := by simpa using hz
        have e2 : (h.length == 0) = false := by simpa using hz
        clear hz
        go_wp2
        go_ret
        exact ⟨ret_int (by rw [HR.out, HR2.out]), hbl⟩

end Go.Proofs.Ytlgmeofpkfliaaa
end

section
namespace Go.Proofs.Ytlgmeofpkfliaaa
open Go.RowKit
attribute [local go_sem] Ex.cell? Ex.frozen?

set_option maxHeartbeats 1600000 in
theorem IcesFault_any (Ah A : Option Addr) (ch c nh : Nat) (l : List Ic) (w : World) (hnh : nh ≤ 1000000) (hA : SlAt w w.heap.size 3 A l.length (fC l)) :
    Calls Try.prog 30 #[.slice Ah nh ch, .slice A l.length c] w fun e w' => e = .returned (.int .i64 (icsF nh l)) ∧ Below w.heap.size w w' := by
  by_cases hl : 8 < l.length
  · have HR : Hid (icsF nh l = 3) := Lib.hid (if_pos hl)
    have h1 : decide (8 < l.length) = true := decide_eq_true hl
    go_enter Try.func30, Try.ntmps30
    go_wp2
    go_ret
    exact ⟨ret_int HR.out.symm, Below.refl _ _⟩
  have HR : Hid (icsF nh l = if allTo (iceOk nh l) l.length = false then 2 else 0) := Lib.hid (if_neg hl)
  have h1 : decide (8 < l.length) = false := decide_eq_false hl
  go_enter Try.func30, Try.ntmps30
  go_wp2_with fail
  go_loopw [5] (fun i wr => ∃ k : Nat, k ≤ l.length ∧ i = .int .i64 k ∧ (∀ j, j < k → iceOk nh l j = true) ∧ Below w.heap.size w wr)
    (fun i _ => l.length - (intOf i).toNat)
  case atStart => exact ⟨0, by omega, rfl, fun j hj => by omega, Below.refl _ _⟩
  case round =>
    obtain ⟨k, hk, rfl, hag, hbl⟩ := hrel
    have HAG := Lib.hid hag
    clear hag
    by_cases hlt : k < l.length
    · obtain ⟨b, off, rfl, hb, hc0, hc1, hc2⟩ := IsIcs.at_ (hA.below hbl) hlt
      have HO : Hid (iceOk nh l k = (inB (gC l k).day 0 ((nh : Int) - 1) && (inB (gC l k).zero (-2000) 2000 && inB (gC l k).err 0 20))) := Lib.hid rfl
      cases t1 : inB (gC l k).day 0 ((nh : Int) - 1)
      · have HR2 : Hid ((if allTo (iceOk nh l) l.length = false then (2 : Int) else 0) = 2) := Lib.hid (if_pos (allTo_false hlt (by rw [HO.out, t1]; rfl)))
        go_wp2_with (go_at_call 65; refine (In_any _ _ _ _).mono ?_; rintro e w2 ⟨rfl, rfl⟩)
        go_ret
        exact ⟨ret_int (by rw [HR.out, HR2.out]), hbl⟩
      cases t2 : inB (gC l k).zero (-2000) 2000
      · have HR2 : Hid ((if allTo (iceOk nh l) l.length = false then (2 : Int) else 0) = 2) := Lib.hid (if_pos (allTo_false hlt (by rw [HO.out, t1, t2]; rfl)))
        go_wp2_with (go_at_call 65; refine (In_any _ _ _ _).mono ?_; rintro e w2 ⟨rfl, rfl⟩)
        go_ret
        exact ⟨ret_int (by rw [HR.out, HR2.out]), hbl⟩
      cases t3 : inB (gC l k).err 0 20
      · have HR2 : Hid ((if allTo (iceOk nh l) l.length = false then (2 : Int) else 0) = 2) := Lib.hid (if_pos (allTo_false hlt (by rw [HO.out, t1, t2, t3]; rfl)))
        go_wp2_with (go_at_call 65; refine (In_any _ _ _ _).mono ?_; rintro e w2 ⟨rfl, rfl⟩)
        go_ret
        exact ⟨ret_int (by rw [HR.out, HR2.out]), hbl⟩
      · have HT : Hid (iceOk nh l k = true) := Lib.hid (by rw [HO.out, t1, t2, t3]; rfl)
        go_wp2_with (go_at_call 65; refine (In_any _ _ _ _).mono ?_; rintro e w2 ⟨rfl, rfl⟩)
        go_roundw
        case rel => exact ⟨k + 1, by omega, by go_num, fun j hj => by rcases Nat.lt_succ_iff_lt_or_eq.1 hj with h | h; exact HAG.out j h; rw [h]; exact HT.out, hbl⟩
        case measure => simp [intOf]; omega
    · have HK : Hid (k = l.length) := Lib.hid (by omega)
      have HR2 : Hid ((if allTo (iceOk nh l) l.length = false then (2 : Int) else 0) = 0) := Lib.hid (if_neg (fun hc => by rw [allTo_iff.2 (fun j hj => HAG.out j (by rw [HK.out]; exact hj))] at hc; cases hc))
      go_wp2
      go_ret
      exact ⟨ret_int (by rw [HR.out, HR2.out]), hbl⟩

theorem ck3 {g : Gl} (h : 3 < g.bands.length ∨ 4 < g.depths.length) : ckGlass g = 3 := by unfold ckGlass; rw [if_pos h]
theorem ck1 {g : Gl} (h : ¬ (3 < g.bands.length ∨ 4 < g.depths.length)) (hk : ckOk g = false) : ckGlass g = 1 := by unfold ckGlass; rw [if_neg h, if_neg (by simp [hk])]
theorem ck0 {g : Gl} (h : ¬ (3 < g.bands.length ∨ 4 < g.depths.length)) (hk : ckOk g = true) : ckGlass g = 0 := by unfold ckGlass; rw [if_neg h, if_pos hk]

set_option maxRecDepth 100000 in
set_option maxHeartbeats 3200000 in
theorem Fault_any (g : Gl) (Ab Ad : Option Addr) (cb cd : Nat) (w : World) (hg : GlIn w w.heap.size g Ab Ad) :
    Calls Try.prog 67 #[.agg #[.int .i64 g.base, .slice Ab g.bands.length cb, .slice Ad g.depths.length cd, .int .i64 g.blo, .int .i64 g.bhi]] w fun e w' => e = .returned (.int .i64 (ckGlass g)) ∧ Below w.heap.size w w' := by
  obtain ⟨hb, hd⟩ := hg
  have hb1 := ex_alloc (Below.refl w.heap.size w) (.cells #[.int .i64 g.base, .slice Ab g.bands.length cb, .slice Ad g.depths.length cd, .int .i64 g.blo, .int .i64 g.bhi] 27)
  have q1 : Blk (w.alloc (.cells #[.int .i64 g.base, .slice Ab g.bands.length cb, .slice Ad g.depths.length cd, .int .i64 g.blo, .int .i64 g.bhi] 27)) w.heap.size 27 #[.int .i64 g.base, .slice Ab g.bands.length cb, .slice Ad g.depths.length cd, .int .i64 g.blo, .int .i64 g.bhi] := Blk.new _ _ _
  by_cases h1 : 3 < g.bands.length
  · have h1' : decide (3 < g.bands.length) = true := decide_eq_true h1
    have HR : Hid (ckGlass g = 3) := Lib.hid (ck3 (.inl h1))
    go_enter Try.func67, Try.ntmps67
    go_wp2
    go_ret
    exact ⟨ret_int HR.out.symm, hb1⟩
  have h1' : decide (3 < g.bands.length) = false := decide_eq_false h1
  by_cases h2 : 4 < g.depths.length
  · have h2' : decide (4 < (g.depths.length : Int)) = true := decide_eq_true (by omega)
    have HR : Hid (ckGlass g = 3) := Lib.hid (ck3 (.inr h2))
    go_enter Try.func67, Try.ntmps67
    go_wp2
    go_ret
    exact ⟨ret_int HR.out.symm, hb1⟩
  have h2' : decide (4 < (g.depths.length : Int)) = false := decide_eq_false (by omega)
  have HN := Lib.hid (show ¬ (3 < g.bands.length ∨ 4 < g.depths.length) by omega)
  have H1 := fun (hk : ckOk g = false) => ck1 HN.out hk
  have HC1 := Lib.hid H1
  clear H1
  have HOK : Hid (ckOk g = (inB g.base (-1000) 1000 && (toB g.blo g.bhi 5 && ((allTo (bandOk g.bands) g.bands.length && (decide (0 < g.bands.length) && decide ((gB g.bands 0).from_ = 0))) && (allTo (deepOk g.depths) g.depths.length && decide (0 < g.depths.length)))))) := Lib.hid rfl
  by_cases h3 : g.bands.length = 0
  · have HR : Hid (ckGlass g = 1) := Lib.hid (HC1.out (by rw [HOK.out, h3]; simp))
    have e1 : ((g.bands.length : Int) == 0) = true := by simp [h3]
    have e2 : (g.bands.length == 0) = true := by simp [h3]
    clear h3
    go_enter Try.func67, Try.ntmps67
    go_wp2
    go_ret
    exact ⟨ret_int HR.out.symm, hb1⟩
  have e1 : ((g.bands.length : Int) == 0) = false := by simpa using h3
  have e2 : (g.bands.length == 0) = false := by simpa using h3
  have hb0 : 0 < g.bands.length := by omega
  clear h3
  by_cases h4 : g.depths.length = 0
  · have HR : Hid (ckGlass g = 1) := Lib.hid (HC1.out (by rw [HOK.out, h4]; simp))
    have e3 : ((g.depths.length : Int) == 0) = true := by simp [h4]
    have e4 : (g.depths.length == 0) = true := by simp [h4]
    clear h4
    go_enter Try.func67, Try.ntmps67
    go_wp2
    go_ret
    exact ⟨ret_int HR.out.symm, hb1⟩
  have e3 : ((g.depths.length : Int) == 0) = false := by simpa using h4
  have e4 : (g.depths.length == 0) = false := by simpa using h4
  have hd0 : 0 < g.depths.length := by omega
  clear h4
  cases h5 : inB g.base (-1000) 1000
  · have HR : Hid (ckGlass g = 1) := Lib.hid (HC1.out (by rw [HOK.out, h5]; rfl))
    go_enter Try.func67, Try.ntmps67
    go_wp2_with (go_at_call 65; refine (In_any _ _ _ _).mono ?_; rintro e w2 ⟨rfl, rfl⟩)
    go_ret
    exact ⟨ret_int HR.out.symm, hb1⟩
  cases h6 : toB g.blo g.bhi 5
  · have HR : Hid (ckGlass g = 1) := Lib.hid (HC1.out (by rw [HOK.out, h5, h6]; rfl))
    go_enter Try.func67, Try.ntmps67
    go_wp2_with (first | (go_at_call 65; refine (In_any _ _ _ _).mono ?_; rintro e w2 ⟨rfl, rfl⟩) | (go_at_call 88; refine (span_any _ _ _ _).mono ?_; rintro e w2 ⟨rfl, hb2⟩))
    go_ret
    exact ⟨ret_int HR.out.symm, ex_trans hb1 hb2⟩
  obtain ⟨b0, o0, rfl, hbb0, p0, p1, p2⟩ := IsBds.at_ hb hb0
  rw [Nat.zero_mul, Nat.add_zero] at p0 p1 p2
  obtain ⟨f0, hf0⟩ : ∃ f0, (gB g.bands 0).from_ = f0 := ⟨_, rfl⟩
  rw [hf0] at p0
  have HF0 := Lib.hid hf0
  clear hf0
  by_cases h7 : f0 = 0
  · have e5 : (f0 != 0) = false := by simp [h7]
    have HF00 : Hid (decide ((gB g.bands 0).from_ = 0) = true) := Lib.hid (by rw [HF0.out]; exact decide_eq_true h7)
    clear h7
    have HOK2 : Hid (ckOk g = (allTo (bandOk g.bands) g.bands.length && allTo (deepOk g.depths) g.depths.length)) := Lib.hid (by rw [HOK.out, h5, h6, HF00.out, decide_eq_true hb0, decide_eq_true hd0]; simp)
    go_enter Try.func67, Try.ntmps67
    go_wp2_with (first | (go_at_call 65; refine (In_any _ _ _ _).mono ?_; rintro e w2 ⟨rfl, rfl⟩) | (go_at_call 88; refine (span_any _ _ _ _).mono ?_; rintro e w2 ⟨rfl, hb2⟩; obtain ⟨hcc, hff⟩ := bcell hb2; have hsz : w.heap.size < w2.heap.size := (by have := hb2.size; simp at this; omega)))
    have hB2 := ex_trans hb1 hb2
    have q2 := q1.below hb2 q1.lt
    have hbI : ∀ k, k < g.bands.length → ∃ x y z, gB g.bands k = ⟨x, y, z⟩ := fun k _ => ⟨_, _, _, rfl⟩
    clear hcc hff hsz p0 p1 p2 q1 hbI e1 e2 e3 e4 e5 h1' h2'
    go_loopw [3, 4] (fun i _ wr => ∃ k : Nat, k ≤ g.bands.length ∧ i = .int .i64 k ∧ (∀ j, j < k → bandOk g.bands j = true) ∧ Below w.heap.size w wr ∧ Blk wr w.heap.size 27 #[.int .i64 g.base, .slice (some ⟨b0, o0, none⟩) g.bands.length cb, .slice Ad g.depths.length cd, .int .i64 g.blo, .int .i64 g.bhi])
      (fun i _ _ => g.bands.length - (intOf i).toNat)
    case atStart => exact ⟨0, by omega, rfl, fun j hj => by omega, hB2, q2⟩
    case round =>
      clear hB2 q2 hb2 hb1
      obtain ⟨k, hk, rfl, hag, hbl, hq⟩ := hrel
      have HAG := Lib.hid hag
      clear hag
      have a1 := hq.cell 1
      have l1 := hq.lt
      simp at a1
      by_cases hlt : k < g.bands.length
      · obtain ⟨_, _, hE, _, c0, c1, c2⟩ := IsBds.at_ (hb.below hbl) hlt
        cases hE
        have hbr : b0 < wr.heap.size := by have := hbl.size; omega
        have HO : Hid (bandOk g.bands k = (inB (gB g.bands k).from_ 0 16 && (toB (gB g.bands k).lo (gB g.bands k).hi 3 && !(decide (0 < k) && decide ((gB g.bands k).from_ ≤ (gB g.bands (k - 1)).from_))))) := Lib.hid rfl
        have HBAD : Hid (bandOk g.bands k = false → ckGlass g = 1) := Lib.hid fun h => HC1.out (by rw [HOK2.out, allTo_false hlt h]; rfl)
        generalize (gB g.bands k).from_ = x at *
        generalize (gB g.bands k).lo = y at *
        generalize (gB g.bands k).hi = z at *
        have hbox : Blk (wr.alloc (.cells #[.int .i64 x, .int .i64 y, .int .i64 z] 111)) wr.heap.size 111 #[.int .i64 x, .int .i64 y, .int .i64 z] := Blk.new _ _ _
        cases t1 : inB x 0 16
        · have HR : Hid (ckGlass g = 1) := Lib.hid (HBAD.out (by rw [HO.out, t1]; rfl))
          go_wp2_with fail
          refine wp_region_ext (by kernel_rfl) (by kernel_rfl) ?_
          repeat (any_goals (first | go_big_quiet_step ((first
            | (go_at_call 65; exact Calls.ext_same (In_any _ _ _ _))
            | (go_at_call 88; exact Calls.ext_of (span_any _ _ _ _))))))
          refine wpQuiet_nil ?_; intro _ hw'; obtain ⟨X, rfl⟩ := hw'
          go_wp2
          go_ret
          exact ⟨ret_int HR.out.symm, ex_trans (ex_alloc hbl _) X.h⟩
        cases t2 : toB y z 3
        · have HR : Hid (ckGlass g = 1) := Lib.hid (HBAD.out (by rw [HO.out, t1, t2]; rfl))
          go_wp2_with fail
          refine wp_region_ext (by kernel_rfl) (by kernel_rfl) ?_
          repeat (any_goals (first | go_big_quiet_step ((first
            | (go_at_call 65; exact Calls.ext_same (In_any _ _ _ _))
            | (go_at_call 88; exact Calls.ext_of (span_any _ _ _ _))))))
          refine wpQuiet_nil ?_; intro _ hw'; obtain ⟨X, rfl⟩ := hw'
          go_wp2
          go_ret
          exact ⟨ret_int HR.out.symm, ex_trans (ex_alloc hbl _) X.h⟩
        by_cases hk0 : 0 < k
        · have hk1 : decide (0 < k) = true := decide_eq_true hk0
          obtain ⟨_, _, hE, _, d0, _, _⟩ := IsBds.at_ (hb.below hbl) (show k - 1 < g.bands.length by omega)
          cases hE
          have hks : IntKind.i64.wrap ((k : Int) - 1) = (k : Int) - 1 := IntWalk.i64_in _ (by omega)
          have hks1 : (0 : Int) ≤ (k : Int) - 1 := by omega
          have hks2 : ((k : Int) - 1) < (g.bands.length : Int) := by omega
          have hks3 : ((k : Int) - 1).toNat = k - 1 := by omega
          generalize (gB g.bands (k - 1)).from_ = x' at *
          by_cases hxx : x ≤ x'
          · have HR : Hid (ckGlass g = 1) := Lib.hid (HBAD.out (by rw [HO.out, t1, t2, hk1, decide_eq_true hxx]; rfl))
            have hxx' : decide (x ≤ x') = true := decide_eq_true hxx
            go_wp2_with fail
            refine wp_region_ext (by kernel_rfl) (by kernel_rfl) ?_
            repeat (any_goals (first | go_big_quiet_step ((first
              | (go_at_call 65; exact Calls.ext_same (In_any _ _ _ _))
              | (go_at_call 88; exact Calls.ext_of (span_any _ _ _ _))))))
            refine wpQuiet_nil ?_; intro _ hw'; obtain ⟨X, rfl⟩ := hw'
            go_wp2
            go_ret
            exact ⟨ret_int HR.out.symm, ex_trans (ex_alloc hbl _) X.h⟩
          · have HT : Hid (bandOk g.bands k = true) := Lib.hid (by rw [HO.out, t1, t2, hk1, decide_eq_false hxx]; rfl)
            have hxx' : decide (x ≤ x') = false := decide_eq_false hxx
            go_wp2_with fail
            refine wp_region_ext (by kernel_rfl) (by kernel_rfl) ?_
            repeat (any_goals (first | go_big_quiet_step ((first
              | (go_at_call 65; exact Calls.ext_same (In_any _ _ _ _))
              | (go_at_call 88; exact Calls.ext_of (span_any _ _ _ _))))))
            refine wpQuiet_nil ?_; intro _ hw'; obtain ⟨X, rfl⟩ := hw'
            have hqx := (hq.alloc (.cells #[.int .i64 x, .int .i64 y, .int .i64 z] 111)).below X.h (hq.alloc _).lt
            go_wp2
            go_roundw
            case rel => exact ⟨k + 1, by omega, by go_num, fun j hj => by rcases Nat.lt_succ_iff_lt_or_eq.1 hj with h | h; exact HAG.out j h; rw [h]; exact HT.out, ex_trans (ex_alloc hbl _) X.h, hqx⟩
            case measure => simp [intOf]; omega
        · have hk1 : decide (0 < k) = false := decide_eq_false hk0
          have HT : Hid (bandOk g.bands k = true) := Lib.hid (by rw [HO.out, t1, t2, hk1]; rfl)
          have hk2 : decide (0 < (k : Int)) = false := decide_eq_false (by omega)
          go_wp2_with fail
          refine wp_region_ext (by kernel_rfl) (by kernel_rfl) ?_
          repeat (any_goals (first | go_big_quiet_step ((first
            | (go_at_call 65; exact Calls.ext_same (In_any _ _ _ _))
            | (go_at_call 88; exact Calls.ext_of (span_any _ _ _ _))))))
          refine wpQuiet_nil ?_; intro _ hw'; obtain ⟨X, rfl⟩ := hw'
          have hqx := (hq.alloc (.cells #[.int .i64 x, .int .i64 y, .int .i64 z] 111)).below X.h (hq.alloc _).lt
          go_wp2
          go_roundw
          case rel => exact ⟨k + 1, by omega, by go_num, fun j hj => by rcases Nat.lt_succ_iff_lt_or_eq.1 hj with h | h; exact HAG.out j h; rw [h]; exact HT.out, ex_trans (ex_alloc hbl _) X.h, hqx⟩
          case measure => simp [intOf]; omega
      · have HK : Hid (k = g.bands.length) := Lib.hid (by omega)
        go_wp2_with fail
        have HOK3 : Hid (ckOk g = allTo (deepOk g.depths) g.depths.length) := Lib.hid (by rw [HOK2.out, allTo_iff.2 (fun j hj => HAG.out j (by rw [HK.out]; exact hj))]; rfl)
        clear a1 hlt
        go_loopw [5, 6] (fun i _ wr => ∃ k : Nat, k ≤ g.depths.length ∧ i = .int .i64 k ∧ (∀ j, j < k → deepOk g.depths j = true) ∧ Below w.heap.size w wr ∧ Blk wr w.heap.size 27 #[.int .i64 g.base, .slice (some ⟨b0, o0, none⟩) g.bands.length cb, .slice Ad g.depths.length cd, .int .i64 g.blo, .int .i64 g.bhi])
          (fun i _ _ => g.depths.length - (intOf i).toNat)
        case atStart => exact ⟨0, by omega, rfl, fun j hj => by omega, hbl, hq⟩
        case round =>
          clear hbl hq hk HK HAG l1
          obtain ⟨k, hk, rfl, hag, hbl, hq⟩ := hrel
          have HAG2 := Lib.hid hag
          clear hag
          have a2 := hq.cell 2
          have l1 := hq.lt
          simp at a2
          by_cases hlt : k < g.depths.length
          · obtain ⟨b1, o1, rfl, hbb1, c0, c1⟩ := IsDps.at_ (hd.below hbl) hlt
            have hbr : b1 < wr.heap.size := by have := hbl.size; omega
            have HO : Hid (deepOk g.depths k = (inB (gD g.depths k).from_ 0 500 && (inB (gD g.depths k).sink 0 30 && !(decide (0 < k) && (decide ((gD g.depths k).from_ ≤ (gD g.depths (k - 1)).from_) || decide ((gD g.depths k).sink < (gD g.depths (k - 1)).sink)))))) := Lib.hid rfl
            have HBAD : Hid (deepOk g.depths k = false → ckGlass g = 1) := Lib.hid fun h => HC1.out (by rw [HOK3.out, allTo_false hlt h])
            generalize (gD g.depths k).from_ = x at *
            generalize (gD g.depths k).sink = y at *
            cases t1 : inB x 0 500
            · have HR : Hid (ckGlass g = 1) := Lib.hid (HBAD.out (by rw [HO.out, t1]; rfl))
              go_wp2_with fail
              refine wp_region_ext (by kernel_rfl) (by kernel_rfl) ?_
              repeat (any_goals (first | go_big_quiet_step ((go_at_call 65; exact Calls.ext_same (In_any _ _ _ _)))))
              refine wpQuiet_nil ?_; intro _ hw'; obtain ⟨X, rfl⟩ := hw'
              go_wp2
              go_ret
              exact ⟨ret_int HR.out.symm, ex_trans (ex_alloc hbl _) X.h⟩
            cases t2 : inB y 0 30
            · have HR : Hid (ckGlass g = 1) := Lib.hid (HBAD.out (by rw [HO.out, t1, t2]; rfl))
              go_wp2_with fail
              refine wp_region_ext (by kernel_rfl) (by kernel_rfl) ?_
              repeat (any_goals (first | go_big_quiet_step ((go_at_call 65; exact Calls.ext_same (In_any _ _ _ _)))))
              refine wpQuiet_nil ?_; intro _ hw'; obtain ⟨X, rfl⟩ := hw'
              go_wp2
              go_ret
              exact ⟨ret_int HR.out.symm, ex_trans (ex_alloc hbl _) X.h⟩
            by_cases hk0 : 0 < k
            · have hk1 : decide (0 < k) = true := decide_eq_true hk0
              obtain ⟨_, _, hE, _, d0, d1⟩ := IsDps.at_ (hd.below hbl) (show k - 1 < g.depths.length by omega)
              cases hE
              have hks : IntKind.i64.wrap ((k : Int) - 1) = (k : Int) - 1 := IntWalk.i64_in _ (by omega)
              have hks1 : (0 : Int) ≤ (k : Int) - 1 := by omega
              have hks2 : ((k : Int) - 1) < (g.depths.length : Int) := by omega
              have hks3 : ((k : Int) - 1).toNat = k - 1 := by omega
              generalize (gD g.depths (k - 1)).from_ = x' at *
              generalize (gD g.depths (k - 1)).sink = y' at *
              by_cases hxx : x ≤ x'
              · have HR : Hid (ckGlass g = 1) := Lib.hid (HBAD.out (by rw [HO.out, t1, t2, hk1, decide_eq_true hxx]; rfl))
                have hxx' : decide (x ≤ x') = true := decide_eq_true hxx
                go_wp2_with fail
                refine wp_region_ext (by kernel_rfl) (by kernel_rfl) ?_
                repeat (any_goals (first | go_big_quiet_step ((go_at_call 65; exact Calls.ext_same (In_any _ _ _ _)))))
                refine wpQuiet_nil ?_; intro _ hw'; obtain ⟨X, rfl⟩ := hw'
                go_wp2
                go_ret
                exact ⟨ret_int HR.out.symm, ex_trans (ex_alloc hbl _) X.h⟩
              have hxx' : decide (x ≤ x') = false := decide_eq_false hxx
              by_cases hyy : y < y'
              · have HR : Hid (ckGlass g = 1) := Lib.hid (HBAD.out (by rw [HO.out, t1, t2, hk1, hxx', decide_eq_true hyy]; rfl))
                have hyy' : decide (y < y') = true := decide_eq_true hyy
                go_wp2_with fail
                refine wp_region_ext (by kernel_rfl) (by kernel_rfl) ?_
                repeat (any_goals (first | go_big_quiet_step ((go_at_call 65; exact Calls.ext_same (In_any _ _ _ _)))))
                refine wpQuiet_nil ?_; intro _ hw'; obtain ⟨X, rfl⟩ := hw'
                go_wp2
                go_ret
                exact ⟨ret_int HR.out.symm, ex_trans (ex_alloc hbl _) X.h⟩
              · have HT : Hid (deepOk g.depths k = true) := Lib.hid (by rw [HO.out, t1, t2, hk1, hxx', decide_eq_false hyy]; rfl)
                have hyy' : decide (y < y') = false := decide_eq_false hyy
                go_wp2_with fail
                refine wp_region_ext (by kernel_rfl) (by kernel_rfl) ?_
                repeat (any_goals (first | go_big_quiet_step ((go_at_call 65; exact Calls.ext_same (In_any _ _ _ _)))))
                refine wpQuiet_nil ?_; intro _ hw'; obtain ⟨X, rfl⟩ := hw'
                have hqx := (hq.alloc (.cells #[.int .i64 x, .int .i64 y] 112)).below X.h (hq.alloc _).lt
                go_wp2
                go_roundw
                case rel => exact ⟨k + 1, by omega, by go_num, fun j hj => by rcases Nat.lt_succ_iff_lt_or_eq.1 hj with h | h; exact HAG2.out j h; rw [h]; exact HT.out, ex_trans (ex_alloc hbl _) X.h, hqx⟩
                case measure => simp [intOf]; omega
            · have hk1 : decide (0 < k) = false := decide_eq_false hk0
              have HT : Hid (deepOk g.depths k = true) := Lib.hid (by rw [HO.out, t1, t2, hk1]; rfl)
              have hk2 : decide (0 < (k : Int)) = false := decide_eq_false (by omega)
              go_wp2_with fail
              refine wp_region_ext (by kernel_rfl) (by kernel_rfl) ?_
              repeat (any_goals (first | go_big_quiet_step ((go_at_call 65; exact Calls.ext_same (In_any _ _ _ _)))))
              refine wpQuiet_nil ?_; intro _ hw'; obtain ⟨X, rfl⟩ := hw'
              have hqx := (hq.alloc (.cells #[.int .i64 x, .int .i64 y] 112)).below X.h (hq.alloc _).lt
              go_wp2
              go_roundw
              case rel => exact ⟨k + 1, by omega, by go_num, fun j hj => by rcases Nat.lt_succ_iff_lt_or_eq.1 hj with h | h; exact HAG2.out j h; rw [h]; exact HT.out, ex_trans (ex_alloc hbl _) X.h, hqx⟩
              case measure => simp [intOf]; omega
          · have HK : Hid (k = g.depths.length) := Lib.hid (by omega)
            have HR : Hid (ckGlass g = 0) := Lib.hid (ck0 HN.out (by rw [HOK3.out]; exact allTo_iff.2 (fun j hj => HAG2.out j (by rw [HK.out]; exact hj))))
            go_wp2
            go_ret
            exact ⟨ret_int HR.out.symm, hbl⟩
  · have e5 : (f0 != 0) = true := by simp [h7]
    have HR : Hid (ckGlass g = 1) := Lib.hid (HC1.out (by rw [HOK.out, HF0.out, decide_eq_false h7]; simp))
    clear h7
    go_enter Try.func67, Try.ntmps67
    go_wp2_with (first | (go_at_call 65; refine (In_any _ _ _ _).mono ?_; rintro e w2 ⟨rfl, rfl⟩) | (go_at_call 88; refine (span_any _ _ _ _).mono ?_; rintro e w2 ⟨rfl, hb2⟩; obtain ⟨hcc, hff⟩ := bcell hb2; have hsz : w.heap.size < w2.heap.size := (by have := hb2.size; simp at this; omega)))
    go_ret
    exact ⟨ret_int HR.out.symm, ex_trans hb1 hb2⟩

end Go.Proofs.Ytlgmeofpkfliaaa
end

section
namespace Go.Proofs.Ytlgmeofpkfliaaa
open Go.RowKit
attribute [local go_sem] Ex.cell? Ex.frozen?

theorem fault_any (g : Gl) (Ab Ad : Option Addr) (cb cd : Nat) (w : World) (hg : GlIn w w.heap.size g Ab Ad) :
    Calls Try.prog 34 #[.agg #[.int .i64 g.base, .slice Ab g.bands.length cb, .slice Ad g.depths.length cd, .int .i64 g.blo, .int .i64 g.bhi]] w fun e w' => e = .returned (.int .i64 (ckGlass g)) ∧ Below w.heap.size w w' := by
  have hb1 := ex_alloc (Below.refl w.heap.size w) (.cells #[.int .i64 g.base, .slice Ab g.bands.length cb, .slice Ad g.depths.length cd, .int .i64 g.blo, .int .i64 g.bhi] 27)
  go_enter Try.func34, Try.ntmps34
  go_wp2_with fail
  refine (Fault_any g _ _ _ _ _ ((hg.below hb1).up hb1.size)).mono ?_
  rintro e w2 ⟨rfl, hb2⟩
  go_wp2
  go_ret
  exact ⟨rfl, ex_trans hb1 hb2⟩

theorem livedL_any (g : Gl) (Ab Ad Ah : Option Addr) (cb cd ch : Nat) (h : List Rg) (w : World) (hg : GlIn w w.heap.size g Ab Ad) (hh : SlAt w w.heap.size 2 Ah h.length (fR h)) :
    Calls Try.prog 43 #[.agg #[.int .i64 g.base, .slice Ab g.bands.length cb, .slice Ad g.depths.length cd, .int .i64 g.blo, .int .i64 g.bhi], .slice Ah h.length ch] w fun e w' => e = .returned (.int .i64 (lived g h)) ∧ Below w.heap.size w w' := by
  have hb1 := ex_alloc (Below.refl w.heap.size w) (.cells #[.int .i64 g.base, .slice Ab g.bands.length cb, .slice Ad g.depths.length cd, .int .i64 g.blo, .int .i64 g.bhi] 27)
  by_cases hc : ckGlass g = 0
  · have HR : Hid (lived g h = hisF h) := Lib.hid (by rw [lived_eq, if_neg (by simp [hc])])
    have HC := Lib.hid hc
    clear hc
    go_enter Try.func43, Try.ntmps43
    go_wp2_with fail
    refine (fault_any g _ _ _ _ _ ((hg.below hb1).up hb1.size)).mono ?_
    rintro e w2 ⟨rfl, hb2⟩
    have hB2 := ex_trans hb1 hb2
    rw [HC.out]
    go_wp2_with fail
    refine (HistoryFault_any _ _ h _ ((hh.below hB2).up hB2.size)).mono ?_
    rintro e w3 ⟨rfl, hb3⟩
    go_wp2
    go_ret
    exact ⟨ret_int HR.out.symm, ex_trans hB2 hb3⟩
  · have HR : Hid (lived g h = ckGlass g) := Lib.hid (by rw [lived_eq, if_pos hc])
    have e1 : (ckGlass g != 0) = true := by simp [hc]
    clear hc
    go_enter Try.func43, Try.ntmps43
    go_wp2_with fail
    refine (fault_any g _ _ _ _ _ ((hg.below hb1).up hb1.size)).mono ?_
    rintro e w2 ⟨rfl, hb2⟩
    go_wp2
    go_ret
    exact ⟨ret_int HR.out.symm, ex_trans hb1 hb2⟩

theorem icedL_any (g : Gl) (Ab Ad Ah Ai : Option Addr) (cb cd ch ci : Nat) (h : List Rg) (l : List Ic) (w : World) (hg : GlIn w w.heap.size g Ab Ad) (hh : SlAt w w.heap.size 2 Ah h.length (fR h)) (hi : SlAt w w.heap.size 3 Ai l.length (fC l)) (hlh : h.length ≤ 1000000) :
    Calls Try.prog 23 #[.agg #[.int .i64 g.base, .slice Ab g.bands.length cb, .slice Ad g.depths.length cd, .int .i64 g.blo, .int .i64 g.bhi], .slice Ah h.length ch, .slice Ai l.length ci] w fun e w' => e = .returned (.int .i64 (iced g h l)) ∧ Below w.heap.size w w' := by
  have hb1 := ex_alloc (Below.refl w.heap.size w) (.cells #[.int .i64 g.base, .slice Ab g.bands.length cb, .slice Ad g.depths.length cd, .int .i64 g.blo, .int .i64 g.bhi] 27)
  by_cases hc : lived g h = 0
  · have HR : Hid (iced g h l = icsF h.length l) := Lib.hid (by rw [iced_eq', if_neg (by simp [hc])])
    have HC := Lib.hid hc
    clear hc
    go_enter Try.func23, Try.ntmps23
    go_wp2_with fail
    refine (livedL_any g _ _ _ _ _ _ h _ ((hg.below hb1).up hb1.size) ((hh.below hb1).up hb1.size)).mono ?_
    rintro e w2 ⟨rfl, hb2⟩
    have hB2 := ex_trans hb1 hb2
    rw [HC.out]
    go_wp2_with fail
    refine (IcesFault_any _ _ _ _ _ l _ hlh ((hi.below hB2).up hB2.size)).mono ?_
    rintro e w3 ⟨rfl, hb3⟩
    go_wp2
    go_ret
    exact ⟨ret_int HR.out.symm, ex_trans hB2 hb3⟩
  · have HR : Hid (iced g h l = lived g h) := Lib.hid (by rw [iced_eq', if_pos hc])
    have e1 : (lived g h != 0) = true := by simp [hc]
    clear hc
    go_enter Try.func23, Try.ntmps23
    go_wp2_with fail
    refine (livedL_any g _ _ _ _ _ _ h _ ((hg.below hb1).up hb1.size) ((hh.below hb1).up hb1.size)).mono ?_
    rintro e w2 ⟨rfl, hb2⟩
    go_wp2
    go_ret
    exact ⟨ret_int HR.out.symm, ex_trans hb1 hb2⟩

/-- may a statement play a glass with a history? -/
def readyB (g : Gl) (h : List Rg) : Bool := thinB g.bands.length g.depths.length h.length 0 && decide (lived g h = 0)
theorem ready_any (g : Gl) (Ab Ad Ah : Option Addr) (cb cd ch : Nat) (h : List Rg) (w : World) (hg : GlIn w w.heap.size g Ab Ad) (hh : SlAt w w.heap.size 2 Ah h.length (fR h)) :
    Calls Try.prog 27 #[.agg #[.int .i64 g.base, .slice Ab g.bands.length cb, .slice Ad g.depths.length cd, .int .i64 g.blo, .int .i64 g.bhi], .slice Ah h.length ch] w fun e w' => e = .returned (.bool (readyB g h)) ∧ Below w.heap.size w w' := by
  have hb1 := ex_alloc (Below.refl w.heap.size w) (.cells #[.int .i64 g.base, .slice Ab g.bands.length cb, .slice Ad g.depths.length cd, .int .i64 g.blo, .int .i64 g.bhi] 27)
  have q1 : Blk (w.alloc (.cells #[.int .i64 g.base, .slice Ab g.bands.length cb, .slice Ad g.depths.length cd, .int .i64 g.blo, .int .i64 g.bhi] 27)) w.heap.size 27 #[.int .i64 g.base, .slice Ab g.bands.length cb, .slice Ad g.depths.length cd, .int .i64 g.blo, .int .i64 g.bhi] := Blk.new _ _ _
  cases ht : thinB g.bands.length g.depths.length h.length 0
  · have HR : Hid (readyB g h = false) := Lib.hid (by unfold readyB; rw [ht]; rfl)
    have HT := Lib.hid ht
    clear ht
    go_enter Try.func27, Try.ntmps27
    go_wp2_with fail
    refine (Thin_any _ _ _ _ _ _ _ _ _ _ _ _ _ _ _ _).mono ?_
    rintro e w2 ⟨rfl, hb2⟩
    rw [HT.out]
    go_wp2
    go_ret
    exact ⟨by rw [HR.out]; rfl, ex_trans hb1 hb2⟩
  · have HR : Hid (readyB g h = decide (lived g h = 0)) := Lib.hid (by unfold readyB; rw [ht]; rfl)
    have HT := Lib.hid ht
    clear ht
    go_enter Try.func27, Try.ntmps27
    go_wp2_with fail
    refine (Thin_any _ _ _ _ _ _ _ _ _ _ _ _ _ _ _ _).mono ?_
    rintro e w2 ⟨rfl, hb2⟩
    rw [HT.out]
    have hB2 := ex_trans hb1 hb2
    have q2 := q1.below hb2 q1.lt
    have a0 := q2.cell 0
    have a1 := q2.cell 1
    have a2 := q2.cell 2
    have a3 := q2.cell 3
    have a4 := q2.cell 4
    simp at a0 a1 a2 a3 a4
    go_wp2_with fail
    refine (livedL_any g _ _ _ _ _ _ h _ ((hg.below hB2).up hB2.size) ((hh.below hB2).up hB2.size)).mono ?_
    rintro e w3 ⟨rfl, hb3⟩
    have HD : Hid (decide (lived g h = 0) = (lived g h == 0)) := Lib.hid (by by_cases h : lived g h = 0 <;> simp [h])
    go_wp2
    go_ret
    exact ⟨by rw [HR.out, HD.out]; rfl, ex_trans hB2 hb3⟩

end Go.Proofs.Ytlgmeofpkfliaaa
end

section
namespace Go.Proofs.Ytlgmeofpkfliaaa
open Go.RowKit
attribute [local go_sem] Ex.cell? Ex.frozen? Gx.cell?

theorem flat_get {α : Type} {f : α → List Value} {sz : Nat} (hf : ∀ a, (f a).length = sz) : ∀ {l : List α} {k j : Nat} (hk : k < l.length), j < sz → (l.flatMap f)[k * sz + j]? = (f l[k])[j]?
  | [], _, _, hk, _ => by simp at hk
  | a :: l, 0, j, _, hj => by
    rw [List.flatMap_cons, List.getElem?_append_left (by rw [hf]; omega)]
    simp
  | a :: l, k + 1, j, hk, hj => by
    rw [List.flatMap_cons, List.getElem?_append_right (by rw [hf, Nat.add_mul]; omega), hf, show (k + 1) * sz + j - sz = k * sz + j by rw [Nat.add_mul]; omega]
    have := flat_get hf (l := l) (k := k) (j := j) (by simpa using hk) hj
    simpa using this
theorem flat_len {α : Type} {f : α → List Value} {sz : Nat} (hf : ∀ a, (f a).length = sz) : ∀ (l : List α), (l.flatMap f).length = l.length * sz
  | [] => by simp
  | a :: l => by rw [List.flatMap_cons, List.length_append, hf, flat_len hf l, List.length_cons, Nat.add_mul]; omega
theorem own_flat {α : Type} {f : α → List Value} {sz : Nat} (hf : ∀ a, (f a).length = sz) {F : Nat → Nat → Value} {l : List α} (hF : ∀ (k : Nat) (hk : k < l.length) (j : Nat), j < sz → (f l[k])[j]? = some (F k j)) {w : World} {base : Nat} {e : TypeId} {v : Value} {n : Nat} (hn : n = l.length)
    (h : w.ownsRow base e sz v n (l.flatMap f)) : ∃ A c, v = .slice A n c ∧ n ≤ c ∧ c ≤ maxLen ∧ SlAt w w.heap.size sz A n F := by
  subst hn
  rcases h.2 with ⟨rfl, h0⟩ | ⟨g, cap, cur, rfl, hb, hh, hn, hm, hs, hc⟩
  · exact ⟨none, 0, by rw [h0], by omega, by unfold maxLen; omega, fun h1 => by omega⟩
  · refine ⟨_, cap, rfl, hn, hm, fun _ => ⟨g, 0, rfl, (Array.getElem?_eq_some_iff.1 hh).1, fun k j hk hj => ?_⟩⟩
    rw [cell_of_row w g _ cur e (0, 0) hh, ← Array.getElem?_toList]
    have h1 : (l.flatMap f)[k * sz + j]? = some (F k j) := (flat_get hf hk hj).trans (hF k hk j hj)
    rw [← hc, List.getElem?_take] at h1
    rw [Nat.zero_add]
    by_cases hx : k * sz + j < l.length * sz
    · rwa [if_pos hx] at h1
    · rw [if_neg hx] at h1; cases h1

def cR (r : Rg) : List Value := [.int .i64 r.lo, .int .i64 r.hi]
def cC (r : Ic) : List Value := [.int .i64 r.day, .int .i64 r.zero, .int .i64 r.err]
def cB (r : Bd) : List Value := [.int .i64 r.from_, .int .i64 r.lo, .int .i64 r.hi]
def cD (r : Dp) : List Value := [.int .i64 r.from_, .int .i64 r.sink]
theorem own_R {l : List Rg} {w : World} {base : Nat} {e : TypeId} {v : Value} (h : w.ownsRow base e 2 v l.length (l.flatMap cR)) : ∃ A c, v = .slice A l.length c ∧ l.length ≤ c ∧ c ≤ maxLen ∧ SlAt w w.heap.size 2 A l.length (fR l) :=
  own_flat (sz := 2) (l := l) (fun _ => rfl) (fun k hk j hj => by
    have e : gR l k = l[k] := by simp [gR, hk]
    match j, hj with
    | 0, _ => simp [cR, fR, e]
    | 1, _ => simp [cR, fR, e]) rfl h
theorem own_D {l : List Dp} {w : World} {base : Nat} {e : TypeId} {v : Value} (h : w.ownsRow base e 2 v l.length (l.flatMap cD)) : ∃ A c, v = .slice A l.length c ∧ l.length ≤ c ∧ c ≤ maxLen ∧ SlAt w w.heap.size 2 A l.length (fD l) :=
  own_flat (sz := 2) (l := l) (fun _ => rfl) (fun k hk j hj => by
    have e : gD l k = l[k] := by simp [gD, hk]
    match j, hj with
    | 0, _ => simp [cD, fD, e]
    | 1, _ => simp [cD, fD, e]) rfl h
theorem own_C {l : List Ic} {w : World} {base : Nat} {e : TypeId} {v : Value} (h : w.ownsRow base e 3 v l.length (l.flatMap cC)) : ∃ A c, v = .slice A l.length c ∧ l.length ≤ c ∧ c ≤ maxLen ∧ SlAt w w.heap.size 3 A l.length (fC l) :=
  own_flat (sz := 3) (l := l) (fun _ => rfl) (fun k hk j hj => by
    have e : gC l k = l[k] := by simp [gC, hk]
    match j, hj with
    | 0, _ => simp [cC, fC, e]
    | 1, _ => simp [cC, fC, e]
    | 2, _ => simp [cC, fC, e]) rfl h
theorem own_B {l : List Bd} {w : World} {base : Nat} {e : TypeId} {v : Value} (h : w.ownsRow base e 3 v l.length (l.flatMap cB)) : ∃ A c, v = .slice A l.length c ∧ l.length ≤ c ∧ c ≤ maxLen ∧ SlAt w w.heap.size 3 A l.length (fB l) :=
  own_flat (sz := 3) (l := l) (fun _ => rfl) (fun k hk j hj => by
    have e : gB l k = l[k] := by simp [gB, hk]
    match j, hj with
    | 0, _ => simp [cB, fB, e]
    | 1, _ => simp [cB, fB, e]
    | 2, _ => simp [cB, fB, e]) rfl h
theorem flat_snoc {α : Type} {f : α → List Value} {w : World} {base : Nat} {e : TypeId} {sz n : Nat} {v : Value} {l : List α} {k : Nat} (hk : k < l.length) (hn : n = (l.take k).length + 1) (h : w.ownsRow base e sz v n ((l.take k).flatMap f ++ f l[k])) :
    w.ownsRow base e sz v (l.take (k + 1)).length ((l.take (k + 1)).flatMap f) := by
  subst hn
  rw [List.take_succ_eq_append_getElem hk, List.flatMap_append, List.length_append]
  simpa using h
theorem gR_at {l : List Rg} {k : Nat} (hk : k < l.length) : gR l k = l[k] := by simp [gR, hk]
theorem gC_at {l : List Ic} {k : Nat} (hk : k < l.length) : gC l k = l[k] := by simp [gC, hk]
theorem gB_at {l : List Bd} {k : Nat} (hk : k < l.length) : gB l k = l[k] := by simp [gB, hk]
theorem gD_at {l : List Dp} {k : Nat} (hk : k < l.length) : gD l k = l[k] := by simp [gD, hk]

theorem rgG_info : (Try.prog.info? 37).map (fun i => (i.zero, i.size, i.bytes)) = some (some (.agg #[.int .i64 0, .int .i64 0]), 2, 16) := by kernel_rfl
theorem icG_info : (Try.prog.info? 95).map (fun i => (i.zero, i.size, i.bytes)) = some (some (.agg #[.int .i64 0, .int .i64 0, .int .i64 0]), 3, 24) := by kernel_rfl

set_option maxRecDepth 100000 in
set_option maxHeartbeats 1600000 in
theorem History_any (Ah : Option Addr) (ch : Nat) (h : List Rg) (w : World) (hl : h.length ≤ 1000) (hh : SlAt w w.heap.size 2 Ah h.length (fR h)) :
    Calls Try.prog 21 #[.slice Ah h.length ch] w fun e w' => (∃ A c, e = .returned (.slice A h.length c) ∧ h.length ≤ c ∧ c ≤ maxLen ∧ SlAt w' w'.heap.size 2 A h.length (fR h)) ∧ Below w.heap.size w w' := by
  obtain ⟨i0, hi0, hz0, hz1, hz2⟩ := info_parts rgG_info
  have HI := Lib.hid hi0
  clear hi0
  go_enter Try.func21, Try.ntmps21
  go_wp2_with fail
  go_loopw [3, 4] (fun v i wr => ∃ k : Nat, k ≤ h.length ∧ i = .int .i64 k ∧ Below w.heap.size w wr ∧ wr.ownsRow w.heap.size 37 2 v (h.take k).length ((h.take k).flatMap cR))
    (fun _ i _ => h.length - (intOf i).toNat)
  case atStart => exact ⟨0, by omega, rfl, Below.refl _ _, ⟨rfl, .inl ⟨rfl, rfl⟩⟩⟩
  case round =>
    obtain ⟨k, hk, rfl, hbl, hown⟩ := hrel
    by_cases hlt : k < h.length
    · obtain ⟨b, off, rfl, hb, c0, c1⟩ := IsRgs.at_ (hh.below hbl) hlt
      have HE := Lib.hid (gR_at hlt)
      go_wp2_with fail
      refine (to_law _ _ _).mono ?_
      rintro e w2 ⟨rfl, hb2⟩
      have hB2 := ex_trans hbl hb2
      have y4 := (own_below hown hb2).alloc (.cells #[.int .i64 (gR h k).lo, .int .i64 (gR h k).hi] 37)
      have hlen : (h.take k).length = k := by rw [List.length_take]; omega
      have c63 : (h.take k).length + 1 ≤ maxLen := by unfold maxLen; omega
      have cby : ((h.take k).length + 1) * 16 ≤ 140737488355328 := by omega
      have hbase : w.heap.size ≤ (w2.alloc (.cells #[.int .i64 (gR h k).lo, .int .i64 (gR h k).hi] 37)).heap.size := by have := hB2.size; simp; omega
      have HLEN := Lib.hid hlen
      clear hlen
      go_wp2_with (at_builtin; refine wpList_append_lies _ rfl _ _ _ rfl w.heap.size 37 i0 _ 2 16 Try.underlying41 HI.out hz0 hz1 hz2 rfl (by omega) u3 _ _ rfl y4 ⟨w2.heap.size, 0, none⟩ 1 1 [.int .i64 (gR h k).lo, .int .i64 (gR h k).hi] rfl rfl (World.news_of_block (heap_alloc_new w2 _)) (by simp [Value.oneCell']) (by omega) c63 cby hbase (w2.heap.size + 1) (by simp) ?_; intro gg cap w1 hown' hgrow hat hlt')
      go_roundw
      case rel => exact ⟨k + 1, by omega, by go_num, (ex_alloc hB2 _).grown hgrow (by simp; have := hB2.size; omega) (fun j hj => own_ge hown hj), flat_snoc hlt (by rw [HLEN.out]) (by rw [← HE.out]; rw [HLEN.out] at hown'; exact hown')⟩
      case measure => simp [intOf]; omega
    · have HK : Hid (k = h.length) := Lib.hid (by omega)
      go_wp2
      go_ret
      rw [HK.out, List.take_length] at hown
      obtain ⟨A, c, rfl, h1, h2, h3⟩ := own_R hown
      exact ⟨⟨A, c, rfl, h1, h2, h3⟩, hbl⟩

set_option maxRecDepth 100000 in
set_option maxHeartbeats 1600000 in
theorem Ices_any (Ai : Option Addr) (ci : Nat) (l : List Ic) (w : World) (hl : l.length ≤ 1000) (hi : SlAt w w.heap.size 3 Ai l.length (fC l)) :
    Calls Try.prog 22 #[.slice Ai l.length ci] w fun e w' => (∃ A c, e = .returned (.slice A l.length c) ∧ l.length ≤ c ∧ c ≤ maxLen ∧ SlAt w' w'.heap.size 3 A l.length (fC l)) ∧ Below w.heap.size w w' := by
  obtain ⟨i0, hi0, hz0, hz1, hz2⟩ := info_parts icG_info
  have HI := Lib.hid hi0
  clear hi0
  go_enter Try.func22, Try.ntmps22
  go_wp2_with fail
  go_loopw [3, 4] (fun v i wr => ∃ k : Nat, k ≤ l.length ∧ i = .int .i64 k ∧ Below w.heap.size w wr ∧ wr.ownsRow w.heap.size 95 3 v (l.take k).length ((l.take k).flatMap cC))
    (fun _ i _ => l.length - (intOf i).toNat)
  case atStart => exact ⟨0, by omega, rfl, Below.refl _ _, ⟨rfl, .inl ⟨rfl, rfl⟩⟩⟩
  case round =>
    obtain ⟨k, hk, rfl, hbl, hown⟩ := hrel
    by_cases hlt : k < l.length
    · obtain ⟨b, off, rfl, hb, c0, c1, c2⟩ := IsIcs.at_ (hi.below hbl) hlt
      have HE := Lib.hid (gC_at hlt)
      have hbr : b < wr.heap.size := by have := hbl.size; omega
      obtain ⟨row, hrow⟩ : ∃ row, u3.ownBlock = row := ⟨_, rfl⟩
      have hn1 : ¬ some b = row := fun e => by have := own_ge hown (hrow.trans e.symm); omega
      have HROW := Lib.hid hrow
      clear hrow
      go_wp2_with fail
      refine wp_region_gx_mix row 19 [(false, 0), (false, 1), (false, 2), (false, 3), (false, 4), (false, 5), (false, 6), (false, 7), (false, 8), (false, 9), (false, 10), (false, 11), (false, 12), (false, 13), (false, 14), (false, 15), (false, 16), (true, 17), (true, 18)] (by kernel_rfl) (by kernel_rfl) (by intro d _ _ _ _ h; cases d <;> exact h) ?_
      repeat (refine mix_quiet rfl ?_; go_big_quiet_step (fail); refine wpQuiet_nil ?_)
      refine mix_loud rfl ?_
      go_wp2_with fail
      have hgA : wr.grownBy (wr.alloc (.cells #[.int .i64 (gC l k).day, .int .i64 (gC l k).zero, .int .i64 (gC l k).err] 95)).drew row := grown_row (((Below.refl wr.heap.size wr).alloc (Nat.le_refl _) _).drew)
      refine ⟨inGx hgA, ?_⟩
      have y4 : (wr.alloc (.cells #[.int .i64 (gC l k).day, .int .i64 (gC l k).zero, .int .i64 (gC l k).err] 95)).drew.ownsRow w.heap.size 95 3 u3 (l.take k).length ((l.take k).flatMap cC) := hown.alloc _
      have hlen : (l.take k).length = k := by rw [List.length_take]; omega
      have c63 : (l.take k).length + 1 ≤ maxLen := by unfold maxLen; omega
      have cby : ((l.take k).length + 1) * 24 ≤ 140737488355328 := by omega
      have hbase : w.heap.size ≤ (wr.alloc (.cells #[.int .i64 (gC l k).day, .int .i64 (gC l k).zero, .int .i64 (gC l k).err] 95)).drew.heap.size := by have := hbl.size; simp; omega
      have hnew : ∀ j u, ([.int .i64 (gC l k).day, .int .i64 (gC l k).zero, .int .i64 (gC l k).err] : List Value)[j]? = some u → (wr.alloc (.cells #[.int .i64 (gC l k).day, .int .i64 (gC l k).zero, .int .i64 (gC l k).err] 95)).drew.cell? ((⟨wr.heap.size, 0, none⟩ : Addr).add j) = some u := World.news_of_block (heap_alloc_new wr (.cells #[.int .i64 (gC l k).day, .int .i64 (gC l k).zero, .int .i64 (gC l k).err] 95))
      have HLEN := Lib.hid hlen
      clear hlen
      refine mix_loud rfl ?_
      go_wp2_with (at_builtin; refine wpList_append_lies _ rfl _ _ _ rfl w.heap.size 95 i0 _ 3 24 Try.underlying43 HI.out hz0 hz1 hz2 rfl (by omega) u3 _ _ rfl y4 ⟨wr.heap.size, 0, none⟩ 1 1 [.int .i64 (gC l k).day, .int .i64 (gC l k).zero, .int .i64 (gC l k).err] rfl rfl hnew (by simp [Value.oneCell']) (by omega) c63 cby hbase (wr.heap.size + 1) (by simp) ?_; intro gg cap w1 hown' hgrow hat hlt')
      rw [HROW.out] at hgrow
      have hgB := hgA.andThen hgrow (fun j hj => .inr hj)
      refine ⟨inGx hgB, ?_⟩
      refine mix_nil rfl ?_
      go_wp2
      go_roundw
      case rel => exact ⟨k + 1, by omega, by go_num, hbl.grown hgB hbl.size (fun j hj => own_ge hown (HROW.out.trans hj)), flat_snoc hlt (by rw [HLEN.out]) (by rw [← HE.out]; rw [HLEN.out] at hown'; exact hown')⟩
      case measure => simp [intOf]; omega
    · have HK : Hid (k = l.length) := Lib.hid (by omega)
      go_wp2
      go_ret
      rw [HK.out, List.take_length] at hown
      obtain ⟨A, c, rfl, h1, h2, h3⟩ := own_C hown
      exact ⟨⟨A, c, rfl, h1, h2, h3⟩, hbl⟩

end Go.Proofs.Ytlgmeofpkfliaaa
end

section
namespace Go.Proofs.Ytlgmeofpkfliaaa
open Go.RowKit
section
variable {P : Program} {ops : Array Oper} {md : Region.Mode} {S : World → Prop} {Q : Exit → Act → World → Prop}

/-- the one operation, and behind it K. -/
def wpOne (P : Program) (ops : Array Oper) (Q : Exit → Act → World → Prop) (k : Nat) (K : Act → World → Prop) (a : Act) (w : World) : Prop :=
  ∀ o, ops[k]? = some o → wpList P ops (fun e a' w' => match e with | .normal => K a' w' | e => Q e a' w') [o] a w
theorem wpOp_one {k n : Nat} {K : Act → World → Prop} {a : Act} {w : World} (hn : n < ops.size) (hk : k < n) (h : wpOne P ops Q k K a w) : wpOp P ops Q k K a w := by
  obtain ⟨o, hk0⟩ : ∃ o, ops[k]? = some o := ⟨ops[k]'(by omega), by simp [show k < ops.size by omega]⟩
  have h' := h o hk0
  unfold wpOp
  simp only [hk0]
  simp only [wpList] at h'
  split
  · rename_i hw
    rw [if_pos hw] at h'
    refine h'.imp (fun h => ?_) (fun h => ⟨h.1, ?_⟩)
    · unfold Oper.wp at *
      generalize (execOp a.eval o).run P w = r at *
      cases r with
      | ok n w' =>
        cases n <;> simp only [Oper.upon] at h ⊢ <;> first | exact h | refine Calls.mono h fun e w'' he => ?_
        all_goals
          cases e with
          | returned u => exact he
          | panicked c => exact he
          | outgrown => obtain ⟨x, y, hxy⟩ := he; exact ⟨x, y, hxy⟩
      | halt x w' => cases x <;> simp only [Oper.upon] at h ⊢ <;> first | exact h | skip
    · obtain ⟨x, y, hxy⟩ := h.2; exact ⟨x, y, hxy⟩
  · rename_i hw
    rw [if_neg hw] at h'
    exact h'

def wpFork (P : Program) (ops : Array Oper) (Q : Exit → Act → World → Prop) (S : World → Prop) (T : Act → World → Prop) (i j : Nat) (kA kB : List (Bool × Nat)) : List (Bool × Nat) → Act → World → Prop
  | [], a, w => wpOne P ops Q i (fun a' w' => S w' ∧ wpMixO P ops Q S T kA a' w') a w ∧ wpOne P ops Q j (fun a' w' => S w' ∧ wpMixO P ops Q S T kB a' w') a w
  | (loud, k) :: ks, a, w => if loud = true then wpOne P ops Q k (fun a' w' => S w' ∧ wpFork P ops Q S T i j kA kB ks a' w') a w else ∀ o, ops[k]? = some o → wpQuiet P ops S (fun a' => wpFork P ops Q S T i j kA kB ks a' w) [o] a

def forkB (md : Region.Mode) (ops : Array Oper) (n g i j : Nat) (kA kB : List (Bool × Nat)) : List (Bool × Nat) → Array Bool → Bool
  | [], listed => decide (Region.ready md ops listed = [i, j]) && decide (i < n) && decide (j < n) && decide (kA.length = kB.length) && mixB md ops n g kA (listed.setIfInBounds i true) && mixB md ops n g kB (listed.setIfInBounds j true)
  | (loud, k) :: ks, listed =>
    decide (k < n) && (if loud = true then decide (Region.ready md ops listed = [k]) else (Region.ready md ops listed).contains k && Region.free md ops listed k && (match ops[k]? with | some o => mute o.op | none => false)) && forkB md ops n g i j kA kB ks (listed.setIfInBounds k true)

def forkedB (md : Region.Mode) (ops : Array Oper) (n i j : Nat) (kA kB ks : List (Bool × Nat)) : Bool :=
  Region.noSelect ops && decide (n < ops.size) && Region.sinkB md ops n && Region.chainB md ops n && forkB md ops n (ops.size - n) i j kA kB ks (Array.replicate ops.size false)

theorem fork_head {n g i j : Nat} {kA kB : List (Bool × Nat)} {T : Act → World → Prop} (hsel : Region.noSelect ops = true) (hQ : ∀ d v c a w, Q (.panic c) (a.put d v) w → Q (.panic c) a w)
    (hs : Region.sinkB md ops n = true) (hc : Region.chainB md ops n = true) (hn : n < ops.size) :
    ∀ (ks : List (Bool × Nat)) (listed : Array Bool) (a : Act) (w : World), HeadInv md ops n listed → forkB md ops n g i j kA kB ks listed = true → S w →
      wpFork P ops Q S T i j kA kB ks a w → wpAnyLH P md ops Q S n (fun listed' a' w' => Region.seqB md ops g n listed' = true ∧ T a' w') (ks.length + (kA.length + 1)) listed a w
  | [], listed, a, w, inv, hB, hS, h => by
    simp only [forkB, Bool.and_eq_true, decide_eq_true_eq] at hB
    obtain ⟨⟨⟨⟨⟨hr, hi⟩, hj⟩, hl⟩, hA⟩, hBB⟩ := hB
    rw [show ([] : List (Bool × Nat)).length + (kA.length + 1) = kA.length + 1 by simp]
    refine ⟨by rw [hr]; simp, fun k hk => ?_⟩
    rw [hr] at hk
    rcases List.mem_cons.1 hk with rfl | hk
    · exact ⟨hi, wpOp_mono (fun a' w' h' => ⟨h'.1, mix_head hsel hQ hs hc hn kA _ a' w' (inv.set (by rw [hr]; simp) hi) hA h'.1 h'.2⟩) (wpOp_one hn hi h.1)⟩
    · obtain rfl := List.mem_singleton.1 hk
      refine ⟨hj, wpOp_mono (fun a' w' h' => ⟨h'.1, ?_⟩) (wpOp_one hn hj h.2)⟩
      rw [hl]
      exact mix_head hsel hQ hs hc hn kB _ a' w' (inv.set (by rw [hr]; simp) hj) hBB h'.1 h'.2
  | (true, k) :: ks, listed, a, w, inv, hB, hS, h => by
    simp only [forkB, Bool.and_eq_true, decide_eq_true_eq, if_true] at hB
    obtain ⟨⟨hk, hr⟩, hB'⟩ := hB
    have h' : wpOne P ops Q k (fun a' w' => S w' ∧ wpFork P ops Q S T i j kA kB ks a' w') a w := h
    rw [show ((true, k) :: ks).length + (kA.length + 1) = (ks.length + (kA.length + 1)) + 1 by simp; omega]
    refine ⟨by rw [hr]; simp, fun x hx => ?_⟩
    rw [hr] at hx
    have hik : x = k := by simpa using hx
    subst hik
    exact ⟨hk, wpOp_mono (fun a' w' h' => ⟨h'.1, fork_head hsel hQ hs hc hn ks _ a' w' (inv.set (by rw [hr]; simp) hk) hB' h'.1 h'.2⟩) (wpOp_one hn hk h')⟩
  | (false, k) :: ks, listed, a, w, inv, hB, hS, h => by
    simp only [forkB, Bool.and_eq_true, decide_eq_true_eq, if_false, Bool.false_eq_true] at hB
    obtain ⟨⟨hk, ⟨hr, hf⟩, hm⟩, hB'⟩ := hB
    obtain ⟨o, hk0⟩ : ∃ o, ops[k]? = some o := ⟨ops[k]'(by omega), by simp [show k < ops.size by omega]⟩
    simp only [hk0] at hm
    have h' : wpQuiet P ops S (fun a' => wpFork P ops Q S T i j kA kB ks a' w) [o] a := by
      have := h
      unfold wpFork at this
      rw [if_neg (by simp)] at this
      exact this o hk0
    have hr' : k ∈ Region.ready md ops listed := by simpa using hr
    have hst : qOp P ops S k (wpQuiet P ops S (fun a' => wpFork P ops Q S T i j kA kB ks a' w) []) a := by unfold qOp; simp only [hk0]; exact h'
    obtain ⟨v, hy, hK⟩ := yieldsIn_of_qOp hk0 hst
    rw [show ((false, k) :: ks).length + (kA.length + 1) = (ks.length + (kA.length + 1)) + 1 by simp; omega]
    exact wpAnyLH_first hk0 (Region.noSelect_spec hsel) (hQ _ _) hs hc hn hk (fun listed' a' w' hL => seqB_ready hL.1) (ks.length + (kA.length + 1)) listed a w inv (Region.free_spec hk0 hf) hr' (mute_if hm hy) hS
      (fork_head hsel hQ hs hc hn ks _ _ w (inv.set hr' hk) hB' hS hK)

/-- what is left of the region, by the places of its operations: a fork to come. -/
def wpFk (P : Program) (l : List Oper) (Q : Exit → Act → World → Prop) (S : World → Prop) (n i j : Nat) (kA kB ks : List (Bool × Nat)) (a : Act) (w : World) : Prop :=
  wpFork P l.toArray Q S (fun a'' w'' => wpList P l.toArray Q (l.drop n) a'' w'') i j kA kB ks a w
theorem fk_loud {l : List Oper} {n i j k : Nat} {kA kB ks : List (Bool × Nat)} {o : Oper} {a : Act} {w : World} (ho : l[k]? = some o)
    (h : wpList P l.toArray (fun e a' w' => match e with | .normal => S w' ∧ wpFk P l Q S n i j kA kB ks a' w' | e => Q e a' w') [o] a w) : wpFk P l Q S n i j kA kB ((true, k) :: ks) a w := by
  show wpOne P l.toArray Q k _ a w
  intro o' ho'
  have : o' = o := by rw [List.getElem?_toArray, ho] at ho'; exact (Option.some.inj ho').symm
  subst this
  exact h
theorem fk_quiet {l : List Oper} {n i j k : Nat} {kA kB ks : List (Bool × Nat)} {o : Oper} {a : Act} {w : World} (ho : l[k]? = some o)
    (h : wpQuiet P l.toArray S (fun a' => wpFk P l Q S n i j kA kB ks a' w) [o] a) : wpFk P l Q S n i j kA kB ((false, k) :: ks) a w := by
  unfold wpFk wpFork
  rw [if_neg (by simp)]
  intro o' ho'
  have : o' = o := by rw [List.getElem?_toArray, ho] at ho'; exact (Option.some.inj ho').symm
  subst this
  exact h
theorem fk_fork {l : List Oper} {n i j : Nat} {kA kB : List (Bool × Nat)} {oi oj : Oper} {a : Act} {w : World} (hi : l[i]? = some oi) (hj : l[j]? = some oj)
    (h1 : wpList P l.toArray (fun e a' w' => match e with | .normal => S w' ∧ wpMix P l Q S n kA a' w' | e => Q e a' w') [oi] a w)
    (h2 : wpList P l.toArray (fun e a' w' => match e with | .normal => S w' ∧ wpMix P l Q S n kB a' w' | e => Q e a' w') [oj] a w) : wpFk P l Q S n i j kA kB [] a w := by
  refine ⟨fun o' ho' => ?_, fun o' ho' => ?_⟩
  · have : o' = oi := by rw [List.getElem?_toArray, hi] at ho'; exact (Option.some.inj ho').symm
    subst this
    exact h1
  · have : o' = oj := by rw [List.getElem?_toArray, hj] at ho'; exact (Option.some.inj ho').symm
    subst this
    exact h2
theorem wp_region_ext_fork {id : Nat} {a : Act} {w : World} {l : List Oper} (n i j : Nat) (kA kB ks : List (Bool × Nat)) (hm : P.follows .mixedOrders = true)
    (hB : (forkedB .any l.toArray n i j kA kB ks && decide (ks.length + (kA.length + 1) = n)) = true) (hQ : ∀ d v c a w, Q (.panic c) (a.put d v) w → Q (.panic c) a w)
    (h : wpFk P l Q (fun w' => ∃ x : Ex w, w' = x.W) n i j kA kB ks a w.drew) : (Code.region id l.toArray true).wp P Q a w := by
  simp only [forkedB, Bool.and_eq_true, decide_eq_true_eq] at hB
  obtain ⟨⟨⟨⟨⟨hsel, hn⟩, hs⟩, hc⟩, hlex⟩, hlen⟩ := hB
  have hdl : (l.drop n).length = l.toArray.size - n := by simp
  have inv0 : HeadInv .any l.toArray n (Array.replicate l.toArray.size false) :=
    ⟨by simp, fun j oj _ hl => (by rw [getD_replicate_false] at hl; cases hl), fun t _ ht => getD_in (by simpa using ht) (getD_replicate_false _ _)⟩
  have H := fork_head (md := .any) (g := l.toArray.size - n) (T := fun a'' w'' => wpList P l.toArray Q (l.drop n) a'' w'') hsel hQ hs hc hn ks _ a _ inv0 hlex (inEx (Below.refl w.heap.size w).drew) h
  refine wp_region_any hm ?_
  have := wpAny_of_headH (g := l.toArray.size - n) (fun listed' a' w' hL => by
    have := wpAny_of_seq (md := .any) (l.drop n) n listed' a' w' (fun j => by simp [List.getElem?_drop]) (by rw [hdl]; exact hL.1) hL.2
    rwa [hdl] at this) _ _ _ _ H
  rw [hlen, show n + (l.toArray.size - n) = l.toArray.size by omega] at this
  exact this
end
end Go.Proofs.Ytlgmeofpkfliaaa
end

section
namespace Go.Proofs.Ytlgmeofpkfliaaa
open Go.RowKit
attribute [local go_sem] Ex.cell? Ex.frozen? Gx.cell?

theorem run_append_empty (A : Option Addr) (c : Nat) (ty : TypeId) (W : World) : (Builtin.append_ #[54, 54] ty #[.slice none 0 0, .slice A 0 c]).run Try.prog W = .ok (.slice none 0 0) W := by
  obtain ⟨i0, hi0, hz0, hz1, hz2⟩ := info_parts int_info
  cases A with
  | none => simp [Builtin.append_, run_underlying Try.underlying54, sizeOf, typeInfo, hi0, Builtin.lenOf, Builtin.firstCells]
  | some a => simp [Builtin.append_, run_underlying Try.underlying54, sizeOf, typeInfo, hi0, Builtin.lenOf, Builtin.firstCells, loadCells, loadCellsFrom]
theorem wpList_append_empty {ops : Array Oper} {rest : List Oper} {o : Oper} {a : Act} {Q : Exit → Act → World → Prop} (w : World) (hg : o.guard = none) (s x : Operand)
    (hop : o.op = .call { callee := .builtin .append, args := #[s, x], argTypes := #[54, 54] }) (A : Option Addr) (c : Nat) (hs : a.eval s = .slice none 0 0) (hx : a.eval x = .slice A 0 c)
    (hK : wpList Try.prog ops Q rest (a.put o.dst (.slice none 0 0)) w) : wpList Try.prog ops Q (o :: rest) a w := by
  refine wpList_plain hg fun K hK' => ?_
  have hrun := run_append_empty A c o.type w
  unfold Oper.wp
  simp [execOp, hop, resolve, invoke, builtin, hs, hx, hrun, Result.andThen]
  exact hK' _ _ hK

set_option maxRecDepth 100000 in
set_option maxHeartbeats 800000 in
theorem list_any (A : Option Addr) (c : Nat) (l : List Int) (w : World) (hl : l.length ≤ 1000) (hA : SlAt w w.heap.size 1 A l.length (fI l)) :
    Calls Try.prog 76 #[.slice A l.length c] w fun e w' => (∃ A' c', e = .returned (.slice A' l.length c') ∧ w'.ownsRow w.heap.size 3 1 (.slice A' l.length c') l.length (l.map (Value.int .i64))) ∧ Below w.heap.size w w' := by
  obtain ⟨i0, hi0, hz0, hz1, hz2⟩ := info_parts int_info
  have HI := Lib.hid hi0
  clear hi0
  by_cases h0 : l.length = 0
  · rw [h0]
    have H0 := Lib.hid h0
    clear h0
    go_enter Try.func76, Try.ntmps76
    go_wp2_with (at_builtin; refine wpList_append_empty _ rfl _ _ rfl A c rfl rfl ?_)
    go_ret
    exact ⟨⟨none, 0, rfl, by simp [H0.out], .inl ⟨rfl, rfl⟩⟩, Below.refl _ _⟩
  · obtain ⟨b, off, rfl, hb, hc⟩ := hA (by omega)
    have hpos : 0 < l.length := by omega
    clear h0
    have hcc : ∀ j u, (l.map (Value.int .i64))[j]? = some u → w.cell? ((⟨b, off, none⟩ : Addr).add j) = some u := by
      intro j u hu
      have hj : j < l.length := by
        have := (List.getElem?_eq_some_iff.1 hu).1
        simpa using this
      rw [Addr.add_lit]
      have := hc j 0 hj (by omega)
      simp only [Nat.mul_one, Nat.add_zero] at this
      rw [this]
      simp [fI, gI, hj] at hu ⊢
      exact hu
    go_enter Try.func76, Try.ntmps76
    go_wp2_with (at_builtin; refine wpList_append_grows _ rfl _ _ _ rfl 3 i0 _ 1 8 Try.underlying54 HI.out hz0 hz1 hz2 rfl (by omega) none 0 0 [] rfl (fun _ => ⟨rfl, rfl⟩) rfl (fun b hb => by cases hb) ⟨b, off, none⟩ l.length c (l.map (Value.int .i64)) rfl (by simp) hcc (fun u hu => by obtain ⟨x, _, rfl⟩ := List.mem_map.1 hu; rfl) (by omega) (by unfold maxLen; omega) (by omega) ?_; intro v' w' hown hgrow)
    rw [Nat.zero_add, List.nil_append] at hown
    obtain ⟨A', c', rfl, _, hs⟩ := own_sl hown
    go_ret
    exact ⟨⟨A', c', rfl, hown⟩, (Below.refl _ _).grown hgrow (Nat.le_refl _) (fun j hj => by cases hj)⟩

set_option maxRecDepth 100000 in
set_option maxHeartbeats 1600000 in
theorem Truth_any (w : World) (A1 A2 A3 : Option Addr) (c1 c2 c3 : Nat) (t1 t2 t3 : List Int) (k1 : SlAt w w.heap.size 1 A1 t1.length (fI t1)) (k2 : SlAt w w.heap.size 1 A2 t2.length (fI t2)) (k3 : SlAt w w.heap.size 1 A3 t3.length (fI t3)) (h1 : t1.length ≤ 1000) (h2 : t2.length ≤ 1000) (h3 : t3.length ≤ 1000) :
    Calls Try.prog 42 #[.agg #[.slice A1 t1.length c1, .slice A2 t2.length c2, .slice A3 t3.length c3]] w fun e w' => (∃ A1' A2' A3' c1' c2' c3', e = .returned (.agg #[.slice A1' t1.length c1', .slice A2' t2.length c2', .slice A3' t3.length c3']) ∧
      SlAt w' w'.heap.size 1 A1' t1.length (fI t1) ∧ SlAt w' w'.heap.size 1 A2' t2.length (fI t2) ∧ SlAt w' w'.heap.size 1 A3' t3.length (fI t3)) ∧ Below w.heap.size w w' := by
  have hb1 := ex_alloc (ex_alloc (Below.refl w.heap.size w) (.cells #[.slice A1 t1.length c1, .slice A2 t2.length c2, .slice A3 t3.length c3] 56)) (.cells #[.slice none 0 0, .slice none 0 0, .slice none 0 0] 79)
  have q0 : Blk ((w.alloc (.cells #[.slice A1 t1.length c1, .slice A2 t2.length c2, .slice A3 t3.length c3] 56)).alloc (.cells #[.slice none 0 0, .slice none 0 0, .slice none 0 0] 79)) w.heap.size 56 #[.slice A1 t1.length c1, .slice A2 t2.length c2, .slice A3 t3.length c3] := (Blk.new _ _ _).alloc _
  have q1 : Blk ((w.alloc (.cells #[.slice A1 t1.length c1, .slice A2 t2.length c2, .slice A3 t3.length c3] 56)).alloc (.cells #[.slice none 0 0, .slice none 0 0, .slice none 0 0] 79)) (w.heap.size + 1) 79 #[.slice none 0 0, .slice none 0 0, .slice none 0 0] := Blk.new' _ _ _ (by simp)
  have a1 := (k1.below hb1).up hb1.size
  have a2 := (k2.below hb1).up hb1.size
  have a3 := (k3.below hb1).up hb1.size
  go_enter Try.func42, Try.ntmps42
  go_wp2_with fail
  generalize (w.alloc (.cells #[.slice A1 t1.length c1, .slice A2 t2.length c2, .slice A3 t3.length c3] 56)).alloc (.cells #[.slice none 0 0, .slice none 0 0, .slice none 0 0] 79) = W at *
  have c0 : W.cell? ⟨w.heap.size, 0, none⟩ = some (.slice A1 t1.length c1) := q0.cell 0
  have c1' : W.cell? ⟨w.heap.size, 1, none⟩ = some (.slice A2 t2.length c2) := q0.cell 1
  have c2' : W.cell? ⟨w.heap.size, 2, none⟩ = some (.slice A3 t3.length c3) := q0.cell 2
  have l0 := q0.lt
  have hX0 := (Below.refl W.heap.size W).drew
  refine wp_region_ext_mix 10 [(false, 0), (false, 1), (false, 3), (false, 4), (false, 6), (false, 7), (true, 2), (true, 5), (true, 8), (false, 9)] (by kernel_rfl) (by kernel_rfl) (by intro d _ _ _ _ h; cases d <;> exact h) ?_
  repeat (refine mix_quiet rfl ?_; go_big_quiet_step (fail); refine wpQuiet_nil ?_)
  refine mix_loud rfl ?_
  go_wp2_with fail
  refine (list_any _ _ t1 W.drew h1 a1).mono ?_
  rintro e x1 ⟨⟨A1', c1', rfl, s1⟩, hx1⟩
  have hX1 := ex_trans hX0 hx1
  go_wp2_with fail
  refine ⟨inEx hX1, ?_⟩
  refine mix_loud rfl ?_
  go_wp2_with fail
  refine (list_any _ _ t2 _ h2 ((a2.below hX1).up hX1.size)).mono ?_
  rintro e x2 ⟨⟨A2', c2', rfl, s2⟩, hx2⟩
  have hX2 := ex_trans hX1 hx2
  go_wp2_with fail
  refine ⟨inEx hX2, ?_⟩
  refine mix_loud rfl ?_
  go_wp2_with fail
  refine (list_any _ _ t3 _ h3 ((a3.below hX2).up hX2.size)).mono ?_
  rintro e x3 ⟨⟨A3', c3', rfl, s3⟩, hx3⟩
  have hX3 := ex_trans hX2 hx3
  go_wp2_with fail
  refine ⟨inEx hX3, ?_⟩
  repeat (refine mix_quiet rfl ?_; go_big_quiet_step (fail); refine wpQuiet_nil ?_)
  refine mix_nil rfl ?_
  have p1 := q1.below hX3 q1.lt
  have lp := p1.lt
  have f0 := p1.frozen 0
  have f1 := p1.frozen 1
  have f2 := p1.frozen 2
  have d0 := p1.cell 0
  have d1 := p1.cell 1
  have d2 := p1.cell 2
  simp at d0 d1 d2
  have r5 := ((p1.set_ 0 (.slice A1' t1.length c1')).set_ 1 (.slice A2' t2.length c2')).set_ 2 (.slice A3' t3.length c3')
  simp only [List.setIfInBounds_toArray, List.set_cons_zero, List.set_cons_succ] at r5
  have hf : Fr (fun b => b = w.heap.size + 1) x3 (((x3.setCell ⟨w.heap.size + 1, 0, none⟩ (.slice A1' t1.length c1')).setCell ⟨w.heap.size + 1, 1, none⟩ (.slice A2' t2.length c2')).setCell ⟨w.heap.size + 1, 2, none⟩ (.slice A3' t3.length c3')) :=
    (((Fr.refl (fun b => b = w.heap.size + 1) x3).andSet rfl).andSet rfl).andSet rfl
  go_wp2
  refine bodyPost_ret (results_cell_row rfl _ _ (w.heap.size + 1) 79 #[.slice A1' t1.length c1', .slice A2' t2.length c2', .slice A3' t3.length c3'] (0, 0) _ rfl r5 rfl rfl rfl) rfl ?_
  have hW3 := ex_trans hb1 hX3
  have hx12 := hx2.trans (hx3.mono hx2.size)
  have hz1 := hX1.size
  have hz2 := hX2.size
  have hq1 := q1.lt
  have o1 := own_fr (own_below s1 hx12) hf (fun b hb h => by have := (own_lt s1 hb).1; simp at this; omega)
  have o2 := own_fr (own_below s2 hx3) hf (fun b hb h => by have := (own_lt s2 hb).1; omega)
  have o3 := own_fr s3 hf (fun b hb h => by have := (own_lt s3 hb).1; omega)
  obtain ⟨_, _, e1, _, u1⟩ := own_sl o1
  obtain ⟨_, _, e2, _, u2⟩ := own_sl o2
  obtain ⟨_, _, e3, _, u3⟩ := own_sl o3
  injection e1 with e1 _ _
  injection e2 with e2 _ _
  injection e3 with e3 _ _
  subst e1 e2 e3
  exact ⟨⟨_, _, _, _, _, _, rfl, u1, u2, u3⟩, hf.toBelow hW3 hW3.size (fun x hx => by omega)⟩

end Go.Proofs.Ytlgmeofpkfliaaa
end

section
namespace Go.Proofs.Ytlgmeofpkfliaaa
open Go.RowKit
attribute [local go_sem] Ex.cell? Ex.frozen? Gx.cell?

theorem exFrame' {T : Array Value} {F : (Nat → Value) → Array Value} {ds : List Deferred} (h : T = F (fun i => T.getD i undef)) : ∃ u, Act.mk T ds = Act.mk (F u) ds := ⟨_, congrArg (fun T => Act.mk T ds) h⟩
theorem bdG_info : (Try.prog.info? 97).map (fun i => (i.zero, i.size, i.bytes)) = some (some (.agg #[.int .i64 0, .int .i64 0, .int .i64 0]), 3, 24) := by kernel_rfl
theorem dpG_info : (Try.prog.info? 99).map (fun i => (i.zero, i.size, i.bytes)) = some (some (.agg #[.int .i64 0, .int .i64 0]), 2, 16) := by kernel_rfl

/-- what lies behind the first statement. -/
structure GA (g : Gl) (gc : Array Value) (w : World) (p : Nat) (vB vD : Value) (W : World) : Prop where
  bw : Below w.heap.size w W
  q1 : Blk W w.heap.size 27 gc
  q2 : Blk W (w.heap.size + 1) 39 #[.int .i64 0, .slice none 0 0, .slice none 0 0, .int .i64 0, .int .i64 0]
  hp : w.heap.size + 1 + 1 ≤ p
  qp : Blk W p 39 #[.int .i64 g.base, vB, vD, .int .i64 g.blo, .int .i64 g.bhi]

theorem GA.below {g : Gl} {gc : Array Value} {w : World} {p : Nat} {vB vD : Value} {W W' : World} (h : GA g gc w p vB vD W) (hb : Below W.heap.size W W') : GA g gc w p vB vD W' :=
  ⟨ex_trans h.bw hb, h.q1.below hb h.q1.lt, h.q2.below hb h.q2.lt, h.hp, h.qp.below hb h.qp.lt⟩

theorem GA.step {g : Gl} {gc : Array Value} {w : World} {p : Nat} {vB vD v vB' vD' : Value} {W W' : World} {e : TypeId} {sz n : Nat} {xs : List Value} (h : GA g gc w p vB vD W) (ho : W.ownsRow (w.heap.size + 1 + 1) e sz v n xs)
    (hf : Fr (fun b => b = p ∨ v.ownBlock = some b) W W') (hq : Blk W' p 39 #[.int .i64 g.base, vB', vD', .int .i64 g.blo, .int .i64 g.bhi]) : GA g gc w p vB' vD' W' := by
  have hp := h.hp
  have hno : ∀ x, x < w.heap.size + 1 + 1 → ¬ (x = p ∨ v.ownBlock = some x) := fun x h1 h2 => by
    rcases h2 with h2 | h2
    · omega
    · have := own_ge ho h2; omega
  exact ⟨hf.toBelow h.bw h.bw.size (fun x hx => by
    rcases hx with hx | hx
    · omega
    · have := own_ge ho hx; omega), h.q1.fr hf (hno _ (by omega)), h.q2.fr hf (hno _ (by omega)), hp, hq⟩

set_option maxRecDepth 100000 in
def GAQ (g : Gl) (Ab Ad : Option Addr) (cb cd : Nat) (w : World) (e : Exit) (a' : Act) (W' : World) : Prop :=
  e = .normal ∧ ∃ p, GA g #[.int .i64 g.base, .slice Ab g.bands.length cb, .slice Ad g.depths.length cd, .int .i64 g.blo, .int .i64 g.bhi] w p (.slice none 0 0) (.slice none 0 0) W' ∧ ∃ u : Nat → Value, a' = ⟨List.toArray (.agg #[.int .i64 g.base, .slice Ab g.bands.length cb, .slice Ad g.depths.length cd, .int .i64 g.blo, .int .i64 g.bhi] :: .pointer (some ⟨w.heap.size, 0, none⟩) :: .pointer (some ⟨w.heap.size + 1, 0, none⟩) :: .pointer (some ⟨p, 0, none⟩) :: u 4 :: u 5 :: u 6 :: u 7 :: u 8 :: u 9 :: u 10 :: u 11 :: u 12 :: u 13 :: u 14 :: u 15 :: u 16 :: u 17 :: u 18 :: u 19 :: u 20 :: u 21 :: u 22 :: u 23 :: u 24 :: u 25 :: u 26 :: u 27 :: u 28 :: u 29 :: u 30 :: u 31 :: u 32 :: u 33 :: u 34 :: u 35 :: u 36 :: u 37 :: u 38 :: u 39 :: u 40 :: u 41 :: u 42 :: u 43 :: u 44 :: u 45 :: u 46 :: u 47 :: u 48 :: u 49 :: u 50 :: u 51 :: u 52 :: u 53 :: u 54 :: u 55 :: u 56 :: u 57 :: u 58 :: u 59 :: u 60 :: u 61 :: u 62 :: u 63 :: []), []⟩

set_option maxRecDepth 100000 in
set_option maxHeartbeats 6400000 in
theorem Glass_any (g : Gl) (Ab Ad : Option Addr) (cb cd : Nat) (w : World) (hg : GlIn w w.heap.size g Ab Ad) (hnb : g.bands.length ≤ 1000) (hnd : g.depths.length ≤ 1000) :
    Calls Try.prog 20 #[.agg #[.int .i64 g.base, .slice Ab g.bands.length cb, .slice Ad g.depths.length cd, .int .i64 g.blo, .int .i64 g.bhi]] w fun e w' => (∃ Ab' Ad' cb' cd', e = .returned (.agg #[.int .i64 g.base, .slice Ab' g.bands.length cb', .slice Ad' g.depths.length cd', .int .i64 g.blo, .int .i64 g.bhi]) ∧ GlIn w' w'.heap.size g Ab' Ad') ∧ Below w.heap.size w w' := by
  obtain ⟨iB, hiB, hzB0, hzB1, hzB2⟩ := info_parts bdG_info
  have HIB := Lib.hid hiB
  obtain ⟨iD, hiD, hzD0, hzD1, hzD2⟩ := info_parts dpG_info
  have HID := Lib.hid hiD
  clear hiB hiD
  have hb1 := ex_alloc (ex_alloc (Below.refl w.heap.size w) (.cells #[.int .i64 g.base, .slice Ab g.bands.length cb, .slice Ad g.depths.length cd, .int .i64 g.blo, .int .i64 g.bhi] 27)) (.cells #[.int .i64 0, .slice none 0 0, .slice none 0 0, .int .i64 0, .int .i64 0] 39)
  have q1 : Blk ((w.alloc (.cells #[.int .i64 g.base, .slice Ab g.bands.length cb, .slice Ad g.depths.length cd, .int .i64 g.blo, .int .i64 g.bhi] 27)).alloc (.cells #[.int .i64 0, .slice none 0 0, .slice none 0 0, .int .i64 0, .int .i64 0] 39)) w.heap.size 27 #[.int .i64 g.base, .slice Ab g.bands.length cb, .slice Ad g.depths.length cd, .int .i64 g.blo, .int .i64 g.bhi] := (Blk.new _ _ _).alloc _
  have q2 : Blk ((w.alloc (.cells #[.int .i64 g.base, .slice Ab g.bands.length cb, .slice Ad g.depths.length cd, .int .i64 g.blo, .int .i64 g.bhi] 27)).alloc (.cells #[.int .i64 0, .slice none 0 0, .slice none 0 0, .int .i64 0, .int .i64 0] 39)) (w.heap.size + 1) 39 #[.int .i64 0, .slice none 0 0, .slice none 0 0, .int .i64 0, .int .i64 0] := Blk.new' _ _ _ (by simp)
  have hsz : ((w.alloc (.cells #[.int .i64 g.base, .slice Ab g.bands.length cb, .slice Ad g.depths.length cd, .int .i64 g.blo, .int .i64 g.bhi] 27)).alloc (.cells #[.int .i64 0, .slice none 0 0, .slice none 0 0, .int .i64 0, .int .i64 0] 39)).heap.size = w.heap.size + 1 + 1 := by simp
  go_enter Try.func20, Try.ntmps20
  go_wp2_with fail
  have HSZ := Lib.hid hsz
  clear hsz
  generalize (w.alloc (.cells #[.int .i64 g.base, .slice Ab g.bands.length cb, .slice Ad g.depths.length cd, .int .i64 g.blo, .int .i64 g.bhi] 27)).alloc (.cells #[.int .i64 0, .slice none 0 0, .slice none 0 0, .int .i64 0, .int .i64 0] 39) = W at *
  have a0 : W.cell? ⟨w.heap.size, 0, none⟩ = some (.int .i64 g.base) := q1.cell 0
  have a3 : W.cell? ⟨w.heap.size, 3, none⟩ = some (.int .i64 g.blo) := q1.cell 3
  have a4 : W.cell? ⟨w.heap.size, 4, none⟩ = some (.int .i64 g.bhi) := q1.cell 4
  have l1 := q1.lt
  have hX0 := (Below.refl W.heap.size W).drew
  refine Code.wp_mono (Q := GAQ g Ab Ad cb cd w) ?_ ?_
  rotate_left
  · refine wp_region_ext_fork 7 4 6 [(false, 5), (true, 6)] [(true, 4), (false, 5)] [(false, 0), (false, 1), (false, 2), (false, 3)] (by kernel_rfl) (by kernel_rfl) (by rintro d v c a w ⟨h, _⟩; cases h) ?_
    repeat (refine fk_quiet rfl ?_; go_big_quiet_step (fail); refine wpQuiet_nil ?_)
    refine fk_fork rfl rfl ?_ ?_
    · go_wp2_with fail
      refine (to_law _ _ _).mono ?_
      rintro e x1 ⟨rfl, hx1⟩
      have hX1 := ex_trans hX0 hx1
      go_wp2_with fail
      refine ⟨inEx hX1, ?_⟩
      repeat (refine mix_quiet rfl ?_; go_big_quiet_step (fail); refine wpQuiet_nil ?_)
      refine mix_loud rfl ?_
      go_wp2_with fail
      refine ⟨inEx (ex_alloc hX1 _), ?_⟩
      refine mix_nil rfl ?_
      go_wp2
      have hX2 := ex_alloc hX1 (.cells #[.int .i64 g.base, .slice none 0 0, .slice none 0 0, .int .i64 g.blo, .int .i64 g.bhi] 39)
      exact ⟨rfl, x1.heap.size, ⟨ex_trans hb1 hX2, q1.below hX2 q1.lt, q2.below hX2 q2.lt, by have := hX1.size; have := HSZ.out; omega, Blk.new _ _ _⟩, exFrame' (by kernel_rfl)⟩
    · go_wp2_with fail
      have hXA : Below W.heap.size W (W.alloc (.cells #[.int .i64 0, .slice none 0 0, .slice none 0 0, .int .i64 0, .int .i64 0] 39)).drew := (ex_alloc (Below.refl _ _) _).drew
      refine ⟨inEx hXA, ?_⟩
      have qp : Blk (W.alloc (.cells #[.int .i64 0, .slice none 0 0, .slice none 0 0, .int .i64 0, .int .i64 0] 39)).drew W.heap.size 39 #[.int .i64 0, .slice none 0 0, .slice none 0 0, .int .i64 0, .int .i64 0] := Blk.new _ _ _
      refine mix_loud rfl ?_
      go_wp2_with fail
      refine (to_law _ _ _).mono ?_
      rintro e x1 ⟨rfl, hx1⟩
      have hX1 : Below W.heap.size W x1 := ex_trans hXA hx1
      go_wp2_with fail
      refine ⟨inEx hX1, ?_⟩
      repeat (refine mix_quiet rfl ?_; go_big_quiet_step (fail); refine wpQuiet_nil ?_)
      refine mix_nil rfl ?_
      have r0 := qp.below hx1 qp.lt
      have b0 := r0.cell 0
      have b1 := r0.cell 1
      have b2 := r0.cell 2
      have b3 := r0.cell 3
      have b4 := r0.cell 4
      have f0 := r0.frozen 0
      have f1 := r0.frozen 1
      have f2 := r0.frozen 2
      have f3 := r0.frozen 3
      have f4 := r0.frozen 4
      have lr := r0.lt
      simp at b0 b1 b2 b3 b4
      have r5 := ((((r0.set_ 0 (.int .i64 g.base)).set_ 1 (.slice none 0 0)).set_ 2 (.slice none 0 0)).set_ 3 (.int .i64 g.blo)).set_ 4 (.int .i64 g.bhi)
      simp only [List.setIfInBounds_toArray, List.set_cons_zero, List.set_cons_succ] at r5
      have hf : Fr (fun b => b = W.heap.size) x1 (((((x1.setCell ⟨W.heap.size, 0, none⟩ (.int .i64 g.base)).setCell ⟨W.heap.size, 1, none⟩ (.slice none 0 0)).setCell ⟨W.heap.size, 2, none⟩ (.slice none 0 0)).setCell ⟨W.heap.size, 3, none⟩ (.int .i64 g.blo)).setCell ⟨W.heap.size, 4, none⟩ (.int .i64 g.bhi)) :=
        (((((Fr.refl (fun b => b = W.heap.size) x1).andSet rfl).andSet rfl).andSet rfl).andSet rfl).andSet rfl
      have hX2 := hf.toBelow hX1 hX1.size (fun x hx => by rw [hx]; exact Nat.le_refl _)
      go_wp2
      exact ⟨rfl, W.heap.size, ⟨ex_trans hb1 hX2, q1.below hX2 q1.lt, q2.below hX2 q2.lt, by have := HSZ.out; omega, r5⟩, exFrame' (by kernel_rfl)⟩
  rintro e a' W1 ⟨rfl, p, hGA, u, rfl⟩
  clear a0 a3 a4 l1 hX0 q1 q2 hb1 HSZ
  go_wp2_with fail
  go_loopw [4] (fun i wr => ∃ (k : Nat) (vB : Value), k ≤ g.bands.length ∧ i = .int .i64 k ∧ GA g #[.int .i64 g.base, .slice Ab g.bands.length cb, .slice Ad g.depths.length cd, .int .i64 g.blo, .int .i64 g.bhi] w p vB (.slice none 0 0) wr ∧ wr.ownsRow (w.heap.size + 1 + 1) 97 3 vB (g.bands.take k).length ((g.bands.take k).flatMap cB))
    (fun i _ => g.bands.length - (intOf i).toNat)
  case atStart => exact ⟨0, _, by omega, rfl, hGA, ⟨rfl, .inl ⟨rfl, rfl⟩⟩⟩
  case round =>
    clear hGA
    obtain ⟨k, vB, hk, rfl, hGA, hown⟩ := hrel
    have a1 : wr.cell? ⟨w.heap.size, 1, none⟩ = some (.slice Ab g.bands.length cb) := hGA.q1.cell 1
    have l1 := hGA.q1.lt
    have lp := hGA.qp.lt
    have e1 : wr.cell? ⟨p, 1, none⟩ = some vB := hGA.qp.cell 1
    have hwr := hGA.bw.size
    have hpw := hGA.hp
    by_cases hlt : k < g.bands.length
    · obtain ⟨b, off, rfl, hb, c0, c1, c2⟩ := IsBds.at_ (hg.b.below hGA.bw) hlt
      have HE := Lib.hid (gB_at hlt)
      have hbr : b < wr.heap.size := by omega
      obtain ⟨row, hrow⟩ : ∃ row, vB.ownBlock = row := ⟨_, rfl⟩
      have hn1 : ¬ some b = row := fun e => by have := own_ge hown (hrow.trans e.symm); omega
      have hn2 : ¬ some w.heap.size = row := fun e => by have := own_ge hown (hrow.trans e.symm); omega
      have hn3 : ¬ some p = row := fun e => own_blkne hown hGA.qp (by decide) (hrow.trans e.symm)
      have HROW := Lib.hid hrow
      clear hrow
      have HGA := Lib.hid hGA
      clear hGA
      go_wp2_with fail
      refine wp_region_gx_mix row 18 [(false, 0), (false, 1), (false, 2), (false, 3), (false, 4), (false, 5), (false, 6), (false, 7), (false, 8), (false, 9), (false, 10), (false, 11), (false, 12), (false, 13), (true, 14), (false, 15), (true, 16), (true, 17)] (by kernel_rfl) (by kernel_rfl) (by intro d _ _ _ _ h; cases d <;> exact h) ?_
      repeat (refine mix_quiet rfl ?_; go_big_quiet_step (fail); refine wpQuiet_nil ?_)
      refine mix_loud rfl ?_
      go_wp2_with fail
      refine (to_law _ _ _).mono ?_
      rintro e x1 ⟨rfl, hx1⟩
      have hX1 : Below wr.heap.size wr x1 := (Below.refl wr.heap.size wr).drew.trans hx1
      go_wp2_with fail
      refine ⟨inGx (grown_row hX1), ?_⟩
      repeat (refine mix_quiet rfl ?_; go_big_quiet_step (fail); refine wpQuiet_nil ?_)
      refine mix_loud rfl ?_
      go_wp2_with fail
      have hX2 := ex_alloc hX1 (.cells #[.int .i64 (gB g.bands k).from_, .int .i64 (gB g.bands k).lo, .int .i64 (gB g.bands k).hi] 97)
      refine ⟨inGx (grown_row hX2), ?_⟩
      have y4 := own_below hown hX2
      have hlen : (g.bands.take k).length = k := by rw [List.length_take]; omega
      have c63 : (g.bands.take k).length + 1 ≤ maxLen := by unfold maxLen; omega
      have cby : ((g.bands.take k).length + 1) * 24 ≤ 140737488355328 := by omega
      have hbase : w.heap.size + 1 + 1 ≤ (x1.alloc (.cells #[.int .i64 (gB g.bands k).from_, .int .i64 (gB g.bands k).lo, .int .i64 (gB g.bands k).hi] 97)).heap.size := by have := hX1.size; simp; omega
      have HLEN := Lib.hid hlen
      clear hlen
      refine mix_loud rfl ?_
      go_wp2_with (at_builtin; refine wpList_append_lies _ rfl _ _ _ rfl (w.heap.size + 1 + 1) 97 iB _ 3 24 Try.underlying35 HIB.out hzB0 hzB1 hzB2 rfl (by omega) vB _ _ rfl y4 ⟨x1.heap.size, 0, none⟩ 1 1 [.int .i64 (gB g.bands k).from_, .int .i64 (gB g.bands k).lo, .int .i64 (gB g.bands k).hi] rfl rfl (World.news_of_block (heap_alloc_new x1 _)) (by simp [Value.oneCell']) (by omega) c63 cby hbase (x1.heap.size + 1) (by simp) ?_; intro gg cap w1 hown' hgrow hat hlt')
      rw [HROW.out] at hgrow
      have hgB := (grown_row (r := row) hX2).andThen hgrow (fun j hj => .inr hj)
      refine ⟨inGx hgB, ?_⟩
      refine mix_nil rfl ?_
      have G := HGA.out
      have qp1 := G.qp.grown hgB hn3
      have e2 : w1.cell? ⟨p, 1, none⟩ = some vB := qp1.cell 1
      have f2 := qp1.frozen 1
      have lp1 := qp1.lt
      rw [HLEN.out] at hown'
      go_wp2
      have hf : Fr (fun b => b = p ∨ vB.ownBlock = some b) wr (w1.setCell ⟨p, 1, none⟩ (.slice (some ⟨gg, 0, none⟩) (k + 1) cap)) := (Fr.grown hgB (fun b hb => .inl (.inr (by rw [HROW.out]; exact hb)))).andSet (.inl rfl)
      go_roundw
      case rel => exact ⟨k + 1, _, by omega, by go_num, G.step hown hf (qp1.set_ 1 _), own_fr (flat_snoc hlt (by rw [HLEN.out]) (by rw [← HE.out]; exact hown')) (Fr.set (R := fun b => b = p) _ _ _ _ rfl) (fun b hb hbp => own_blkne hown' qp1 (by decide) (hbp ▸ hb))⟩
      case measure => simp [intOf]; omega
    · have HK : Hid (k = g.bands.length) := Lib.hid (by omega)
      rw [HK.out, List.take_length] at hown
      have HOB := Lib.hid hown
      clear hown
      go_wp2_with fail
      go_loopw [5] (fun i wr => ∃ (k : Nat) (vD : Value), k ≤ g.depths.length ∧ i = .int .i64 k ∧ GA g #[.int .i64 g.base, .slice Ab g.bands.length cb, .slice Ad g.depths.length cd, .int .i64 g.blo, .int .i64 g.bhi] w p vB vD wr ∧ wr.ownsRow (w.heap.size + 1 + 1) 97 3 vB g.bands.length (g.bands.flatMap cB) ∧ wr.ownsRow (w.heap.size + 1 + 1) 99 2 vD (g.depths.take k).length ((g.depths.take k).flatMap cD))
        (fun i _ => g.depths.length - (intOf i).toNat)
      case atStart => exact ⟨0, _, by omega, rfl, hGA, HOB.out, ⟨rfl, .inl ⟨rfl, rfl⟩⟩⟩
      case round =>
        clear hGA hlt hwr hpw lp l1 hk HK HOB
        obtain ⟨k, vD, hk, rfl, hGA, hownB, hown⟩ := hrel
        have HOB := Lib.hid hownB
        clear hownB
        have a1 : wr.cell? ⟨w.heap.size, 2, none⟩ = some (.slice Ad g.depths.length cd) := hGA.q1.cell 2
        have l1 := hGA.q1.lt
        have lp := hGA.qp.lt
        have e1 : wr.cell? ⟨p, 2, none⟩ = some vD := hGA.qp.cell 2
        have hwr := hGA.bw.size
        have hpw := hGA.hp
        by_cases hlt : k < g.depths.length
        · obtain ⟨b, off, rfl, hb, c0, c1⟩ := IsDps.at_ (hg.d.below hGA.bw) hlt
          have HE := Lib.hid (gD_at hlt)
          have hbr : b < wr.heap.size := by omega
          obtain ⟨row, hrow⟩ : ∃ row, vD.ownBlock = row := ⟨_, rfl⟩
          have hn1 : ¬ some b = row := fun e => by have := own_ge hown (hrow.trans e.symm); omega
          have hn2 : ¬ some w.heap.size = row := fun e => by have := own_ge hown (hrow.trans e.symm); omega
          have hn3 : ¬ some p = row := fun e => own_blkne hown hGA.qp (by decide) (hrow.trans e.symm)
          have HROW := Lib.hid hrow
          clear hrow
          have HGA := Lib.hid hGA
          clear hGA
          go_wp2_with fail
          refine wp_region_gx_mix row 17 [(false, 0), (false, 1), (false, 2), (false, 3), (false, 4), (false, 5), (false, 6), (false, 7), (false, 8), (false, 9), (false, 10), (false, 11), (false, 12), (false, 13), (false, 14), (true, 15), (true, 16)] (by kernel_rfl) (by kernel_rfl) (by intro d _ _ _ _ h; cases d <;> exact h) ?_
          repeat (refine mix_quiet rfl ?_; go_big_quiet_step (fail); refine wpQuiet_nil ?_)
          refine mix_loud rfl ?_
          go_wp2_with fail
          have hX2 : Below wr.heap.size wr (wr.alloc (.cells #[.int .i64 (gD g.depths k).from_, .int .i64 (gD g.depths k).sink] 99)).drew := ((Below.refl wr.heap.size wr).alloc (Nat.le_refl _) _).drew
          refine ⟨inGx (grown_row hX2), ?_⟩
          have y4 := own_below hown hX2
          have hlen : (g.depths.take k).length = k := by rw [List.length_take]; omega
          have c63 : (g.depths.take k).length + 1 ≤ maxLen := by unfold maxLen; omega
          have cby : ((g.depths.take k).length + 1) * 16 ≤ 140737488355328 := by omega
          have hbase : w.heap.size + 1 + 1 ≤ (wr.alloc (.cells #[.int .i64 (gD g.depths k).from_, .int .i64 (gD g.depths k).sink] 99)).drew.heap.size := by simp; omega
          have hnew : ∀ j u, ([.int .i64 (gD g.depths k).from_, .int .i64 (gD g.depths k).sink] : List Value)[j]? = some u → (wr.alloc (.cells #[.int .i64 (gD g.depths k).from_, .int .i64 (gD g.depths k).sink] 99)).drew.cell? ((⟨wr.heap.size, 0, none⟩ : Addr).add j) = some u := World.news_of_block (heap_alloc_new wr _)
          have HLEN := Lib.hid hlen
          clear hlen
          refine mix_loud rfl ?_
          go_wp2_with (at_builtin; refine wpList_append_lies _ rfl _ _ _ rfl (w.heap.size + 1 + 1) 99 iD _ 2 16 Try.underlying36 HID.out hzD0 hzD1 hzD2 rfl (by omega) vD _ _ rfl y4 ⟨wr.heap.size, 0, none⟩ 1 1 [.int .i64 (gD g.depths k).from_, .int .i64 (gD g.depths k).sink] rfl rfl hnew (by simp [Value.oneCell']) (by omega) c63 cby hbase (wr.heap.size + 1) (by simp) ?_; intro gg cap w1 hown' hgrow hat hlt')
          rw [HROW.out] at hgrow
          have hgB := (grown_row (r := row) hX2).andThen hgrow (fun j hj => .inr hj)
          refine ⟨inGx hgB, ?_⟩
          refine mix_nil rfl ?_
          have G := HGA.out
          have qp1 := G.qp.grown hgB hn3
          have e2 : w1.cell? ⟨p, 2, none⟩ = some vD := qp1.cell 2
          have f2 := qp1.frozen 2
          have lp1 := qp1.lt
          rw [HLEN.out] at hown'
          go_wp2
          have hf : Fr (fun b => b = p ∨ vD.ownBlock = some b) wr (w1.setCell ⟨p, 2, none⟩ (.slice (some ⟨gg, 0, none⟩) (k + 1) cap)) := (Fr.grown hgB (fun b hb => .inl (.inr (by rw [HROW.out]; exact hb)))).andSet (.inl rfl)
          go_roundw
          case rel => exact ⟨k + 1, _, by omega, by go_num, G.step hown hf (qp1.set_ 2 _), own_fr HOB.out hf (fun b hb hbp => by
              rcases hbp with hbp | hbp
              · exact own_blkne HOB.out G.qp (by decide) (hbp ▸ hb)
              · exact own_ownne HOB.out hown (by decide) hb hbp), own_fr (flat_snoc hlt (by rw [HLEN.out]) (by rw [← HE.out]; exact hown')) (Fr.set (R := fun b => b = p) _ _ _ _ rfl) (fun b hb hbp => own_blkne hown' qp1 (by decide) (hbp ▸ hb))⟩
          case measure => simp [intOf]; omega
        · have HK : Hid (k = g.depths.length) := Lib.hid (by omega)
          rw [HK.out, List.take_length] at hown
          clear HK
          obtain ⟨Ab', cb', hvB, hcb1, hcb2, hsB⟩ := own_B HOB.out
          obtain ⟨Ad', cd', hvD, hcd1, hcd2, hsD⟩ := own_D hown
          subst hvB hvD
          have G := hGA
          have HG := Lib.hid hGA
          have g0 : wr.cell? ⟨p, 0, none⟩ = some (.int .i64 g.base) := G.qp.cell 0
          have g1 : wr.cell? ⟨p, 1, none⟩ = some (.slice Ab' g.bands.length cb') := G.qp.cell 1
          have g3 : wr.cell? ⟨p, 3, none⟩ = some (.int .i64 g.blo) := G.qp.cell 3
          have g4 : wr.cell? ⟨p, 4, none⟩ = some (.int .i64 g.bhi) := G.qp.cell 4
          have r0 := G.q2
          have b0 := r0.cell 0
          have b1 := r0.cell 1
          have b2 := r0.cell 2
          have b3 := r0.cell 3
          have b4 := r0.cell 4
          have f0 := r0.frozen 0
          have f1 := r0.frozen 1
          have f2 := r0.frozen 2
          have f3 := r0.frozen 3
          have f4 := r0.frozen 4
          have lr := r0.lt
          simp at b0 b1 b2 b3 b4
          have hf : Fr (fun b => b = w.heap.size + 1) wr (((((wr.setCell ⟨w.heap.size + 1, 0, none⟩ (.int .i64 g.base)).setCell ⟨w.heap.size + 1, 1, none⟩ (.slice Ab' g.bands.length cb')).setCell ⟨w.heap.size + 1, 2, none⟩ (.slice Ad' g.depths.length cd')).setCell ⟨w.heap.size + 1, 3, none⟩ (.int .i64 g.blo)).setCell ⟨w.heap.size + 1, 4, none⟩ (.int .i64 g.bhi)) :=
            (((((Fr.refl (fun b => b = w.heap.size + 1) wr).andSet rfl).andSet rfl).andSet rfl).andSet rfl).andSet rfl
          have r5 := ((((r0.set_ 0 (.int .i64 g.base)).set_ 1 (.slice Ab' g.bands.length cb')).set_ 2 (.slice Ad' g.depths.length cd')).set_ 3 (.int .i64 g.blo)).set_ 4 (.int .i64 g.bhi)
          simp only [List.setIfInBounds_toArray, List.set_cons_zero, List.set_cons_succ] at r5
          clear hGA G
          go_wp2
          refine bodyPost_ret (results_cell_row rfl _ _ (w.heap.size + 1) 39 #[.int .i64 g.base, .slice Ab' g.bands.length cb', .slice Ad' g.depths.length cd', .int .i64 g.blo, .int .i64 g.bhi] (0, 0) _ rfl r5 rfl rfl rfl) rfl ?_
          have oB := own_fr HOB.out hf (fun b hb h => by have := own_ge HOB.out hb; omega)
          have oD := own_fr hown hf (fun b hb h => by have := own_ge hown hb; omega)
          obtain ⟨_, _, e1, _, _, u1⟩ := own_B oB
          obtain ⟨_, _, e2, _, _, u2⟩ := own_D oD
          injection e1 with e1 _ _
          injection e2 with e2 _ _
          subst e1 e2
          exact ⟨⟨_, _, _, _, rfl, ⟨u1, u2⟩⟩, hf.toBelow HG.out.bw HG.out.bw.size (fun x hx => by omega)⟩

end Go.Proofs.Ytlgmeofpkfliaaa
end
