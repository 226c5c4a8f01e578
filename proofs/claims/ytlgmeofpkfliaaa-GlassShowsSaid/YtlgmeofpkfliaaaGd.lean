/- Glass: Zeros (walk). · Glass: Shows (walk). · Glass: Holds (walk). · Glass: ProveTruth (walk). · Glass: lists of ices (plain), rows of rows, and worlds that have grown but for one block. · A region that draws its order, gone through in one order: quiet operations (they neither write nor call) taken as soon as they may be, loud ones where each is the only one that may come; behind all a tail whose order is fixed. -/
import Derived.Outline
import Derived.Deep.LoopGhost
import Derived.Test.YtlgmeofpkfliaaaGc
set_option linter.unusedVariables false
set_option linter.unusedSimpArgs false
set_option linter.unusedSectionVars false
section
namespace Go.Proofs.Ytlgmeofpkfliaaa
open Go.RowKit

theorem iced_bd {g : Gl} {h : List Rg} {l : List Ic} (hl : iced g h l = 0) : IcesBd l := by
  intro k hk
  have := allTo_iff.1 (iced_all hl) k hk
  unfold iceOk at this
  simp only [Bool.and_eq_true, inB_iff] at this
  omega
theorem ok_of_iced {g : Gl} {h : List Rg} {l : List Ic} (hl : iced g h l = 0) : Ok g h := ok_of_lived (iced_lived hl)

/-- no ices are left out. -/
abbrev off0 : Nat → Bool := fun _ => false

set_option maxHeartbeats 800000 in
theorem Zeros_bad (g : Gl) (Ab Ad Ah Ai : Option Addr) (cb cd ch ci : Nat) (h : List Rg) (l : List Ic) (w : World) (hg : GlIn w w.heap.size g Ab Ad) (hh : SlAt w w.heap.size 2 Ah h.length (fR h)) (hi : SlAt w w.heap.size 3 Ai l.length (fC l)) (hne : iced g h l ≠ 0) :
    Calls Try.prog 31 #[.agg #[.int .i64 g.base, .slice Ab g.bands.length cb, .slice Ad g.depths.length cd, .int .i64 g.blo, .int .i64 g.bhi], .slice Ah h.length ch, .slice Ai l.length ci] w fun e w' => e = .returned (.tuple #[.slice none 0 0, .int .i64 (iced g h l)]) ∧ Below w.heap.size w w' := by
  have hb1 := ex_alloc (Below.refl w.heap.size w) (.cells #[.int .i64 g.base, .slice Ab g.bands.length cb, .slice Ad g.depths.length cd, .int .i64 g.blo, .int .i64 g.bhi] 39)
  have HNE := Lib.hid hne
  have hcb : (iced g h l == 0) = false := by simpa using hne
  have hcb' : (iced g h l != 0) = true := by simpa using hne
  clear hne
  go_enter Try.func31, Try.ntmps31
  go_wp2_with fail
  refine (iced_no g _ _ _ _ _ _ _ _ h l _ ((hg.below hb1).up hb1.size) ((hh.below hb1).up hb1.size) ((hi.below hb1).up hb1.size) HNE.out).mono ?_
  rintro e w2 ⟨rfl, hb2⟩
  go_wp2
  go_ret2
  exact ⟨rfl, ex_alloc (ex_trans hb1 hb2) _⟩

set_option maxHeartbeats 800000 in
theorem Zeros_good (g : Gl) (Ab Ad Ah Ai : Option Addr) (cb cd ch ci : Nat) (h : List Rg) (l : List Ic) (w : World) (hg : GlIn w w.heap.size g Ab Ad) (hh : SlAt w w.heap.size 2 Ah h.length (fR h)) (hi : SlAt w w.heap.size 3 Ai l.length (fC l)) (heq : iced g h l = 0) :
    Calls Try.prog 31 #[.agg #[.int .i64 g.base, .slice Ab g.bands.length cb, .slice Ad g.depths.length cd, .int .i64 g.blo, .int .i64 g.bhi], .slice Ah h.length ch, .slice Ai l.length ci] w fun e w' =>
      ((¬ ∃ s, Can g h l (fun _ => false) h.length s) ∧ e = .returned (.tuple #[.slice none 0 0, .int .i64 9]) ∨
       (∃ s, Can g h l (fun _ => false) h.length s) ∧ ∃ go, ∃ oc : Array Value, e = .returned (.tuple #[.slice (some ⟨go, 0, none⟩) h.length h.length, .int .i64 0]) ∧ w.heap.size ≤ go ∧ Blk w' go 37 oc ∧ oc.size = h.length * 2 ∧
         ∀ i, i < h.length → ∃ a b : Int, oc[2 * i]? = some (.int .i64 a) ∧ oc[2 * i + 1]? = some (.int .i64 b) ∧ EndsOf (fun z => ∃ s, Goes g h l (fun _ => false) (h.length - 1 - i) (i + 1) s ∧ z = zero g s) a b) ∧ Below w.heap.size w w' := by
  have hb1 := ex_alloc (Below.refl w.heap.size w) (.cells #[.int .i64 g.base, .slice Ab g.bands.length cb, .slice Ad g.depths.length cd, .int .i64 g.blo, .int .i64 g.bhi] 39)
  have HE := Lib.hid heq
  clear heq
  go_enter Try.func31, Try.ntmps31
  go_wp2_with fail
  refine (iced_ok g _ _ _ _ _ _ _ _ h l _ ((hg.below hb1).up hb1.size) ((hh.below hb1).up hb1.size) ((hi.below hb1).up hb1.size) HE.out).mono ?_
  rintro e w2 ⟨rfl, hb2⟩
  have hb3 := ex_alloc (ex_trans hb1 hb2) (.cells #[.int .i64 g.base, .slice Ab g.bands.length cb, .slice Ad g.depths.length cd, .int .i64 g.blo, .int .i64 g.bhi, .slice Ah h.length ch, .slice Ai l.length ci] 103)
  go_wp2_with fail
  refine (zeros_any g _ _ _ _ _ _ _ _ h l _ ((hg.below hb3).up hb3.size) ((hh.below hb3).up hb3.size) ((hi.below hb3).up hb3.size) (ok_of_iced HE.out) (iced_len HE.out) (iced_bd HE.out)).mono ?_
  rintro e w4 ⟨⟨hno, rfl⟩ | ⟨hyes, go, oc, rfl, hgo, hblk, hsz, hends⟩, hb4⟩
  · go_wp2
    go_ret2
    exact ⟨.inl ⟨hno, rfl⟩, ex_trans hb3 hb4⟩
  · have H1 := Lib.hid hsz
    have H2 := Lib.hid hends
    clear hsz hends
    go_wp2
    go_ret2
    exact ⟨.inr ⟨hyes, go, oc, rfl, Nat.le_trans hb3.size hgo, hblk, H1.out, H2.out⟩, ex_trans hb3 hb4⟩

end Go.Proofs.Ytlgmeofpkfliaaa
end

section
namespace Go.Proofs.Ytlgmeofpkfliaaa
open Go.RowKit

theorem gC_take {l : List Ic} {k j : Nat} (h : j < k) : gC (l.take k) j = gC l j := by
  unfold gC; simp [List.getD_eq_getElem?_getD, List.getElem?_take, h]
theorem SlAt.take {w : World} {B : Nat} {A : Option Addr} {l : List Ic} {k : Nat} (h : SlAt w B 3 A l.length (fC l)) (hk : k ≤ l.length) : SlAt w B 3 A (l.take k).length (fC (l.take k)) := by
  have hl : (l.take k).length = k := by rw [List.length_take]; omega
  rw [hl]
  intro h0
  obtain ⟨b, off, e, hb, hc⟩ := h (by omega)
  refine ⟨b, off, e, hb, fun i j hi hj => ?_⟩
  rw [hc i j (by omega) hj]
  unfold fC
  rw [gC_take hi]
theorem bd_take {l : List Ic} {k : Nat} (h : IcesBd l) : IcesBd (l.take k) := by
  intro j hj
  rw [List.length_take] at hj
  rw [gC_take (by omega)]
  exact h j (by omega)
theorem agree_take (g : Gl) (Ab Ad Ah Ai : Option Addr) (cb cd ch ci : Nat) (h : List Rg) (l : List Ic) (w : World) (hg : GlIn w w.heap.size g Ab Ad) (hh : SlAt w w.heap.size 2 Ah h.length (fR h)) (hi : SlAt w w.heap.size 3 Ai l.length (fC l)) (o : Nat → Bool) (k : Nat) (hk : k ≤ l.length) (hok : Ok g h) (h8 : l.length ≤ 8) (hbd : IcesBd l) :
    Calls Try.prog 56 #[.agg #[.int .i64 g.base, .slice Ab g.bands.length cb, .slice Ad g.depths.length cd, .int .i64 g.blo, .int .i64 g.bhi, .slice Ah h.length ch, .slice Ai k ci], .agg #[.bool (o 0), .bool (o 1), .bool (o 2), .bool (o 3), .bool (o 4), .bool (o 5), .bool (o 6), .bool (o 7)]] w fun e w' => e = .returned (.bool (agreeB g h (l.take k) o)) ∧ Below w.heap.size w w' := by
  have hl : (l.take k).length = k := by rw [List.length_take]; omega
  have := agree_any g Ab Ad Ah Ai cb cd ch ci h (l.take k) o w hg hh (hi.take hk) hok (by rw [hl]; omega) (bd_take hbd)
  rwa [hl] at this

/-- what Shows tells. -/
def ShowsIs (A : Nat → Bool) (n : Nat) (e : Ending) : Prop :=
  (∃ k, k < n ∧ (∀ j, j < k → A j = true) ∧ A k = false ∧ e = .returned (.tuple #[.int .i64 (k : Int), .int .i64 0])) ∨ ((∀ j, j < n → A j = true) ∧ e = .returned (.tuple #[.int .i64 0, .int .i64 7]))

set_option maxHeartbeats 800000 in
theorem Shows_bad (g : Gl) (Ab Ad Ah Ai : Option Addr) (cb cd ch ci : Nat) (h : List Rg) (l : List Ic) (w : World) (hg : GlIn w w.heap.size g Ab Ad) (hh : SlAt w w.heap.size 2 Ah h.length (fR h)) (hi : SlAt w w.heap.size 3 Ai l.length (fC l)) (hne : iced g h l ≠ 0) :
    Calls Try.prog 19 #[.agg #[.int .i64 g.base, .slice Ab g.bands.length cb, .slice Ad g.depths.length cd, .int .i64 g.blo, .int .i64 g.bhi], .slice Ah h.length ch, .slice Ai l.length ci] w fun e w' => e = .returned (.tuple #[.int .i64 0, .int .i64 (iced g h l)]) ∧ Below w.heap.size w w' := by
  have hb1 := ex_alloc (Below.refl w.heap.size w) (.cells #[.int .i64 g.base, .slice Ab g.bands.length cb, .slice Ad g.depths.length cd, .int .i64 g.blo, .int .i64 g.bhi] 39)
  have HNE := Lib.hid hne
  have hcb : (iced g h l == 0) = false := by simpa using hne
  have hcb' : (iced g h l != 0) = true := by simpa using hne
  clear hne
  go_enter Try.func19, Try.ntmps19
  go_wp2_with fail
  refine (iced_no g _ _ _ _ _ _ _ _ h l _ ((hg.below hb1).up hb1.size) ((hh.below hb1).up hb1.size) ((hi.below hb1).up hb1.size) HNE.out).mono ?_
  rintro e w2 ⟨rfl, hb2⟩
  go_wp2
  go_ret2
  exact ⟨rfl, ex_alloc (ex_trans hb1 hb2) _⟩

set_option maxHeartbeats 1600000 in
theorem Shows_good (g : Gl) (Ab Ad Ah Ai : Option Addr) (cb cd ch ci : Nat) (h : List Rg) (l : List Ic) (w : World) (hg : GlIn w w.heap.size g Ab Ad) (hh : SlAt w w.heap.size 2 Ah h.length (fR h)) (hi : SlAt w w.heap.size 3 Ai l.length (fC l)) (hci : l.length ≤ ci) (hcm : ci ≤ maxLen) (heq : iced g h l = 0) :
    Calls Try.prog 19 #[.agg #[.int .i64 g.base, .slice Ab g.bands.length cb, .slice Ad g.depths.length cd, .int .i64 g.blo, .int .i64 g.bhi], .slice Ah h.length ch, .slice Ai l.length ci] w fun e w' => ShowsIs (fun j => agreeB g h (l.take (j + 1)) off0) l.length e ∧ Below w.heap.size w w' := by
  have hb1 := ex_alloc (Below.refl w.heap.size w) (.cells #[.int .i64 g.base, .slice Ab g.bands.length cb, .slice Ad g.depths.length cd, .int .i64 g.blo, .int .i64 g.bhi] 39)
  have HE := Lib.hid heq
  have h8 := iced_len heq
  clear heq
  unfold maxLen at hcm
  go_enter Try.func19, Try.ntmps19
  go_wp2_with fail
  refine (iced_ok g _ _ _ _ _ _ _ _ h l _ ((hg.below hb1).up hb1.size) ((hh.below hb1).up hb1.size) ((hi.below hb1).up hb1.size) HE.out).mono ?_
  rintro e w2 ⟨rfl, hb2⟩
  have hB2 := ex_trans hb1 hb2
  have hb3 := ex_alloc (ex_trans hb1 hb2) (.cells #[.int .i64 g.base, .slice Ab g.bands.length cb, .slice Ad g.depths.length cd, .int .i64 g.blo, .int .i64 g.bhi, .slice Ah h.length ch, .slice Ai l.length ci] 103)
  have hw2 := hB2.size
  go_wp2_with fail
  go_loopw [10, 23] (fun _ i wr => ∃ k m : Nat, k ≤ l.length ∧ i = .int .i64 k ∧ (∀ j, j < k → agreeB g h (l.take (j + 1)) off0 = true) ∧ Below w.heap.size w wr ∧ Blk wr w2.heap.size 103 #[.int .i64 g.base, .slice Ab g.bands.length cb, .slice Ad g.depths.length cd, .int .i64 g.blo, .int .i64 g.bhi, .slice Ah h.length ch, .slice Ai m ci])
    (fun _ i _ => l.length - (intOf i).toNat)
  case atStart => exact ⟨0, l.length, by omega, rfl, fun j hj => by omega, hb3, Blk.new _ _ _⟩
  case round =>
    obtain ⟨k, m, hk, rfl, hag, hbl, hq⟩ := hrel
    have HAG := Lib.hid hag
    clear hag
    by_cases hlt : k < l.length
    · obtain ⟨b, off, rfl, _, _⟩ := hi (by omega)
      have hc0 := hq.cell 0
      have hc1 := hq.cell 1
      have hc2 := hq.cell 2
      have hc3 := hq.cell 3
      have hc4 := hq.cell 4
      have hc5 := hq.cell 5
      have hc6 := hq.cell 6
      have hf6 := hq.frozen 6
      have hltq := hq.lt
      simp at hc0 hc1 hc2 hc3 hc4 hc5 hc6
      have hkc : k + 1 ≤ ci := by omega
      have hb4 : Below w.heap.size w (wr.setCell ⟨w2.heap.size, 6, none⟩ (.slice (some ⟨b, off, none⟩) (k + 1) ci)) := ex_set hbl hw2 _
      have hq2 := hq.set_ 6 (.slice (some ⟨b, off, none⟩) (k + 1) ci)
      cases hA : agreeB g h (l.take (k + 1)) off0
      · have HA := Lib.hid hA
        clear hA
        go_wp2_with fail
        refine (agree_take g _ _ _ _ _ _ _ _ h l _ ((hg.below hb4).up hb4.size) ((hh.below hb4).up hb4.size) ((hi.below hb4).up hb4.size) off0 (k + 1) (by omega) (ok_of_iced HE.out) h8 (iced_bd HE.out)).mono ?_
        rintro e w5 ⟨rfl, hb5⟩
        rw [HA.out]
        go_wp2
        go_ret2
        exact ⟨.inl ⟨k, hlt, HAG.out, HA.out, rfl⟩, ex_trans hb4 hb5⟩
      · have HA := Lib.hid hA
        clear hA
        go_wp2_with fail
        refine (agree_take g _ _ _ _ _ _ _ _ h l _ ((hg.below hb4).up hb4.size) ((hh.below hb4).up hb4.size) ((hi.below hb4).up hb4.size) off0 (k + 1) (by omega) (ok_of_iced HE.out) h8 (iced_bd HE.out)).mono ?_
        rintro e w5 ⟨rfl, hb5⟩
        rw [HA.out]
        have hq5 := hq2.below hb5 hq2.lt
        go_wp2
        go_roundw
        case rel => exact ⟨k + 1, k + 1, by omega, by go_num, fun j hj => by rcases Nat.lt_succ_iff_lt_or_eq.1 hj with h | h; exact HAG.out j h; rw [h]; exact HA.out, ex_trans hb4 hb5, hq5⟩
        case measure => simp [intOf]; omega
    · obtain rfl : k = l.length := by omega
      go_wp2
      go_ret2
      exact ⟨.inr ⟨HAG.out, rfl⟩, hbl⟩

end Go.Proofs.Ytlgmeofpkfliaaa
end

section
namespace Go.Proofs.Ytlgmeofpkfliaaa
open Go.RowKit

/-- the ranges of the zeros of all days, told as a list. -/
def ZsOf (g : Gl) (h : List Rg) (l : List Ic) (zs : List Rg) : Prop :=
  zs.length = h.length ∧ ∀ i, i < h.length → EndsOf (fun z => ∃ s, Goes g h l off0 (h.length - 1 - i) (i + 1) s ∧ z = zero g s) (gR zs i).lo (gR zs i).hi
theorem ends_list {n : Nat} {P : Nat → Int → Int → Prop} {oc : Array Value} (h : ∀ i, i < n → ∃ a b : Int, oc[2 * i]? = some (.int .i64 a) ∧ oc[2 * i + 1]? = some (.int .i64 b) ∧ P i a b) :
    ∃ zs : List Rg, zs.length = n ∧ (∀ i, i < n → P i (gR zs i).lo (gR zs i).hi) ∧ ∀ (W : World) (go : Nat) (t : TypeId), Blk W go t oc → SlAt W W.heap.size 2 (some ⟨go, 0, none⟩) n (fR zs) := by
  refine ⟨(List.range n).map fun i => ⟨intOf (oc.getD (2 * i) undef), intOf (oc.getD (2 * i + 1) undef)⟩, by simp, fun i hi => ?_, fun W go t hb h0 => ⟨go, 0, rfl, hb.lt, fun k j hk hj => ?_⟩⟩
  · obtain ⟨a, b, h1, h2, h3⟩ := h i hi
    simp [gR, hi, h1, h2, intOf]
    exact h3
  · obtain ⟨a, b, h1, h2, h3⟩ := h k hk
    rw [hb.cell]
    match j, hj with
    | 0, _ => simp [fR, gR, hk, h1, intOf, Nat.mul_comm k 2]
    | 1, _ => simp [fR, gR, hk, h2, intOf, Nat.mul_comm k 2]

theorem Zeros_ok (g : Gl) (Ab Ad Ah Ai : Option Addr) (cb cd ch ci : Nat) (h : List Rg) (l : List Ic) (w : World) (hg : GlIn w w.heap.size g Ab Ad) (hh : SlAt w w.heap.size 2 Ah h.length (fR h)) (hi : SlAt w w.heap.size 3 Ai l.length (fC l)) (heq : iced g h l = 0) :
    Calls Try.prog 31 #[.agg #[.int .i64 g.base, .slice Ab g.bands.length cb, .slice Ad g.depths.length cd, .int .i64 g.blo, .int .i64 g.bhi], .slice Ah h.length ch, .slice Ai l.length ci] w fun e w' =>
      ((¬ ∃ s, Can g h l off0 h.length s) ∧ e = .returned (.tuple #[.slice none 0 0, .int .i64 9]) ∨
       (∃ s, Can g h l off0 h.length s) ∧ ∃ A zs, e = .returned (.tuple #[.slice A h.length h.length, .int .i64 0]) ∧ ZsOf g h l zs ∧ SlAt w' w'.heap.size 2 A h.length (fR zs)) ∧ Below w.heap.size w w' := by
  refine (Zeros_good g Ab Ad Ah Ai cb cd ch ci h l w hg hh hi heq).mono ?_
  rintro e w' ⟨⟨hno, rfl⟩ | ⟨hyes, go, oc, rfl, hgo, hblk, hsz, hends⟩, hb⟩
  · exact ⟨.inl ⟨hno, rfl⟩, hb⟩
  · obtain ⟨zs, h1, h2, h3⟩ := ends_list hends
    exact ⟨.inr ⟨hyes, _, zs, rfl, ⟨h1, h2⟩, h3 _ _ _ hblk⟩, hb⟩

theorem zeros_ok (g : Gl) (Ab Ad Ah Ai : Option Addr) (cb cd ch ci : Nat) (h : List Rg) (l : List Ic) (w : World) (hg : GlIn w w.heap.size g Ab Ad) (hh : SlAt w w.heap.size 2 Ah h.length (fR h)) (hi : SlAt w w.heap.size 3 Ai l.length (fC l)) (heq : iced g h l = 0) :
    Calls Try.prog 59 #[.agg #[.int .i64 g.base, .slice Ab g.bands.length cb, .slice Ad g.depths.length cd, .int .i64 g.blo, .int .i64 g.bhi, .slice Ah h.length ch, .slice Ai l.length ci]] w fun e w' =>
      ((¬ ∃ s, Can g h l off0 h.length s) ∧ e = .returned (.tuple #[.slice none 0 0, .bool false]) ∨
       (∃ s, Can g h l off0 h.length s) ∧ ∃ A zs, e = .returned (.tuple #[.slice A h.length h.length, .bool true]) ∧ ZsOf g h l zs ∧ SlAt w' w'.heap.size 2 A h.length (fR zs)) ∧ Below w.heap.size w w' := by
  refine (zeros_any g Ab Ad Ah Ai cb cd ch ci h l w hg hh hi (ok_of_iced heq) (iced_len heq) (iced_bd heq)).mono ?_
  rintro e w' ⟨⟨hno, rfl⟩ | ⟨hyes, go, oc, rfl, hgo, hblk, hsz, hends⟩, hb⟩
  · exact ⟨.inl ⟨hno, rfl⟩, hb⟩
  · obtain ⟨zs, h1, h2, h3⟩ := ends_list hends
    exact ⟨.inr ⟨hyes, _, zs, rfl, ⟨h1, h2⟩, h3 _ _ _ hblk⟩, hb⟩

/-- what Holds tells of ranges. -/
def heldR (zs : List Rg) (low high : Int) (i : Nat) : Bool := decide (low ≤ (gR zs i).lo) && decide ((gR zs i).hi ≤ high)
def HoldsIs (zs : List Rg) (low high : Int) (n : Nat) (e : Ending) : Prop :=
  ∃ d, d ≤ n ∧ (∀ i, i < d → heldR zs low high i = true) ∧ (d < n → heldR zs low high d = false) ∧ ((d = 0 ∧ e = .returned (.tuple #[.int .i64 0, .int .i64 10])) ∨ (0 < d ∧ e = .returned (.tuple #[.int .i64 ((d : Int) - 1), .int .i64 0])))

set_option maxHeartbeats 800000 in
theorem Holds_bad (g : Gl) (Ab Ad Ah Ai : Option Addr) (cb cd ch ci : Nat) (h : List Rg) (l : List Ic) (w : World) (hg : GlIn w w.heap.size g Ab Ad) (hh : SlAt w w.heap.size 2 Ah h.length (fR h)) (hi : SlAt w w.heap.size 3 Ai l.length (fC l)) (low high : Int) (hne : iced g h l ≠ 0) :
    Calls Try.prog 25 #[.agg #[.int .i64 g.base, .slice Ab g.bands.length cb, .slice Ad g.depths.length cd, .int .i64 g.blo, .int .i64 g.bhi], .slice Ah h.length ch, .slice Ai l.length ci, .int .i64 low, .int .i64 high] w fun e w' => e = .returned (.tuple #[.int .i64 0, .int .i64 (iced g h l)]) ∧ Below w.heap.size w w' := by
  have hb1 := ex_alloc (Below.refl w.heap.size w) (.cells #[.int .i64 g.base, .slice Ab g.bands.length cb, .slice Ad g.depths.length cd, .int .i64 g.blo, .int .i64 g.bhi] 39)
  have HNE := Lib.hid hne
  have hcb : (iced g h l == 0) = false := by simpa using hne
  have hcb' : (iced g h l != 0) = true := by simpa using hne
  clear hne
  go_enter Try.func25, Try.ntmps25
  go_wp2_with fail
  go_step3
  go_wp2_with fail
  refine (iced_no g _ _ _ _ _ _ _ _ h l _ ((hg.below hb1).up hb1.size) ((hh.below hb1).up hb1.size) ((hi.below hb1).up hb1.size) HNE.out).mono ?_
  rintro e w2 ⟨rfl, hb2⟩
  go_wp2
  rw [Exit.noGoto_ret]
  go_ret2
  exact ⟨rfl, ex_alloc (ex_trans hb1 hb2) _⟩

set_option maxHeartbeats 1600000 in
theorem Holds_good (g : Gl) (Ab Ad Ah Ai : Option Addr) (cb cd ch ci : Nat) (h : List Rg) (l : List Ic) (w : World) (hg : GlIn w w.heap.size g Ab Ad) (hh : SlAt w w.heap.size 2 Ah h.length (fR h)) (hi : SlAt w w.heap.size 3 Ai l.length (fC l)) (low high : Int) (heq : iced g h l = 0) :
    Calls Try.prog 25 #[.agg #[.int .i64 g.base, .slice Ab g.bands.length cb, .slice Ad g.depths.length cd, .int .i64 g.blo, .int .i64 g.bhi], .slice Ah h.length ch, .slice Ai l.length ci, .int .i64 low, .int .i64 high] w fun e w' =>
      ((high < low ∧ e = .returned (.tuple #[.int .i64 0, .int .i64 2])) ∨ (low ≤ high ∧ (¬ ∃ s, Can g h l off0 h.length s) ∧ e = .returned (.tuple #[.int .i64 0, .int .i64 9])) ∨
       (low ≤ high ∧ (∃ s, Can g h l off0 h.length s) ∧ ∃ zs, ZsOf g h l zs ∧ HoldsIs zs low high h.length e)) ∧ Below w.heap.size w w' := by
  have hb1 := ex_alloc (Below.refl w.heap.size w) (.cells #[.int .i64 g.base, .slice Ab g.bands.length cb, .slice Ad g.depths.length cd, .int .i64 g.blo, .int .i64 g.bhi] 39)
  have HE := Lib.hid heq
  have h16 := (ok_of_iced heq).nh
  clear heq
  by_cases hlh : high < low
  · go_enter Try.func25, Try.ntmps25
    go_wp2_with fail
    go_step3
    go_wp2_with fail
    refine (iced_ok g _ _ _ _ _ _ _ _ h l _ ((hg.below hb1).up hb1.size) ((hh.below hb1).up hb1.size) ((hi.below hb1).up hb1.size) HE.out).mono ?_
    rintro e w2 ⟨rfl, hb2⟩
    go_wp2
    rw [Exit.noGoto_ret]
    go_ret2
    exact ⟨.inl ⟨hlh, rfl⟩, ex_alloc (ex_trans hb1 hb2) _⟩
  have hlh' : low ≤ high := by omega
  clear hlh
  go_enter Try.func25, Try.ntmps25
  go_wp2_with fail
  go_step3
  go_wp2_with fail
  refine (iced_ok g _ _ _ _ _ _ _ _ h l _ ((hg.below hb1).up hb1.size) ((hh.below hb1).up hb1.size) ((hi.below hb1).up hb1.size) HE.out).mono ?_
  rintro e w2 ⟨rfl, hb2⟩
  have hb3 := ex_alloc (ex_trans hb1 hb2) (.cells #[.int .i64 g.base, .slice Ab g.bands.length cb, .slice Ad g.depths.length cd, .int .i64 g.blo, .int .i64 g.bhi, .slice Ah h.length ch, .slice Ai l.length ci] 103)
  go_wp2_with fail
  refine (zeros_ok g _ _ _ _ _ _ _ _ h l _ ((hg.below hb3).up hb3.size) ((hh.below hb3).up hb3.size) ((hi.below hb3).up hb3.size) HE.out).mono ?_
  rintro e w4 ⟨⟨hno, rfl⟩ | ⟨hyes, A, zs, rfl, hzs, hsl⟩, hb4⟩
  · have HN := Lib.hid hno
    clear hno
    go_wp2
    rw [Exit.noGoto_ret]
    go_ret2
    exact ⟨.inr (.inl ⟨hlh', HN.out, rfl⟩), ex_trans hb3 hb4⟩
  have hB4 := ex_trans hb3 hb4
  have HY := Lib.hid hyes
  have HZ := Lib.hid hzs
  clear hyes hzs
  go_wp2_with fail
  go_step3
  go_wp2_with fail
  have HX : ∀ d : Nat, d ≤ h.length → (∀ i, i < d → heldR zs low high i = true) → (d < h.length → heldR zs low high d = false) → ∀ e, ((d = 0 ∧ e = .returned (.tuple #[.int .i64 0, .int .i64 10])) ∨ (0 < d ∧ e = .returned (.tuple #[.int .i64 ((d : Int) - 1), .int .i64 0]))) →
      ((high < low ∧ e = .returned (.tuple #[.int .i64 0, .int .i64 2])) ∨ (low ≤ high ∧ (¬ ∃ s, Can g h l off0 h.length s) ∧ e = .returned (.tuple #[.int .i64 0, .int .i64 9])) ∨
       (low ≤ high ∧ (∃ s, Can g h l off0 h.length s) ∧ ∃ zs, ZsOf g h l zs ∧ HoldsIs zs low high h.length e)) := fun d h1 h2 h3 e h4 => .inr (.inr ⟨hlh', HY.out, zs, HZ.out, d, h1, h2, h3, h4⟩)
  have HXX := Lib.hid HX
  clear HX
  go_loopw [16, 17, 18, 41] (fun v16 _ _ i wr => ∃ k : Nat, k ≤ h.length ∧ i = .int .i64 k ∧ v16 = .int .i64 ((k : Int) - 1) ∧ (∀ j, j < k → heldR zs low high j = true) ∧ Below w.heap.size w wr ∧ Below w4.heap.size w4 wr)
    (fun _ _ _ i _ => h.length - (intOf i).toNat)
  case atStart => exact ⟨0, by omega, rfl, by simp, fun j hj => by omega, hB4, Below.refl _ _⟩
  case round =>
    obtain ⟨k, hk, rfl, rfl, hag, hbl, hbl4⟩ := hrel
    have HAG := Lib.hid hag
    clear hag
    by_cases hlt : k < h.length
    · obtain ⟨b, off, rfl, hb, hc0, hc1⟩ := IsRgs.at_ (hsl.below hbl4) hlt
      have hbw : b < wr.heap.size := Nat.lt_of_lt_of_le hb hbl4.size
      generalize hlo : (gR zs k).lo = lo at *
      generalize hhi : (gR zs k).hi = hi' at *
      have HR : Hid (heldR zs low high k = (decide (low ≤ lo) && decide (hi' ≤ high))) := by unfold heldR; rw [hlo, hhi]; exact Lib.hid rfl
      clear hlo hhi
      by_cases h1 : low ≤ lo
      · by_cases h2 : hi' ≤ high
        · have HR' : Hid (heldR zs low high k = true) := by rw [HR.out, decide_eq_true h1, decide_eq_true h2]; exact Lib.hid rfl
          clear HR
          have e1 : decide (lo < low) = false := decide_eq_false (by omega)
          have e2 : decide (high < hi') = false := decide_eq_false (by omega)
          go_wp2
          go_roundw
          case rel => exact ⟨k + 1, by omega, by go_num, vint (by omega), fun j hj => by rcases Nat.lt_succ_iff_lt_or_eq.1 hj with h | h; exact HAG.out j h; rw [h]; exact HR'.out, ex_alloc hbl _, ex_alloc hbl4 _⟩
          case measure => simp [intOf]; omega
        · have HR' : Hid (heldR zs low high k = false) := by rw [HR.out, decide_eq_false h2, Bool.and_false]; exact Lib.hid rfl
          clear HR
          have e1 : decide (lo < low) = false := decide_eq_false (by omega)
          have e2 : high < hi' := by omega
          clear h2
          by_cases hk0 : k = 0
          · have hk0' : (k : Int) ≤ 0 := by omega
            clear hk0
            go_wp2
            rw [Exit.noGoto_ret]
            go_ret2
            exact ⟨HXX.out k (by omega) HAG.out (fun _ => HR'.out) _ (.inl ⟨by omega, rfl⟩), ex_alloc hbl _⟩
          · have hk1 : (0 : Int) ≤ (k : Int) - 1 := by omega
            go_wp2
            rw [Exit.noGoto_ret]
            go_ret2
            exact ⟨HXX.out k (by omega) HAG.out (fun _ => HR'.out) _ (.inr ⟨by omega, rfl⟩), ex_alloc hbl _⟩
      · have HR' : Hid (heldR zs low high k = false) := by rw [HR.out, decide_eq_false h1, Bool.false_and]; exact Lib.hid rfl
        clear HR
        have e1 : lo < low := by omega
        clear h1
        by_cases hk0 : k = 0
        · have hk0' : (k : Int) ≤ 0 := by omega
          clear hk0
          go_wp2
          rw [Exit.noGoto_ret]
          go_ret2
          exact ⟨HXX.out k (by omega) HAG.out (fun _ => HR'.out) _ (.inl ⟨by omega, rfl⟩), ex_alloc hbl _⟩
        · have hk1 : (0 : Int) ≤ (k : Int) - 1 := by omega
          go_wp2
          rw [Exit.noGoto_ret]
          go_ret2
          exact ⟨HXX.out k (by omega) HAG.out (fun _ => HR'.out) _ (.inr ⟨by omega, rfl⟩), ex_alloc hbl _⟩
    · have HK : Hid (k = h.length) := Lib.hid (by omega)
      have hk1 : (0 : Int) ≤ (k : Int) - 1 := by have := HK.out; omega
      go_wp2
      rw [Exit.noGoto_ret]
      go_ret2
      exact ⟨HXX.out k hk HAG.out (fun h => absurd h hlt) _ (.inr ⟨by have := HK.out; omega, rfl⟩), hbl⟩

end Go.Proofs.Ytlgmeofpkfliaaa
end

section
namespace Go.Proofs.Ytlgmeofpkfliaaa
open Go.RowKit

/-- is a truth one of a history in which all ices are true? -/
def proveB (g : Gl) (h : List Rg) (l : List Ic) (t1 t2 t3 : List Int) : Bool := decide (iced g h l = 0) && (truthB g h t1 t2 t3 && allTo (fun d => fitsB l off0 (d : Int) (zAt g t1 t2 t3 d)) h.length)

set_option maxHeartbeats 800000 in
theorem Prove_bad (g : Gl) (Ab Ad Ah Ai : Option Addr) (cb cd ch ci : Nat) (h : List Rg) (l : List Ic) (w : World) (hg : GlIn w w.heap.size g Ab Ad) (hh : SlAt w w.heap.size 2 Ah h.length (fR h)) (hi : SlAt w w.heap.size 3 Ai l.length (fC l)) (A1 A2 A3 : Option Addr) (c1 c2 c3 : Nat) (t1 t2 t3 : List Int) (k1 : SlAt w w.heap.size 1 A1 t1.length (fI t1)) (k2 : SlAt w w.heap.size 1 A2 t2.length (fI t2)) (k3 : SlAt w w.heap.size 1 A3 t3.length (fI t3)) (hne : iced g h l ≠ 0) :
    Calls Try.prog 48 #[.agg #[.int .i64 g.base, .slice Ab g.bands.length cb, .slice Ad g.depths.length cd, .int .i64 g.blo, .int .i64 g.bhi], .slice Ah h.length ch, .slice Ai l.length ci, .agg #[.slice A1 t1.length c1, .slice A2 t2.length c2, .slice A3 t3.length c3]] w fun e w' => e = .returned (.bool (proveB g h l t1 t2 t3)) ∧ Below w.heap.size w w' := by
  have hb1 := ex_alloc (ex_alloc (Below.refl w.heap.size w) (.cells #[.int .i64 g.base, .slice Ab g.bands.length cb, .slice Ad g.depths.length cd, .int .i64 g.blo, .int .i64 g.bhi] 39)) (.cells #[.slice A1 t1.length c1, .slice A2 t2.length c2, .slice A3 t3.length c3] 79)
  have HR : Hid (proveB g h l t1 t2 t3 = false) := by unfold proveB; rw [decide_eq_false hne]; exact Lib.hid rfl
  have HNE := Lib.hid hne
  have hcb : (iced g h l == 0) = false := by simpa using hne
  have hcb' : (iced g h l != 0) = true := by simpa using hne
  clear hne
  go_enter Try.func48, Try.ntmps48
  go_wp2_with fail
  refine (iced_no g _ _ _ _ _ _ _ _ h l _ ((hg.below hb1).up hb1.size) ((hh.below hb1).up hb1.size) ((hi.below hb1).up hb1.size) HNE.out).mono ?_
  rintro e w2 ⟨rfl, hb2⟩
  go_wp2
  go_ret
  exact ⟨by rw [HR.out]; rfl, ex_alloc (ex_trans hb1 hb2) _⟩

set_option maxHeartbeats 800000 in
theorem Prove_nt (g : Gl) (Ab Ad Ah Ai : Option Addr) (cb cd ch ci : Nat) (h : List Rg) (l : List Ic) (w : World) (hg : GlIn w w.heap.size g Ab Ad) (hh : SlAt w w.heap.size 2 Ah h.length (fR h)) (hi : SlAt w w.heap.size 3 Ai l.length (fC l)) (A1 A2 A3 : Option Addr) (c1 c2 c3 : Nat) (t1 t2 t3 : List Int) (k1 : SlAt w w.heap.size 1 A1 t1.length (fI t1)) (k2 : SlAt w w.heap.size 1 A2 t2.length (fI t2)) (k3 : SlAt w w.heap.size 1 A3 t3.length (fI t3)) (heq : iced g h l = 0) (ht : truthB g h t1 t2 t3 = false) :
    Calls Try.prog 48 #[.agg #[.int .i64 g.base, .slice Ab g.bands.length cb, .slice Ad g.depths.length cd, .int .i64 g.blo, .int .i64 g.bhi], .slice Ah h.length ch, .slice Ai l.length ci, .agg #[.slice A1 t1.length c1, .slice A2 t2.length c2, .slice A3 t3.length c3]] w fun e w' => e = .returned (.bool (proveB g h l t1 t2 t3)) ∧ Below w.heap.size w w' := by
  have hb1 := ex_alloc (ex_alloc (Below.refl w.heap.size w) (.cells #[.int .i64 g.base, .slice Ab g.bands.length cb, .slice Ad g.depths.length cd, .int .i64 g.blo, .int .i64 g.bhi] 39)) (.cells #[.slice A1 t1.length c1, .slice A2 t2.length c2, .slice A3 t3.length c3] 79)
  have HR : Hid (proveB g h l t1 t2 t3 = false) := by unfold proveB; rw [ht, Bool.false_and, Bool.and_false]; exact Lib.hid rfl
  have hl5 : g.bands.length ≤ 1000000 := by have := (ok_of_iced heq).nb; omega
  have hl6 : h.length ≤ 1000000 := by have := (ok_of_iced heq).nh; omega
  have HE := Lib.hid heq
  have HT := Lib.hid ht
  clear heq ht
  go_enter Try.func48, Try.ntmps48
  go_wp2_with fail
  refine (iced_ok g _ _ _ _ _ _ _ _ h l _ ((hg.below hb1).up hb1.size) ((hh.below hb1).up hb1.size) ((hi.below hb1).up hb1.size) HE.out).mono ?_
  rintro e w2 ⟨rfl, hb2⟩
  have hb3 := ex_alloc (ex_trans hb1 hb2) (.cells #[.int .i64 g.base, .slice Ab g.bands.length cb, .slice Ad g.depths.length cd, .int .i64 g.blo, .int .i64 g.bhi, .slice Ah h.length ch, .slice Ai l.length ci] 103)
  obtain ⟨hcc, hff⟩ := bcell hb2
  have hsz : w.heap.size + 1 < w2.heap.size := by have := hb2.size; simp at this; omega
  have hsy : w.heap.size < w2.heap.size := by omega
  go_wp2_with fail
  refine (truth_is g _ _ _ _ _ _ _ _ _ _ _ _ h t1 t2 t3 _ _ ((hg.below hb3).up hb3.size) ((hh.below hb3).up hb3.size) ((k1.below hb3).up hb3.size) ((k2.below hb3).up hb3.size) ((k3.below hb3).up hb3.size) hl5 hl6 HT).mono ?_
  rintro e w3 ⟨rfl, hb4⟩
  go_wp2
  go_ret
  exact ⟨by rw [HR.out]; rfl, ex_trans hb3 hb4⟩

theorem zAt_bd {g : Gl} {h : List Rg} {t1 t2 t3 : List Int} (hok : Ok g h) (ht : truthB g h t1 t2 t3 = true) {d : Nat} (hd : d < h.length) : -1000000 ≤ zAt g t1 t2 t3 d ∧ zAt g t1 t2 t3 d ≤ 1000000 := by
  have h1 := riseTo_bd hok (truthB_iff.1 ht).2 (d := d + 1) (by omega)
  have h2 := sinkTo_bd hok (truthB_iff.1 ht).2 (d := d + 1) (by omega)
  have h3 := hok.base
  have h4 := hok.nh
  unfold zAt
  omega

set_option maxHeartbeats 1600000 in
theorem Prove_ok (g : Gl) (Ab Ad Ah Ai : Option Addr) (cb cd ch ci : Nat) (h : List Rg) (l : List Ic) (w : World) (hg : GlIn w w.heap.size g Ab Ad) (hh : SlAt w w.heap.size 2 Ah h.length (fR h)) (hi : SlAt w w.heap.size 3 Ai l.length (fC l)) (A1 A2 A3 : Option Addr) (c1 c2 c3 : Nat) (t1 t2 t3 : List Int) (k1 : SlAt w w.heap.size 1 A1 t1.length (fI t1)) (k2 : SlAt w w.heap.size 1 A2 t2.length (fI t2)) (k3 : SlAt w w.heap.size 1 A3 t3.length (fI t3)) (heq : iced g h l = 0) (ht : truthB g h t1 t2 t3 = true) :
    Calls Try.prog 48 #[.agg #[.int .i64 g.base, .slice Ab g.bands.length cb, .slice Ad g.depths.length cd, .int .i64 g.blo, .int .i64 g.bhi], .slice Ah h.length ch, .slice Ai l.length ci, .agg #[.slice A1 t1.length c1, .slice A2 t2.length c2, .slice A3 t3.length c3]] w fun e w' => e = .returned (.bool (proveB g h l t1 t2 t3)) ∧ Below w.heap.size w w' := by
  have hb1 := ex_alloc (ex_alloc (Below.refl w.heap.size w) (.cells #[.int .i64 g.base, .slice Ab g.bands.length cb, .slice Ad g.depths.length cd, .int .i64 g.blo, .int .i64 g.bhi] 39)) (.cells #[.slice A1 t1.length c1, .slice A2 t2.length c2, .slice A3 t3.length c3] 79)
  have HR : Hid (proveB g h l t1 t2 t3 = allTo (fun d => fitsB l off0 (d : Int) (zAt g t1 t2 t3 d)) h.length) := by unfold proveB; rw [ht, decide_eq_true heq, Bool.true_and, Bool.true_and]; exact Lib.hid rfl
  have hl5 : g.bands.length ≤ 1000000 := by have := (ok_of_iced heq).nb; omega
  have hl6 : h.length ≤ 16 := by have := (ok_of_iced heq).nh; omega
  have HE := Lib.hid heq
  have HT := Lib.hid ht
  have h8 := iced_len heq
  clear heq ht
  go_enter Try.func48, Try.ntmps48
  go_wp2_with fail
  refine (iced_ok g _ _ _ _ _ _ _ _ h l _ ((hg.below hb1).up hb1.size) ((hh.below hb1).up hb1.size) ((hi.below hb1).up hb1.size) HE.out).mono ?_
  rintro e w2 ⟨rfl, hb2⟩
  have hb3 := ex_alloc (ex_trans hb1 hb2) (.cells #[.int .i64 g.base, .slice Ab g.bands.length cb, .slice Ad g.depths.length cd, .int .i64 g.blo, .int .i64 g.bhi, .slice Ah h.length ch, .slice Ai l.length ci] 103)
  obtain ⟨hcc, hff⟩ := bcell hb2
  have hsz : w.heap.size + 1 < w2.heap.size := by have := hb2.size; simp at this; omega
  have hsy : w.heap.size < w2.heap.size := by omega
  go_wp2_with fail
  refine (truth_is g _ _ _ _ _ _ _ _ _ _ _ _ h t1 t2 t3 _ _ ((hg.below hb3).up hb3.size) ((hh.below hb3).up hb3.size) ((k1.below hb3).up hb3.size) ((k2.below hb3).up hb3.size) ((k3.below hb3).up hb3.size) hl5 (by omega) HT).mono ?_
  rintro e w3 ⟨rfl, hb4⟩
  have hB4 := ex_trans hb3 hb4
  obtain ⟨hcc3, hff3⟩ := bcell hb4
  have hq3 : Blk w3 w2.heap.size 103 #[.int .i64 g.base, .slice Ab g.bands.length cb, .slice Ad g.depths.length cd, .int .i64 g.blo, .int .i64 g.bhi, .slice Ah h.length ch, .slice Ai l.length ci] := (Blk.new _ _ _).below hb4 (by simp)
  have hsz3 : w2.heap.size < w3.heap.size := hq3.lt
  have hsy3 : w.heap.size + 1 < w3.heap.size := by omega
  go_wp2_with fail
  refine (play_any g _ _ _ _ _ _ _ _ _ _ _ _ h t1 t2 t3 _ ((hg.below hB4).up hB4.size) ((hh.below hB4).up hB4.size) ((k1.below hB4).up hB4.size) ((k2.below hB4).up hB4.size) ((k3.below hB4).up hB4.size) (ok_of_iced HE.out) HT.out).mono ?_
  rintro e w4 ⟨⟨v, rfl, hown⟩, hb5⟩
  have hB5 := ex_trans hB4 hb5
  have hq4 := hq3.below hb5 hq3.lt
  obtain ⟨A, c, rfl, hlc, hsl⟩ := own_sl hown
  rw [playTo_len] at hsl hlc
  have HPL := Lib.hid (playTo_len (g := g) (t1 := t1) (t2 := t2) (t3 := t3) (n := h.length))
  have HP : Hid (∀ d, d < h.length → gI (playTo g t1 t2 t3 h.length) d = zAt g t1 t2 t3 d) := Lib.hid fun d hd => by simp [gI, playTo, hd]
  generalize playTo g t1 t2 t3 h.length = zs at *
  rw [HPL.out]
  clear hown
  go_wp2_with fail
  go_loopw [11, 12, 34] (fun _ _ i wr => ∃ k : Nat, k ≤ h.length ∧ i = .int .i64 k ∧ (∀ j, j < k → fitsB l off0 (j : Int) (zAt g t1 t2 t3 j) = true) ∧ Below w.heap.size w wr ∧ Below w4.heap.size w4 wr)
    (fun _ _ i _ => h.length - (intOf i).toNat)
  case atStart => exact ⟨0, by omega, rfl, fun j hj => by omega, hB5, Below.refl _ _⟩
  case round =>
    obtain ⟨k, hk, rfl, hag, hbl, hbl4⟩ := hrel
    have HAG := Lib.hid hag
    clear hag
    by_cases hlt : k < h.length
    · obtain ⟨b, off, rfl, hb, hc0⟩ := IsInts.at_ (hsl.below hbl4) hlt
      rw [HP.out k hlt] at hc0
      have hzb := zAt_bd (ok_of_iced HE.out) HT.out hlt
      generalize hz : zAt g t1 t2 t3 k = z at *
      have HZ := Lib.hid hz
      clear hz
      have hqr := hq4.below hbl4 hq4.lt
      have c0 := hqr.cell 0
      have c1 := hqr.cell 1
      have c2 := hqr.cell 2
      have c3 := hqr.cell 3
      have c4 := hqr.cell 4
      have c5 := hqr.cell 5
      have c6 := hqr.cell 6
      simp at c0 c1 c2 c3 c4 c5 c6
      cases hf : fitsB l off0 (k : Int) z
      · have HF := Lib.hid hf
        clear hf
        have HRR : Hid (allTo (fun d => fitsB l off0 (d : Int) (zAt g t1 t2 t3 d)) h.length = false) := Lib.hid (allTo_false hlt (by rw [HZ.out]; exact HF.out))
        go_wp2_with fail
        refine (fits_any _ _ _ _ _ _ _ _ _ _ l off0 _ ((hi.below hbl).up hbl.size) h8 (iced_bd HE.out) hzb).mono ?_
        rintro e w5 ⟨rfl, hb6⟩
        rw [HF.out]
        go_wp2
        go_ret
        exact ⟨by rw [HR.out, HRR.out]; rfl, ex_trans hbl hb6⟩
      · have HF := Lib.hid hf
        clear hf
        go_wp2_with fail
        refine (fits_any _ _ _ _ _ _ _ _ _ _ l off0 _ ((hi.below hbl).up hbl.size) h8 (iced_bd HE.out) hzb).mono ?_
        rintro e w5 ⟨rfl, hb6⟩
        rw [HF.out]
        go_wp2
        go_roundw
        case rel => exact ⟨k + 1, by omega, by go_num, fun j hj => by rcases Nat.lt_succ_iff_lt_or_eq.1 hj with h | h; exact HAG.out j h; rw [h, HZ.out]; exact HF.out, ex_trans hbl hb6, ex_trans hbl4 hb6⟩
        case measure => simp [intOf]; omega
    · obtain rfl : k = h.length := by omega
      have HRR : Hid (allTo (fun d => fitsB l off0 (d : Int) (zAt g t1 t2 t3 d)) h.length = true) := Lib.hid (allTo_iff.2 HAG.out)
      go_wp2
      go_ret
      exact ⟨by rw [HR.out, HRR.out]; rfl, hbl⟩

theorem Prove_any (g : Gl) (Ab Ad Ah Ai : Option Addr) (cb cd ch ci : Nat) (h : List Rg) (l : List Ic) (w : World) (hg : GlIn w w.heap.size g Ab Ad) (hh : SlAt w w.heap.size 2 Ah h.length (fR h)) (hi : SlAt w w.heap.size 3 Ai l.length (fC l)) (A1 A2 A3 : Option Addr) (c1 c2 c3 : Nat) (t1 t2 t3 : List Int) (k1 : SlAt w w.heap.size 1 A1 t1.length (fI t1)) (k2 : SlAt w w.heap.size 1 A2 t2.length (fI t2)) (k3 : SlAt w w.heap.size 1 A3 t3.length (fI t3)) :
    Calls Try.prog 48 #[.agg #[.int .i64 g.base, .slice Ab g.bands.length cb, .slice Ad g.depths.length cd, .int .i64 g.blo, .int .i64 g.bhi], .slice Ah h.length ch, .slice Ai l.length ci, .agg #[.slice A1 t1.length c1, .slice A2 t2.length c2, .slice A3 t3.length c3]] w fun e w' => e = .returned (.bool (proveB g h l t1 t2 t3)) ∧ Below w.heap.size w w' := by
  by_cases heq : iced g h l = 0
  · cases ht : truthB g h t1 t2 t3
    · exact Prove_nt g Ab Ad Ah Ai cb cd ch ci h l w hg hh hi A1 A2 A3 c1 c2 c3 t1 t2 t3 k1 k2 k3 heq ht
    · exact Prove_ok g Ab Ad Ah Ai cb cd ch ci h l w hg hh hi A1 A2 A3 c1 c2 c3 t1 t2 t3 k1 k2 k3 heq ht
  · exact Prove_bad g Ab Ad Ah Ai cb cd ch ci h l w hg hh hi A1 A2 A3 c1 c2 c3 t1 t2 t3 k1 k2 k3 heq

end Go.Proofs.Ytlgmeofpkfliaaa
end

section
namespace Go.Proofs.Ytlgmeofpkfliaaa
open Go.RowKit

def setO (o : Nat → Bool) (n : Nat) : Nat → Bool := fun k => if k = n then true else o k
theorem offV_set (o : Nat → Bool) {n : Nat} (hn : n < 8) : (offV o).setIfInBounds n (.bool true) = offV (setO o n) := by
  match n, hn with
  | 0, _ => rfl
  | 1, _ => rfl
  | 2, _ => rfl
  | 3, _ => rfl
  | 4, _ => rfl
  | 5, _ => rfl
  | 6, _ => rfl
  | 7, _ => rfl

/-- what pick's loop adds, with so many ices left, from one on. -/
def loopL (A : (Nat → Bool) → Bool) (many : Nat) : Nat → List Int → (Nat → Bool) → Nat → List (List Int)
  | 0, _, _, _ => []
  | f + 1, lv, o, n => (if (lv ++ [(n : Int)]).length = many then (if A (setO o n) then [lv ++ [(n : Int)]] else []) else loopL A many f (lv ++ [(n : Int)]) (setO o n) (n + 1)) ++ loopL A many f lv o (n + 1)
/-- what pick adds. -/
def pickL (A : (Nat → Bool) → Bool) (many f : Nat) (lv : List Int) (o : Nat → Bool) (n : Nat) : List (List Int) :=
  if lv.length = many then (if A o then [lv] else []) else loopL A many f lv o n
theorem loopL_succ {A : (Nat → Bool) → Bool} {many f : Nat} {lv : List Int} {o : Nat → Bool} {n : Nat} :
    loopL A many (f + 1) lv o n = pickL A many f (lv ++ [(n : Int)]) (setO o n) (n + 1) ++ loopL A many f lv o (n + 1) := rfl
/-- how many there are at most. -/
def wt : Nat → Nat
  | 0 => 1
  | n + 1 => wt n + wt n
theorem wt_pos : ∀ n, 1 ≤ wt n
  | 0 => Nat.le_refl _
  | n + 1 => by have := wt_pos n; rw [wt]; omega
theorem loopL_len {A : (Nat → Bool) → Bool} {many : Nat} : ∀ {f : Nat} {lv : List Int} {o : Nat → Bool} {n : Nat}, (loopL A many f lv o n).length + 1 ≤ wt f
  | 0, _, _, _ => by simp [loopL, wt]
  | f + 1, lv, o, n => by
    rw [loopL, wt, List.length_append]
    have h1 := loopL_len (A := A) (many := many) (f := f) (lv := lv) (o := o) (n := n + 1)
    have h2 := loopL_len (A := A) (many := many) (f := f) (lv := lv ++ [(n : Int)]) (o := setO o n) (n := n + 1)
    have h3 := wt_pos f
    have h4 : (if (lv ++ [(n : Int)]).length = many then (if A (setO o n) then [lv ++ [(n : Int)]] else []) else loopL A many f (lv ++ [(n : Int)]) (setO o n) (n + 1)).length ≤ wt f := by
      split
      · split <;> simp <;> omega
      · omega
    omega
theorem pickL_len {A : (Nat → Bool) → Bool} {many f : Nat} {lv : List Int} {o : Nat → Bool} {n : Nat} : (pickL A many f lv o n).length ≤ wt f := by
  have h1 := loopL_len (A := A) (many := many) (f := f) (lv := lv) (o := o) (n := n)
  have h3 := wt_pos f
  unfold pickL
  split
  · split <;> simp <;> omega
  · omega

/-- a world that has grown out of w, but for what lies in one block. -/
structure Gx (w : World) (row : Option Nat) where
  W : World
  h : w.grownBy W row
instance (w : World) (row : Option Nat) : Nonempty (Gx w row) := ⟨⟨w, World.grownBy.refl w row⟩⟩
theorem Gx.cell? {w : World} {row : Option Nat} (x : Gx w row) (b o : Nat) (hb : b < w.heap.size) (hne : ¬ some b = row) : x.W.cell? ⟨b, o, none⟩ = w.cell? ⟨b, o, none⟩ := World.cell?_of_block (x.h.block b hb hne)
theorem wp_region_gx_held {P : Program} {Q : Exit → Act → World → Prop} {id : Nat} {a : Act} {w : World} {l : List Oper} (row : Option Nat) (n : Nat) (pre loud : List Nat) (hm : P.follows .mixedOrders = true)
    (hB : (heldB .any l.toArray n pre loud && decide (pre.length + loud.length = n)) = true) (hQ : ∀ d v c a w, Q (.panic c) (a.put d v) w → Q (.panic c) a w)
    (h : wpQuiet P l.toArray (fun w' => ∃ x : Gx w row, w' = x.W) (fun a' => wpLoud P l.toArray Q (fun w' => w.grownBy w' row) (fun a'' w'' => wpList P l.toArray Q (l.drop n) a'' w'') (loud.filterMap (l[·]?)) a' w.drew) (pre.filterMap (l[·]?)) a) :
    (Code.region id l.toArray true).wp P Q a w := by
  have hC : (fun w' => ∃ x : Gx w row, w' = x.W) = fun w' => w.grownBy w' row := by
    funext w'
    exact propext ⟨fun ⟨x, hx⟩ => hx ▸ x.h, fun hb => ⟨⟨w', hb⟩, rfl⟩⟩
  rw [hC] at h
  exact wp_region_held_tail n pre loud _ hm hB hQ ⟨rfl, rfl, rfl, Nat.le_refl _, fun _ _ _ => rfl⟩ h

/-- a world that has grown out of w, but for some blocks. -/
structure Fr (R : Nat → Prop) (w w' : World) : Prop where
  os : w'.os = w.os
  tape : w'.tape = w.tape
  output : w'.output = w.output
  size : w.heap.size ≤ w'.heap.size
  block : ∀ k, k < w.heap.size → ¬ R k → w'.heap[k]? = w.heap[k]?
theorem Fr.refl (R : Nat → Prop) (w : World) : Fr R w w := ⟨rfl, rfl, rfl, Nat.le_refl _, fun _ _ _ => rfl⟩
theorem Fr.below {R : Nat → Prop} {w w' : World} (h : Below w.heap.size w w') : Fr R w w' := ⟨h.os, h.tape, h.output, h.size, fun k hk _ => h.block k hk⟩
theorem Fr.grown {R : Nat → Prop} {w w' : World} {row : Option Nat} (h : w.grownBy w' row) (hr : ∀ b, row = some b → R b ∨ w.heap.size ≤ b) : Fr R w w' := ⟨h.os, h.tape, h.output, h.size, fun k hk hn => h.block k hk (fun e => by rcases hr k e.symm with h | h; exact hn h; omega)⟩
theorem Fr.set {R : Nat → Prop} (w : World) (b i : Nat) (v : Value) (hb : R b) : Fr R w (w.setCell ⟨b, i, none⟩ v) := Fr.grown (grown_set w b i v) (fun _ e => .inl (by injection e with e; exact e ▸ hb))
theorem Fr.trans {R R' : Nat → Prop} {a b c : World} (h : Fr R a b) (k : Fr R' b c) (hR : ∀ x, x < a.heap.size → R' x → R x) : Fr R a c :=
  ⟨k.os.trans h.os, k.tape.trans h.tape, k.output.trans h.output, Nat.le_trans h.size k.size, fun x hx hn => (k.block x (Nat.lt_of_lt_of_le hx h.size) (fun h' => hn (hR x hx h'))).trans (h.block x hx hn)⟩
theorem Fr.toBelow {R : Nat → Prop} {B : Nat} {w0 w w' : World} (h : Fr R w w') (hb : Below B w0 w) (hB : B ≤ w.heap.size) (hR : ∀ x, R x → B ≤ x) : Below B w0 w' :=
  ⟨h.os.trans hb.os, h.tape.trans hb.tape, h.output.trans hb.output, Nat.le_trans hb.size h.size, fun x hx => (h.block x (Nat.lt_of_lt_of_le hx hB) (fun hr => by have := hR x hr; omega)).trans (hb.block x hx)⟩
theorem Blk.fr {R : Nat → Prop} {w w' : World} {g : Nat} {t : TypeId} {cs : Array Value} (h : Blk w g t cs) (hf : Fr R w w') (hn : ¬ R g) : Blk w' g t cs := (hf.block g h.lt hn).trans h
theorem own_fr {R : Nat → Prop} {w w' : World} {base : Nat} {e : TypeId} {sz n : Nat} {v : Value} {xs : List Value} (h : w.ownsRow base e sz v n xs) (hf : Fr R w w') (hn : ∀ b, v.ownBlock = some b → ¬ R b) : w'.ownsRow base e sz v n xs := by
  refine ⟨h.1, h.2.imp id ?_⟩
  rintro ⟨g, cap, cur, rfl, hb, hh, rest⟩
  exact ⟨g, cap, cur, rfl, hb, (hf.block g (Array.getElem?_eq_some_iff.1 hh).1 (hn g rfl)).trans hh, rest⟩
theorem own_blkne {w : World} {base : Nat} {e t : TypeId} {size n : Nat} {v : Value} {xs : List Value} {g : Nat} {cs : Array Value} (h : w.ownsRow base e size v n xs) (hg : Blk w g t cs) (hne : e ≠ t) : v.ownBlock ≠ some g := by
  rcases h.2 with ⟨rfl, _⟩ | ⟨g', cap, cur, rfl, _, hh, _⟩
  · simp [Value.ownBlock]
  · intro he
    have : g' = g := by simpa [Value.ownBlock] using he
    subst this
    exact blk_ne (t := e) hh hg hne rfl
theorem own_ownne {w : World} {base base' : Nat} {e t : TypeId} {size n size' n' : Nat} {v v' : Value} {xs xs' : List Value} (h : w.ownsRow base e size v n xs) (h' : w.ownsRow base' t size' v' n' xs') (hne : e ≠ t) {b : Nat} (hb : v.ownBlock = some b) : v'.ownBlock ≠ some b := by
  rcases h'.2 with ⟨rfl, _⟩ | ⟨g', cap, cur, rfl, _, hh, _⟩
  · simp [Value.ownBlock]
  · intro he
    have : g' = b := by simpa [Value.ownBlock] using he
    subst this
    exact own_blkne (cs := cur) h hh hne hb
theorem own_lt {w : World} {base : Nat} {e : TypeId} {sz n : Nat} {v : Value} {xs : List Value} (h : w.ownsRow base e sz v n xs) {b : Nat} (hb : v.ownBlock = some b) : base ≤ b ∧ b < w.heap.size := by
  rcases h.2 with ⟨rfl, _⟩ | ⟨g', cap, cur, rfl, hge, hh, _⟩
  · simp [Value.ownBlock] at hb
  · have : g' = b := by simpa [Value.ownBlock] using hb
    subst this
    exact ⟨hge, (Array.getElem?_eq_some_iff.1 hh).1⟩

/-- rows of rows: the slices vals read as the lists L. -/
def RowsAre (w : World) (base : Nat) : List Value → List (List Int) → Prop
  | [], [] => True
  | v :: vs, l :: ls => w.ownsRow base 3 1 v l.length (l.map (Value.int .i64)) ∧ RowsAre w base vs ls
  | _, _ => False
theorem RowsAre.fr {R : Nat → Prop} {w w' : World} {base : Nat} (hf : Fr R w w') : ∀ {vs : List Value} {ls : List (List Int)}, RowsAre w base vs ls → (∀ v ∈ vs, ∀ b, v.ownBlock = some b → ¬ R b) → RowsAre w' base vs ls
  | [], [], _, _ => trivial
  | v :: vs, l :: ls, h, hn => ⟨own_fr h.1 hf (hn v (by simp)), RowsAre.fr hf h.2 (fun u hu => hn u (by simp [hu]))⟩
theorem RowsAre.snoc {w : World} {base : Nat} {v : Value} {l : List Int} (h1 : w.ownsRow base 3 1 v l.length (l.map (Value.int .i64))) : ∀ {vs : List Value} {ls : List (List Int)}, RowsAre w base vs ls → RowsAre w base (vs ++ [v]) (ls ++ [l])
  | [], [], _ => ⟨h1, trivial⟩
  | _ :: _, _ :: _, h => ⟨h.1, RowsAre.snoc h1 h.2⟩
theorem RowsAre.len {w : World} {base : Nat} : ∀ {vs : List Value} {ls : List (List Int)}, RowsAre w base vs ls → vs.length = ls.length
  | [], [], _ => rfl
  | _ :: _, _ :: _, h => by simp [RowsAre.len h.2]
theorem RowsAre.lt {w : World} {base : Nat} : ∀ {vs : List Value} {ls : List (List Int)}, RowsAre w base vs ls → ∀ v ∈ vs, ∀ b, v.ownBlock = some b → base ≤ b ∧ b < w.heap.size
  | [], [], _, v, hv, _, _ => by cases hv
  | _ :: _, _ :: _, h, v, hv, b, hb => by
    rcases List.mem_cons.1 hv with rfl | hv
    · exact own_lt h.1 hb
    · exact RowsAre.lt h.2 v hv b hb
theorem RowsAre.ne {w : World} {base base' : Nat} {t : TypeId} {size n : Nat} {u : Value} {xs : List Value} (hu : w.ownsRow base' t size u n xs) (ht : (3 : TypeId) ≠ t) : ∀ {vs : List Value} {ls : List (List Int)}, RowsAre w base vs ls → ∀ v ∈ vs, ∀ b, v.ownBlock = some b → u.ownBlock ≠ some b
  | [], [], _, v, hv, _, _ => by cases hv
  | _ :: _, _ :: _, h, v, hv, b, hb => by
    rcases List.mem_cons.1 hv with rfl | hv
    · exact own_ownne h.1 hu ht hb
    · exact RowsAre.ne hu ht h.2 v hv b hb

theorem ints_info : (Try.prog.info? 54).map (fun i => (i.zero, i.size, i.bytes)) = some (some (.slice none 0 0), 1, 24) := by kernel_rfl

/-- Clone at a row of the call's own. -/
theorem clone_own {w : World} {base : Nat} {v : Value} {l : List Int} (hl : l.length ≤ 1000000) (h : w.ownsRow base 3 1 v l.length (l.map (Value.int .i64))) :
    Calls Try.prog 87 #[v] w fun e w' => ∃ v', e = .returned v' ∧ w'.ownsRow w.heap.size 3 1 v' l.length (l.map (Value.int .i64)) ∧ Below w.heap.size w w' := by
  obtain ⟨A, c, rfl, hlc, hsl⟩ := own_sl h
  rcases h.2 with ⟨hv, h0⟩ | ⟨g, cap, cur, hv, hb, hh, rest⟩
  · injection hv with hv1 hv2 hv3
    subst hv1 hv3
    refine (slices_Clone_int_nil l.length 0 w).mono ?_
    rintro e w' ⟨rfl, rfl⟩
    exact ⟨_, rfl, ⟨by simp, .inl ⟨rfl, h0⟩⟩, Below.refl _ _⟩
  · injection hv with hv1 hv2 hv3
    subst hv1
    refine (slices_Clone_int g 0 l.length c l w (Nat.le_refl _) (by omega) (fun j hj => ?_)).mono ?_
    · obtain ⟨b, off, e, _, hc⟩ := hsl (by omega)
      injection e with e; injection e with e1 e2; subst e1 e2
      simpa [fI, gI] using hc j 0 hj (by omega)
    · rintro e w' ⟨v', rfl, ho, _, hb⟩
      rw [List.take_length] at ho
      exact ⟨v', rfl, ho, hb⟩

end Go.Proofs.Ytlgmeofpkfliaaa
end

section
namespace Go.Proofs.Ytlgmeofpkfliaaa
open Go.RowKit
section
variable {P : Program} {ops : Array Oper} {md : Region.Mode} {S : World → Prop} {Q : Exit → Act → World → Prop}

def wpMixO (P : Program) (ops : Array Oper) (Q : Exit → Act → World → Prop) (S : World → Prop) (T : Act → World → Prop) : List (Bool × Nat) → Act → World → Prop
  | [], a, w => T a w
  | (loud, k) :: ks, a, w => ∀ o, ops[k]? = some o → if loud = true then wpList P ops (fun e a' w' => match e with | .normal => S w' ∧ wpMixO P ops Q S T ks a' w' | e => Q e a' w') [o] a w else wpQuiet P ops S (fun a' => wpMixO P ops Q S T ks a' w) [o] a

def mixB (md : Region.Mode) (ops : Array Oper) (n g : Nat) : List (Bool × Nat) → Array Bool → Bool
  | [], listed => Region.seqB md ops g n listed
  | (loud, k) :: ks, listed =>
    decide (k < n) && (if loud = true then decide (Region.ready md ops listed = [k]) else (Region.ready md ops listed).contains k && Region.free md ops listed k && (match ops[k]? with | some o => mute o.op | none => false)) && mixB md ops n g ks (listed.setIfInBounds k true)

def mixedB (md : Region.Mode) (ops : Array Oper) (n : Nat) (ks : List (Bool × Nat)) : Bool :=
  Region.noSelect ops && decide (n < ops.size) && Region.sinkB md ops n && Region.chainB md ops n && mixB md ops n (ops.size - n) ks (Array.replicate ops.size false)

theorem mix_head {n g : Nat} {T : Act → World → Prop} (hsel : Region.noSelect ops = true) (hQ : ∀ d v c a w, Q (.panic c) (a.put d v) w → Q (.panic c) a w)
    (hs : Region.sinkB md ops n = true) (hc : Region.chainB md ops n = true) (hn : n < ops.size) :
    ∀ (ks : List (Bool × Nat)) (listed : Array Bool) (a : Act) (w : World), HeadInv md ops n listed → mixB md ops n g ks listed = true → S w →
      wpMixO P ops Q S T ks a w → wpAnyLH P md ops Q S n (fun listed' a' w' => Region.seqB md ops g n listed' = true ∧ T a' w') ks.length listed a w
  | [], listed, a, w, _, hB, _, h => ⟨hB, h⟩
  | (true, k) :: ks, listed, a, w, inv, hB, hS, h => by
    simp only [mixB, Bool.and_eq_true, decide_eq_true_eq, if_true] at hB
    obtain ⟨⟨hk, hr⟩, hB'⟩ := hB
    obtain ⟨o, hk0⟩ : ∃ o, ops[k]? = some o := ⟨ops[k]'(by omega), by simp [show k < ops.size by omega]⟩
    have h' := h o hk0
    rw [if_pos rfl] at h'
    refine ⟨by rw [hr]; simp, fun i hi => ?_⟩
    rw [hr] at hi
    have hik : i = k := by simpa using hi
    subst hik
    refine ⟨hk, ?_⟩
    refine wpOp_mono (fun a' w' h' => ⟨h'.1, mix_head hsel hQ hs hc hn ks _ a' w' (inv.set (by rw [hr]; simp) hk) hB' h'.1 h'.2⟩) (K := fun a' w' => S w' ∧ wpMixO P ops Q S T ks a' w') ?_
    unfold wpOp
    simp only [hk0]
    simp only [wpList] at h'
    split
    · rename_i hw
      rw [if_pos hw] at h'
      refine h'.imp (fun h => ?_) (fun h => ⟨h.1, ?_⟩)
      · unfold Oper.wp at *
        generalize (execOp a.eval o).run P w = r at *
        cases r with
        | ok n w' =>
          cases n <;> simp only [Oper.upon] at h ⊢ <;> first | exact h | refine Calls.mono h fun e w'' he => ?_
          all_goals
            cases e with
            | returned u => exact he
            | panicked c => exact he
            | outgrown => obtain ⟨x, y, hxy⟩ := he; exact ⟨x, y, hxy⟩
        | halt x w' => cases x <;> simp only [Oper.upon] at h ⊢ <;> first | exact h | skip
      · obtain ⟨x, y, hxy⟩ := h.2; exact ⟨x, y, hxy⟩
    · rename_i hw
      rw [if_neg hw] at h'
      exact h'
  | (false, k) :: ks, listed, a, w, inv, hB, hS, h => by
    simp only [mixB, Bool.and_eq_true, decide_eq_true_eq, if_false, Bool.false_eq_true] at hB
    obtain ⟨⟨hk, ⟨hr, hf⟩, hm⟩, hB'⟩ := hB
    obtain ⟨o, hk0⟩ : ∃ o, ops[k]? = some o := ⟨ops[k]'(by omega), by simp [show k < ops.size by omega]⟩
    simp only [hk0] at hm
    have h' := h o hk0
    rw [if_neg (by simp)] at h'
    have hr' : k ∈ Region.ready md ops listed := by simpa using hr
    have hst : qOp P ops S k (wpQuiet P ops S (fun a' => wpMixO P ops Q S T ks a' w) []) a := by unfold qOp; simp only [hk0]; exact h'
    obtain ⟨v, hy, hK⟩ := yieldsIn_of_qOp hk0 hst
    exact wpAnyLH_first hk0 (Region.noSelect_spec hsel) (hQ _ _) hs hc hn hk (fun listed' a' w' hL => seqB_ready hL.1) ks.length listed a w inv (Region.free_spec hk0 hf) hr' (mute_if hm hy) hS
      (mix_head hsel hQ hs hc hn ks _ _ w (inv.set hr' hk) hB' hS hK)

theorem wp_region_mixed_tail {id : Nat} {a : Act} {w : World} {l : List Oper} (n : Nat) (ks : List (Bool × Nat)) (S : World → Prop) (hm : P.follows .mixedOrders = true)
    (hB : (mixedB .any l.toArray n ks && decide (ks.length = n)) = true) (hQ : ∀ d v c a w, Q (.panic c) (a.put d v) w → Q (.panic c) a w)
    (hS : S { w with drawn := w.drawn + 1 })
    (h : wpMixO P l.toArray Q S (fun a'' w'' => wpList P l.toArray Q (l.drop n) a'' w'') ks a { w with drawn := w.drawn + 1 }) :
    (Code.region id l.toArray true).wp P Q a w := by
  simp only [mixedB, Bool.and_eq_true, decide_eq_true_eq] at hB
  obtain ⟨⟨⟨⟨⟨hsel, hn⟩, hs⟩, hc⟩, hlex⟩, hlen⟩ := hB
  have hdl : (l.drop n).length = l.toArray.size - n := by simp
  have inv0 : HeadInv .any l.toArray n (Array.replicate l.toArray.size false) :=
    ⟨by simp, fun j oj _ hl => (by rw [getD_replicate_false] at hl; cases hl), fun t _ ht => getD_in (by simpa using ht) (getD_replicate_false _ _)⟩
  have H := mix_head (md := .any) (g := l.toArray.size - n) (T := fun a'' w'' => wpList P l.toArray Q (l.drop n) a'' w'') hsel hQ hs hc hn ks _ a _ inv0 hlex hS h
  refine wp_region_any hm ?_
  have := wpAny_of_headH (g := l.toArray.size - n) (fun listed' a' w' hL => by
    have := wpAny_of_seq (md := .any) (l.drop n) n listed' a' w' (fun j => by simp [List.getElem?_drop]) (by rw [hdl]; exact hL.1) hL.2
    rwa [hdl] at this) _ _ _ _ H
  rw [hlen, show n + (l.toArray.size - n) = l.toArray.size by omega] at this
  exact this

/-- what is left of the region, by the places of its operations. -/
def wpMix (P : Program) (l : List Oper) (Q : Exit → Act → World → Prop) (S : World → Prop) (n : Nat) (ks : List (Bool × Nat)) (a : Act) (w : World) : Prop :=
  wpMixO P l.toArray Q S (fun a'' w'' => wpList P l.toArray Q (l.drop n) a'' w'') ks a w
theorem mix_nil {l r : List Oper} {n : Nat} {a : Act} {w : World} (hr : l.drop n = r) (h : wpList P l.toArray Q r a w) : wpMix P l Q S n [] a w := by subst hr; exact h
theorem mix_loud {l : List Oper} {n k : Nat} {ks : List (Bool × Nat)} {o : Oper} {a : Act} {w : World} (ho : l[k]? = some o)
    (h : wpList P l.toArray (fun e a' w' => match e with | .normal => S w' ∧ wpMix P l Q S n ks a' w' | e => Q e a' w') [o] a w) : wpMix P l Q S n ((true, k) :: ks) a w := by
  intro o' ho'
  rw [if_pos rfl]
  have : o' = o := by rw [List.getElem?_toArray, ho] at ho'; exact (Option.some.inj ho').symm
  subst this
  exact h
theorem mix_quiet {l : List Oper} {n k : Nat} {ks : List (Bool × Nat)} {o : Oper} {a : Act} {w : World} (ho : l[k]? = some o)
    (h : wpQuiet P l.toArray S (fun a' => wpMix P l Q S n ks a' w) [o] a) : wpMix P l Q S n ((false, k) :: ks) a w := by
  intro o' ho'
  rw [if_neg (by simp)]
  have : o' = o := by rw [List.getElem?_toArray, ho] at ho'; exact (Option.some.inj ho').symm
  subst this
  exact h
/-- at the class of the worlds that have grown out of w, but for one block. -/
theorem wp_region_gx_mix {id : Nat} {a : Act} {w : World} {l : List Oper} (row : Option Nat) (n : Nat) (ks : List (Bool × Nat)) (hm : P.follows .mixedOrders = true)
    (hB : (mixedB .any l.toArray n ks && decide (ks.length = n)) = true) (hQ : ∀ d v c a w, Q (.panic c) (a.put d v) w → Q (.panic c) a w)
    (h : wpMix P l Q (fun w' => ∃ x : Gx w row, w' = x.W) n ks a w.drew) : (Code.region id l.toArray true).wp P Q a w :=
  wp_region_mixed_tail n ks _ hm hB hQ ⟨⟨w.drew, ⟨rfl, rfl, rfl, Nat.le_refl _, fun _ _ _ => rfl⟩⟩, rfl⟩ h
/-- at the class of the worlds that have grown out of w. -/
theorem wp_region_ext_mix {id : Nat} {a : Act} {w : World} {l : List Oper} (n : Nat) (ks : List (Bool × Nat)) (hm : P.follows .mixedOrders = true)
    (hB : (mixedB .any l.toArray n ks && decide (ks.length = n)) = true) (hQ : ∀ d v c a w, Q (.panic c) (a.put d v) w → Q (.panic c) a w)
    (h : wpMix P l Q (fun w' => ∃ x : Ex w, w' = x.W) n ks a w.drew) : (Code.region id l.toArray true).wp P Q a w :=
  wp_region_mixed_tail n ks _ hm hB hQ ⟨⟨_, (Below.refl w.heap.size w).drew⟩, rfl⟩ h
theorem inEx {w w' : World} (h : Below w.heap.size w w') : ∃ x : Ex w, w' = x.W := ⟨⟨w', h⟩, rfl⟩
theorem inGx {w w' : World} {row : Option Nat} (h : w.grownBy w' row) : ∃ x : Gx w row, w' = x.W := ⟨⟨w', h⟩, rfl⟩
end
end Go.Proofs.Ytlgmeofpkfliaaa
end
