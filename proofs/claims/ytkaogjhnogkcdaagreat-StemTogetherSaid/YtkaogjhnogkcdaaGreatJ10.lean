/- Glass: an append onto a row of the call's own, of which the elder row is told, too. · Glass: pick's loop (walk). · Glass: lists (walk). · Glass: Fewest, Blame (walks). · Glass: Blame (walk). · Glass: the example's glass, history and ices (walks). · Glass: what the chapter's example comes to (plain). · Glass: ints (walk). · Glass: awake (walk): the chapter's example. · The law's and the reference's small helpers (walks): In, span, Thin, to. · The reference's Fault, IcesFault; the law's fault, lived, iced, ready (walks). · The law's fault, lived, iced, ready (walks). · The law's conversions of lists (walks): History, Ices, list. · The law's conversions (walks): list, Truth. · The law's conversion of a glass (walk). · The reference's Has (walk). · The reference's Agrees and Fits (walks). · Stem (plain): what the reference reckons comes to the same. · Stem (plain): readings of one bath, stale readings, ices that are meant. -/
import Derived.ArgAppend
import Derived.Test.YtkaogjhnogkcdaaGreatJ9
import Derived.Test.YtkaogjhnogkcdaaGreatJ8
import Derived.Test.YtkaogjhnogkcdaaGreatJ1
set_option linter.unusedVariables false
set_option linter.unusedSimpArgs false
set_option linter.unusedSectionVars false
section
namespace Go.Proofs.YtkaogjhnogkcdaaGreat
open Go.RowKit

end Go.Proofs.YtkaogjhnogkcdaaGreat
end

section
namespace Go.Proofs.YtkaogjhnogkcdaaGreat
open Go.RowKit
attribute [local go_sem] Ex.cell? Ex.frozen? Gx.cell?

end Go.Proofs.YtkaogjhnogkcdaaGreat
end

section
namespace Go.Proofs.YtkaogjhnogkcdaaGreat
open Go.RowKit
attribute [local go_sem] Ex.cell? Ex.frozen? run_store_func

theorem RowsAre.base {w : World} {base base' : Nat} (hb : base' ≤ base) : ∀ {vs : List Value} {ls : List (List Int)}, RowsAre w base vs ls → RowsAre w base' vs ls
 | [], [], _ => trivial
 | _ :: _, _ :: _, h => ⟨own_base h.1 hb, RowsAre.base hb h.2⟩

noncomputable def listsL (g : Gl) (h : List Rg) (l : List Ic) (many : Nat) : List (List Int) := pickL (agreeB g h l) many l.length [] off0 0

end Go.Proofs.YtkaogjhnogkcdaaGreat
end

section
namespace Go.Proofs.YtkaogjhnogkcdaaGreat
open Go.RowKit
attribute [local go_sem] Ex.cell? Ex.frozen?

def seqL (n : Nat) : List Int := (List.range n).map fun k : Nat => (k : Int)
def FewIs (L : Nat → List (List Int)) (n : Nat) (r : List Int) : Prop :=
 (∃ k, k < n ∧ (∀ j, j < k → L j = []) ∧ ∃ ls, L k = r :: ls) ∨ ((∀ j, j < n → L j = []) ∧ r = seqL n)

end Go.Proofs.YtkaogjhnogkcdaaGreat
end

section
namespace Go.Proofs.YtkaogjhnogkcdaaGreat
open Go.RowKit
attribute [local go_sem] Ex.cell? Ex.frozen?

def BlameIs (agrees : Bool) (L1 : List (List Int)) (e : Ending) : Prop :=
 ((agrees = true ∨ L1.length ≠ 1) ∧ e = .returned (.tuple #[.int .i64 0, .int .i64 7])) ∨ (agrees = false ∧ ∃ x : Int, L1 = [[x]] ∧ e = .returned (.tuple #[.int .i64 x, .int .i64 0]))

end Go.Proofs.YtkaogjhnogkcdaaGreat
end

section
namespace Go.Proofs.YtkaogjhnogkcdaaGreat
open Go.RowKit
attribute [local go_sem] Ex.cell? Ex.frozen?

def tubeG : Gl := ⟨0, [⟨0, 1, 2⟩, ⟨3, 0, 1⟩], [⟨100, 10⟩, ⟨300, 25⟩], 2, 4⟩
def springH : List Rg := [⟨0, 0⟩, ⟨150, 150⟩, ⟨0, 20⟩, ⟨0, 350⟩]
def threeC : List Ic := [⟨1, -6, 0⟩, ⟨3, 4, 0⟩, ⟨2, -3, 0⟩]

theorem Fr.andSet {R : Nat → Prop} {a w : World} (h : Fr R a w) {b i : Nat} {v : Value} (hb : R b) : Fr R a (w.setCell ⟨b, i, none⟩ v) := h.trans (Fr.set w b i v hb) (fun _ _ h => h)

end Go.Proofs.YtkaogjhnogkcdaaGreat
end

section
namespace Go.Proofs.YtkaogjhnogkcdaaGreat
open Go.RowKit

def goFilter (g : Gl) (h : List Rg) (d : Nat) (nxt : List St) : List St → List St
 | [] => []
 | s :: L => if (nextL g h d s).any (fun t => decide (t ∈ nxt)) then s :: goFilter g h d nxt L else goFilter g h d nxt L
def goesL (g : Gl) (h : List Rg) (l : List Ic) (o : Nat → Bool) : Nat → Nat → List St
 | 0, d => canL g h l o d
 | k + 1, d => goFilter g h d (goesL g h l o k (d + 1)) (canL g h l o d)
theorem mem_goFilter {g : Gl} {h : List Rg} {d : Nat} {nxt : List St} {s : St} : ∀ {L : List St}, s ∈ goFilter g h d nxt L ↔ s ∈ L ∧ ∃ t, t ∈ nextL g h d s ∧ t ∈ nxt
 | [] => by simp [goFilter]
 | s' :: L => by
  rw [goFilter]
  split
  ·
   rename_i hp
   simp only [List.any_eq_true, decide_eq_true_eq] at hp
   rw [List.mem_cons, mem_goFilter, List.mem_cons]
   constructor
   ·
    rintro (rfl | ⟨h1, h2⟩)
    ·
     exact ⟨.inl rfl, hp⟩
    ·
     exact ⟨.inr h1, h2⟩
   ·
    rintro ⟨rfl | h1, h2⟩
    ·
     exact .inl rfl
    ·
     exact .inr ⟨h1, h2⟩
  ·
   rename_i hp
   simp only [List.any_eq_true, decide_eq_true_eq] at hp
   rw [mem_goFilter, List.mem_cons]
   constructor
   ·
    rintro ⟨h1, h2⟩; exact ⟨.inr h1, h2⟩
   ·
    rintro ⟨rfl | h1, h2⟩
    ·
     exact absurd h2 hp
    ·
     exact ⟨h1, h2⟩
theorem mem_goesL {g : Gl} {h : List Rg} {l : List Ic} {o : Nat → Bool} : ∀ {k d : Nat} {s : St}, s ∈ goesL g h l o k d ↔ Goes g h l o k d s
 | 0, d, s => mem_canL
 | k + 1, d, s => by
  rw [goesL, mem_goFilter, Goes, mem_canL]
  constructor
  ·
   rintro ⟨h1, t, h2, h3⟩; exact ⟨h1, t, h2, mem_goesL.1 h3⟩
  ·
   rintro ⟨h1, t, h2, h3⟩; exact ⟨h1, t, h2, mem_goesL.2 h3⟩
def endsC (g : Gl) (L : List St) (a b : Int) : Bool := L.any (fun s => zero g s == a) && (L.any (fun s => zero g s == b) && L.all (fun s => decide (a ≤ zero g s) && decide (zero g s ≤ b)))
theorem endsC_iff {g : Gl} {h : List Rg} {l : List Ic} {o : Nat → Bool} {k d : Nat} {a b : Int} (hc : endsC g (goesL g h l o k d) a b = true) : EndsOf (fun z => ∃ s, Goes g h l o k d s ∧ z = zero g s) a b := by
 unfold endsC at hc
 simp only [Bool.and_eq_true, List.any_eq_true, List.all_eq_true, beq_iff_eq, decide_eq_true_eq] at hc
 obtain ⟨⟨s, h1, h2⟩, ⟨t, h3, h4⟩, h5⟩ := hc
 refine ⟨⟨s, mem_goesL.1 h1, h2.symm⟩, ⟨t, mem_goesL.1 h3, h4.symm⟩, ?_⟩
 rintro z ⟨s, hs, rfl⟩
 exact h5 s (mem_goesL.2 hs)
theorem EndsOf.uniq {Z : Int → Prop} {a b a' b' : Int} (h : EndsOf Z a b) (k : EndsOf Z a' b') : a = a' ∧ b = b' := by
 have h1 := h.2.2 _ k.1
 have h2 := h.2.2 _ k.2.1
 have h3 := k.2.2 _ h.1
 have h4 := k.2.2 _ h.2.1
 omega
def zsC (g : Gl) (h : List Rg) (l : List Ic) (zs : List Rg) : Bool := decide (zs.length = h.length) && (List.range h.length).all fun i => endsC g (goesL g h l off0 (h.length - 1 - i) (i + 1)) (gR zs i).lo (gR zs i).hi
theorem ZsOf.uniq {g : Gl} {h : List Rg} {l : List Ic} {zs zs' : List Rg} (k : ZsOf g h l zs) (k' : ZsOf g h l zs') : zs = zs' := by
 refine List.ext_getElem (by rw [k.1, k'.1]) (fun i h1 h2 => ?_)
 have := (k.2 i (by rw [← k.1]; exact h1)).uniq (k'.2 i (by rw [← k.1]; exact h1))
 have e1 : gR zs i = zs[i] := by simp [gR, h1]
 have e2 : gR zs' i = zs'[i] := by simp [gR, h2]
 rw [e1, e2] at this
 cases hz : zs[i]; cases hz' : zs'[i]
 rw [hz, hz'] at this
 simp only at this
 rw [this.1, this.2]
theorem zsC_iff {g : Gl} {h : List Rg} {l : List Ic} {zs : List Rg} (hc : zsC g h l zs = true) : ZsOf g h l zs := by
 unfold zsC at hc
 simp only [Bool.and_eq_true, decide_eq_true_eq, List.all_eq_true, List.mem_range] at hc
 exact ⟨hc.1, fun i hi => endsC_iff (hc.2 i hi)⟩

theorem zs0 : ZsOf tubeG springH [] [⟨1, 2⟩, ⟨-8, -6⟩, ⟨-5, 0⟩, ⟨-22, 5⟩] := zsC_iff (by decide +kernel)
theorem can0 : ∃ s, Can tubeG springH [] off0 springH.length s := agreeB_iff.1 ((agreeB_eq _ _ _ _).trans (by decide +kernel))
end Go.Proofs.YtkaogjhnogkcdaaGreat
end

section
namespace Go.Proofs.YtkaogjhnogkcdaaGreat
open Go.RowKit
attribute [local go_sem] Ex.cell? Ex.frozen?

def intsB (l m : List Int) : Bool := decide (l = m)
end Go.Proofs.YtkaogjhnogkcdaaGreat
end

section
namespace Go.Proofs.YtkaogjhnogkcdaaGreat
open Go.RowKit
attribute [local go_sem] Ex.cell? Ex.frozen?

end Go.Proofs.YtkaogjhnogkcdaaGreat
end

section
namespace Go.Proofs.YtkaogjhnogkcdaaGreat
open Go.RowKit
attribute [local go_sem] Ex.cell? Ex.frozen?

theorem In_any (n lo hi : Int) (w : World) :
    Calls Tryz.prog 41 #[.int .i64 n, .int .i64 lo, .int .i64 hi] w fun e w' => e = .returned (.bool (inB n lo hi)) ∧ w = w' := by
  by_cases h1 : lo ≤ n
  · by_cases h2 : n ≤ hi
    · go_enter Tryz.func41, Tryz.ntmps41
      go_wp2
      go_ret
      simp [inB, h1, h2]
    · have h2' : decide (n ≤ hi) = false := by simpa using h2
      go_enter Tryz.func41, Tryz.ntmps41
      go_wp2
      go_ret
      simp [inB, h1, h2]
  · have h1' : decide (lo ≤ n) = false := by simpa using h1
    go_enter Tryz.func41, Tryz.ntmps41
    go_wp2
    go_ret
    exact ⟨by rw [inB, h1']; rfl, rfl⟩

theorem span_any (lo hi high : Int) (w : World) :
    Calls Tryz.prog 127 #[.agg #[.int .i64 lo, .int .i64 hi], .int .i64 high] w fun e w' => e = .returned (.bool (toB lo hi high)) ∧ Below w.heap.size w w' := by
  have hb1 := ex_alloc (Below.refl w.heap.size w) (.cells #[.int .i64 lo, .int .i64 hi] 25)
  cases h1 : inB lo 0 hi
  · have HR : Hid (toB lo hi high = false) := by
      have : ¬ (0 ≤ lo ∧ lo ≤ hi) := fun h => by rw [inB_iff.2 h] at h1; cases h1
      cases ht : toB lo hi high
      · exact Lib.hid rfl
      · exact absurd ⟨(toB_iff.1 ht).1, (toB_iff.1 ht).2.1⟩ this
    go_enter Tryz.func127, Tryz.ntmps127
    go_wp2_with (go_at_call 41; refine (In_any _ _ _ _).mono ?_; rintro e w' ⟨rfl, rfl⟩)
    go_ret
    exact ⟨by rw [HR.out]; rfl, hb1⟩
  · have h1' := inB_iff.1 h1
    by_cases h2 : hi ≤ high
    · have HR : Hid (toB lo hi high = true) := Lib.hid (toB_iff.2 ⟨h1'.1, h1'.2, h2⟩)
      go_enter Tryz.func127, Tryz.ntmps127
      go_wp2_with (go_at_call 41; refine (In_any _ _ _ _).mono ?_; rintro e w' ⟨rfl, rfl⟩)
      go_ret
      exact ⟨by rw [HR.out]; rfl, hb1⟩
    · have HR : Hid (toB lo hi high = false) := by
        cases ht : toB lo hi high
        · exact Lib.hid rfl
        · exact absurd (toB_iff.1 ht).2.2 h2
      have h2' : decide (hi ≤ high) = false := by simpa using h2
      go_enter Tryz.func127, Tryz.ntmps127
      go_wp2_with (go_at_call 41; refine (In_any _ _ _ _).mono ?_; rintro e w' ⟨rfl, rfl⟩)
      go_ret
      exact ⟨by rw [HR.out]; rfl, hb1⟩

def thinB (nb nd nh ni : Nat) : Bool := decide (nb ≤ 5) && (decide (nd ≤ 6) && (decide (nh ≤ 20) && decide (ni ≤ 11)))
theorem thinB_iff {nb nd nh ni : Nat} : thinB nb nd nh ni = true ↔ nb ≤ 5 ∧ nd ≤ 6 ∧ nh ≤ 20 ∧ ni ≤ 11 := by simp [thinB]

theorem Thin_any (base blo bhi : Int) (Ab Ad Ah Ai : Option Addr) (nb nd nh ni cb cd ch ci : Nat) (w : World) :
    Calls Tryz.prog 54 #[.agg #[.int .i64 base, .slice Ab nb cb, .slice Ad nd cd, .int .i64 blo, .int .i64 bhi], .slice Ah nh ch, .slice Ai ni ci] w fun e w' => e = .returned (.bool (thinB nb nd nh ni)) ∧ Below w.heap.size w w' := by
  have hb1 := ex_alloc (Below.refl w.heap.size w) (.cells #[.int .i64 base, .slice Ab nb cb, .slice Ad nd cd, .int .i64 blo, .int .i64 bhi] 27)
  by_cases h1 : nb ≤ 5
  · have h1' : decide (nb ≤ 5) = true := decide_eq_true h1
    by_cases h2 : nd ≤ 6
    · have h2' : decide (nd ≤ 6) = true := decide_eq_true h2
      by_cases h3 : nh ≤ 20
      · have h3' : decide (nh ≤ 20) = true := decide_eq_true h3
        by_cases h4 : ni ≤ 11
        · have HR : Hid (thinB nb nd nh ni = true) := Lib.hid (thinB_iff.2 ⟨h1, h2, h3, h4⟩)
          have h4' : decide ((ni : Int) ≤ 11) = true := decide_eq_true (by omega)
          go_enter Tryz.func54, Tryz.ntmps54
          go_wp2
          go_ret
          exact ⟨by rw [HR.out]; rfl, hb1⟩
        · have h4' : decide ((ni : Int) ≤ 11) = false := decide_eq_false (by omega)
          have HR : Hid (thinB nb nd nh ni = false) := Lib.hid (by simp [thinB, h4])
          go_enter Tryz.func54, Tryz.ntmps54
          go_wp2
          go_ret
          exact ⟨by rw [HR.out]; rfl, hb1⟩
      · have h3' : decide (nh ≤ 20) = false := decide_eq_false h3
        have HR : Hid (thinB nb nd nh ni = false) := Lib.hid (by simp [thinB, h3])
        go_enter Tryz.func54, Tryz.ntmps54
        go_wp2
        go_ret
        exact ⟨by rw [HR.out]; rfl, hb1⟩
    · have h2' : decide (nd ≤ 6) = false := decide_eq_false h2
      have HR : Hid (thinB nb nd nh ni = false) := Lib.hid (by simp [thinB, h2])
      go_enter Tryz.func54, Tryz.ntmps54
      go_wp2
      go_ret
      exact ⟨by rw [HR.out]; rfl, hb1⟩
  · have h1' : decide (nb ≤ 5) = false := decide_eq_false h1
    have HR : Hid (thinB nb nd nh ni = false) := Lib.hid (by simp [thinB, h1])
    go_enter Tryz.func54, Tryz.ntmps54
    go_wp2
    go_ret
    exact ⟨by rw [HR.out]; rfl, hb1⟩

theorem to_law (lo hi : Int) (w : World) :
    Calls Tryz.prog 61 #[.agg #[.int .i64 lo, .int .i64 hi]] w fun e w' => e = .returned (.agg #[.int .i64 lo, .int .i64 hi]) ∧ Below w.heap.size w w' := by
  go_enter Tryz.func61, Tryz.ntmps61
  go_wp2
  exact bodyPost_ret (v := .agg #[.int .i64 lo, .int .i64 hi]) (by simp [results, Tryz.results61, go_sem]) rfl ⟨rfl, by (repeat (first | with_reducible exact Below.refl _ _ | with_reducible refine ex_set ?_ ?_ _ | with_reducible refine ex_alloc ?_ _ | (simp; done) | (simp; omega)))⟩

def hisF (h : List Rg) : Int := if 16 < h.length then 3 else if h.length = 0 ∨ allTo (heatOk h) h.length = false then 2 else 0
def icsF (n : Nat) (l : List Ic) : Int := if 8 < l.length then 3 else if allTo (iceOk n l) l.length = false then 2 else 0
theorem lived_eq (g : Gl) (h : List Rg) : lived g h = if ckGlass g ≠ 0 then ckGlass g else hisF h := rfl
theorem iced_eq' (g : Gl) (h : List Rg) (l : List Ic) : iced g h l = if lived g h ≠ 0 then lived g h else icsF h.length l := rfl

set_option maxHeartbeats 800000 in
theorem HistoryFault_any (A : Option Addr) (c : Nat) (h : List Rg) (w : World) (hA : SlAt w w.heap.size 2 A h.length (fR h)) :
    Calls Tryz.prog 104 #[.slice A h.length c] w fun e w' => e = .returned (.int .i64 (hisF h)) ∧ Below w.heap.size w w' := by
  by_cases hl : 16 < h.length
  · have HR : Hid (hisF h = 3) := Lib.hid (if_pos hl)
    have h1 : decide (16 < h.length) = true := decide_eq_true hl
    go_enter Tryz.func104, Tryz.ntmps104
    go_wp2
    go_ret
    exact ⟨ret_int HR.out.symm, Below.refl _ _⟩
  have HR : Hid (hisF h = if h.length = 0 ∨ allTo (heatOk h) h.length = false then 2 else 0) := Lib.hid (if_neg hl)
  have h1 : decide (16 < h.length) = false := decide_eq_false hl
  go_enter Tryz.func104, Tryz.ntmps104
  go_wp2_with fail
  go_loopw [3] (fun i wr => ∃ k : Nat, k ≤ h.length ∧ i = .int .i64 k ∧ (∀ j, j < k → heatOk h j = true) ∧ Below w.heap.size w wr)
    (fun i _ => h.length - (intOf i).toNat)
  case atStart => exact ⟨0, by omega, rfl, fun j hj => by omega, Below.refl _ _⟩
  case round =>
    obtain ⟨k, hk, rfl, hag, hbl⟩ := hrel
    have HAG := Lib.hid hag
    clear hag
    by_cases hlt : k < h.length
    · obtain ⟨b, off, rfl, hb, hc0, hc1⟩ := IsRgs.at_ (hA.below hbl) hlt
      have HO : Hid (heatOk h k = toB (gR h k).lo (gR h k).hi 500) := Lib.hid rfl
      cases ht : toB (gR h k).lo (gR h k).hi 500
      · have HR2 : Hid ((if h.length = 0 ∨ allTo (heatOk h) h.length = false then (2 : Int) else 0) = 2) := Lib.hid (if_pos (.inr (allTo_false hlt (by rw [HO.out, ht]))))
        go_wp2_with (go_at_call 127; refine (span_any _ _ _ _).mono ?_; rintro e w2 ⟨rfl, hb2⟩)
        go_ret
        exact ⟨ret_int (by rw [HR.out, HR2.out]), ex_trans hbl hb2⟩
      · have HT := Lib.hid ht
        go_wp2_with (go_at_call 127; refine (span_any _ _ _ _).mono ?_; rintro e w2 ⟨rfl, hb2⟩)
        go_roundw
        case rel => exact ⟨k + 1, by omega, by go_num, fun j hj => by rcases Nat.lt_succ_iff_lt_or_eq.1 hj with h | h; exact HAG.out j h; rw [h, HO.out]; exact HT.out, ex_trans hbl hb2⟩
        case measure => simp [intOf]; omega
    · have HK : Hid (k = h.length) := Lib.hid (by omega)
      by_cases hz : h.length = 0
      · have HR2 : Hid ((if h.length = 0 ∨ allTo (heatOk h) h.length = false then (2 : Int) else 0) = 2) := Lib.hid (if_pos (.inl hz))
        have e1 : ((h.length : Int) == 0) = true := by simp [hz]
        have e2 : (h.length == 0) = true := by simp [hz]
        clear hz
        go_wp2
        go_ret
        exact ⟨ret_int (by rw [HR.out, HR2.out]), hbl⟩
      · have HR2 : Hid ((if h.length = 0 ∨ allTo (heatOk h) h.length = false then (2 : Int) else 0) = 0) := Lib.hid (if_neg (fun hc => by
          rcases hc with hc | hc
          · exact hz hc
          · rw [allTo_iff.2 (fun j hj => HAG.out j (by rw [HK.out]; exact hj))] at hc; cases hc))
        have e1 : ((h.length : Int) == 0) = false := by simpa using hz
        have e2 : (h.length == 0) = false := by simpa using hz
        clear hz
        go_wp2
        go_ret
        exact ⟨ret_int (by rw [HR.out, HR2.out]), hbl⟩

end Go.Proofs.YtkaogjhnogkcdaaGreat
end

section
namespace Go.Proofs.YtkaogjhnogkcdaaGreat
open Go.RowKit
attribute [local go_sem] Ex.cell? Ex.frozen?

set_option maxHeartbeats 1600000 in
theorem IcesFault_any (Ah A : Option Addr) (ch c nh : Nat) (l : List Ic) (w : World) (hnh : nh ≤ 1000000) (hA : SlAt w w.heap.size 3 A l.length (fC l)) :
    Calls Tryz.prog 44 #[.slice Ah nh ch, .slice A l.length c] w fun e w' => e = .returned (.int .i64 (icsF nh l)) ∧ Below w.heap.size w w' := by
  by_cases hl : 8 < l.length
  · have HR : Hid (icsF nh l = 3) := Lib.hid (if_pos hl)
    have h1 : decide (8 < l.length) = true := decide_eq_true hl
    go_enter Tryz.func44, Tryz.ntmps44
    go_wp2
    go_ret
    exact ⟨ret_int HR.out.symm, Below.refl _ _⟩
  have HR : Hid (icsF nh l = if allTo (iceOk nh l) l.length = false then 2 else 0) := Lib.hid (if_neg hl)
  have h1 : decide (8 < l.length) = false := decide_eq_false hl
  go_enter Tryz.func44, Tryz.ntmps44
  go_wp2_with fail
  go_loopw [5] (fun i wr => ∃ k : Nat, k ≤ l.length ∧ i = .int .i64 k ∧ (∀ j, j < k → iceOk nh l j = true) ∧ Below w.heap.size w wr)
    (fun i _ => l.length - (intOf i).toNat)
  case atStart => exact ⟨0, by omega, rfl, fun j hj => by omega, Below.refl _ _⟩
  case round =>
    obtain ⟨k, hk, rfl, hag, hbl⟩ := hrel
    have HAG := Lib.hid hag
    clear hag
    by_cases hlt : k < l.length
    · obtain ⟨b, off, rfl, hb, hc0, hc1, hc2⟩ := IsIcs.at_ (hA.below hbl) hlt
      have HO : Hid (iceOk nh l k = (inB (gC l k).day 0 ((nh : Int) - 1) && (inB (gC l k).zero (-2000) 2000 && inB (gC l k).err 0 20))) := Lib.hid rfl
      cases t1 : inB (gC l k).day 0 ((nh : Int) - 1)
      · have HR2 : Hid ((if allTo (iceOk nh l) l.length = false then (2 : Int) else 0) = 2) := Lib.hid (if_pos (allTo_false hlt (by rw [HO.out, t1]; rfl)))
        go_wp2_with (go_at_call 41; refine (In_any _ _ _ _).mono ?_; rintro e w2 ⟨rfl, rfl⟩)
        go_ret
        exact ⟨ret_int (by rw [HR.out, HR2.out]), hbl⟩
      cases t2 : inB (gC l k).zero (-2000) 2000
      · have HR2 : Hid ((if allTo (iceOk nh l) l.length = false then (2 : Int) else 0) = 2) := Lib.hid (if_pos (allTo_false hlt (by rw [HO.out, t1, t2]; rfl)))
        go_wp2_with (go_at_call 41; refine (In_any _ _ _ _).mono ?_; rintro e w2 ⟨rfl, rfl⟩)
        go_ret
        exact ⟨ret_int (by rw [HR.out, HR2.out]), hbl⟩
      cases t3 : inB (gC l k).err 0 20
      · have HR2 : Hid ((if allTo (iceOk nh l) l.length = false then (2 : Int) else 0) = 2) := Lib.hid (if_pos (allTo_false hlt (by rw [HO.out, t1, t2, t3]; rfl)))
        go_wp2_with (go_at_call 41; refine (In_any _ _ _ _).mono ?_; rintro e w2 ⟨rfl, rfl⟩)
        go_ret
        exact ⟨ret_int (by rw [HR.out, HR2.out]), hbl⟩
      · have HT : Hid (iceOk nh l k = true) := Lib.hid (by rw [HO.out, t1, t2, t3]; rfl)
        go_wp2_with (go_at_call 41; refine (In_any _ _ _ _).mono ?_; rintro e w2 ⟨rfl, rfl⟩)
        go_roundw
        case rel => exact ⟨k + 1, by omega, by go_num, fun j hj => by rcases Nat.lt_succ_iff_lt_or_eq.1 hj with h | h; exact HAG.out j h; rw [h]; exact HT.out, hbl⟩
        case measure => simp [intOf]; omega
    · have HK : Hid (k = l.length) := Lib.hid (by omega)
      have HR2 : Hid ((if allTo (iceOk nh l) l.length = false then (2 : Int) else 0) = 0) := Lib.hid (if_neg (fun hc => by rw [allTo_iff.2 (fun j hj => HAG.out j (by rw [HK.out]; exact hj))] at hc; cases hc))
      go_wp2
      go_ret
      exact ⟨ret_int (by rw [HR.out, HR2.out]), hbl⟩

theorem ck3 {g : Gl} (h : 3 < g.bands.length ∨ 4 < g.depths.length) : ckGlass g = 3 := by unfold ckGlass; rw [if_pos h]
theorem ck1 {g : Gl} (h : ¬ (3 < g.bands.length ∨ 4 < g.depths.length)) (hk : ckOk g = false) : ckGlass g = 1 := by unfold ckGlass; rw [if_neg h, if_neg (by simp [hk])]
theorem ck0 {g : Gl} (h : ¬ (3 < g.bands.length ∨ 4 < g.depths.length)) (hk : ckOk g = true) : ckGlass g = 0 := by unfold ckGlass; rw [if_neg h, if_pos hk]

set_option maxRecDepth 100000 in
set_option maxHeartbeats 3200000 in
theorem Fault_any (g : Gl) (Ab Ad : Option Addr) (cb cd : Nat) (w : World) (hg : GlIn w w.heap.size g Ab Ad) :
    Calls Tryz.prog 122 #[.agg #[.int .i64 g.base, .slice Ab g.bands.length cb, .slice Ad g.depths.length cd, .int .i64 g.blo, .int .i64 g.bhi]] w fun e w' => e = .returned (.int .i64 (ckGlass g)) ∧ Below w.heap.size w w' := by
  obtain ⟨hb, hd⟩ := hg
  have hb1 := ex_alloc (Below.refl w.heap.size w) (.cells #[.int .i64 g.base, .slice Ab g.bands.length cb, .slice Ad g.depths.length cd, .int .i64 g.blo, .int .i64 g.bhi] 27)
  have q1 : Blk (w.alloc (.cells #[.int .i64 g.base, .slice Ab g.bands.length cb, .slice Ad g.depths.length cd, .int .i64 g.blo, .int .i64 g.bhi] 27)) w.heap.size 27 #[.int .i64 g.base, .slice Ab g.bands.length cb, .slice Ad g.depths.length cd, .int .i64 g.blo, .int .i64 g.bhi] := Blk.new _ _ _
  by_cases h1 : 3 < g.bands.length
  · have h1' : decide (3 < g.bands.length) = true := decide_eq_true h1
    have HR : Hid (ckGlass g = 3) := Lib.hid (ck3 (.inl h1))
    go_enter Tryz.func122, Tryz.ntmps122
    go_wp2
    go_ret
    exact ⟨ret_int HR.out.symm, hb1⟩
  have h1' : decide (3 < g.bands.length) = false := decide_eq_false h1
  by_cases h2 : 4 < g.depths.length
  · have h2' : decide (4 < (g.depths.length : Int)) = true := decide_eq_true (by omega)
    have HR : Hid (ckGlass g = 3) := Lib.hid (ck3 (.inr h2))
    go_enter Tryz.func122, Tryz.ntmps122
    go_wp2
    go_ret
    exact ⟨ret_int HR.out.symm, hb1⟩
  have h2' : decide (4 < (g.depths.length : Int)) = false := decide_eq_false (by omega)
  have HN := Lib.hid (show ¬ (3 < g.bands.length ∨ 4 < g.depths.length) by omega)
  have H1 := fun (hk : ckOk g = false) => ck1 HN.out hk
  have HC1 := Lib.hid H1
  clear H1
  have HOK : Hid (ckOk g = (inB g.base (-1000) 1000 && (toB g.blo g.bhi 5 && ((allTo (bandOk g.bands) g.bands.length && (decide (0 < g.bands.length) && decide ((gB g.bands 0).from_ = 0))) && (allTo (deepOk g.depths) g.depths.length && decide (0 < g.depths.length)))))) := Lib.hid rfl
  by_cases h3 : g.bands.length = 0
  · have HR : Hid (ckGlass g = 1) := Lib.hid (HC1.out (by rw [HOK.out, h3]; simp))
    have e1 : ((g.bands.length : Int) == 0) = true := by simp [h3]
    have e2 : (g.bands.length == 0) = true := by simp [h3]
    clear h3
    go_enter Tryz.func122, Tryz.ntmps122
    go_wp2
    go_ret
    exact ⟨ret_int HR.out.symm, hb1⟩
  have e1 : ((g.bands.length : Int) == 0) = false := by simpa using h3
  have e2 : (g.bands.length == 0) = false := by simpa using h3
  have hb0 : 0 < g.bands.length := by omega
  clear h3
  by_cases h4 : g.depths.length = 0
  · have HR : Hid (ckGlass g = 1) := Lib.hid (HC1.out (by rw [HOK.out, h4]; simp))
    have e3 : ((g.depths.length : Int) == 0) = true := by simp [h4]
    have e4 : (g.depths.length == 0) = true := by simp [h4]
    clear h4
    go_enter Tryz.func122, Tryz.ntmps122
    go_wp2
    go_ret
    exact ⟨ret_int HR.out.symm, hb1⟩
  have e3 : ((g.depths.length : Int) == 0) = false := by simpa using h4
  have e4 : (g.depths.length == 0) = false := by simpa using h4
  have hd0 : 0 < g.depths.length := by omega
  clear h4
  cases h5 : inB g.base (-1000) 1000
  · have HR : Hid (ckGlass g = 1) := Lib.hid (HC1.out (by rw [HOK.out, h5]; rfl))
    go_enter Tryz.func122, Tryz.ntmps122
    go_wp2_with (go_at_call 41; refine (In_any _ _ _ _).mono ?_; rintro e w2 ⟨rfl, rfl⟩)
    go_ret
    exact ⟨ret_int HR.out.symm, hb1⟩
  cases h6 : toB g.blo g.bhi 5
  · have HR : Hid (ckGlass g = 1) := Lib.hid (HC1.out (by rw [HOK.out, h5, h6]; rfl))
    go_enter Tryz.func122, Tryz.ntmps122
    go_wp2_with (first | (go_at_call 41; refine (In_any _ _ _ _).mono ?_; rintro e w2 ⟨rfl, rfl⟩) | (go_at_call 127; refine (span_any _ _ _ _).mono ?_; rintro e w2 ⟨rfl, hb2⟩))
    go_ret
    exact ⟨ret_int HR.out.symm, ex_trans hb1 hb2⟩
  obtain ⟨b0, o0, rfl, hbb0, p0, p1, p2⟩ := IsBds.at_ hb hb0
  rw [Nat.zero_mul, Nat.add_zero] at p0 p1 p2
  obtain ⟨f0, hf0⟩ : ∃ f0, (gB g.bands 0).from_ = f0 := ⟨_, rfl⟩
  rw [hf0] at p0
  have HF0 := Lib.hid hf0
  clear hf0
  by_cases h7 : f0 = 0
  · have e5 : (f0 != 0) = false := by simp [h7]
    have HF00 : Hid (decide ((gB g.bands 0).from_ = 0) = true) := Lib.hid (by rw [HF0.out]; exact decide_eq_true h7)
    clear h7
    have HOK2 : Hid (ckOk g = (allTo (bandOk g.bands) g.bands.length && allTo (deepOk g.depths) g.depths.length)) := Lib.hid (by rw [HOK.out, h5, h6, HF00.out, decide_eq_true hb0, decide_eq_true hd0]; simp)
    go_enter Tryz.func122, Tryz.ntmps122
    go_wp2_with (first | (go_at_call 41; refine (In_any _ _ _ _).mono ?_; rintro e w2 ⟨rfl, rfl⟩) | (go_at_call 127; refine (span_any _ _ _ _).mono ?_; rintro e w2 ⟨rfl, hb2⟩; obtain ⟨hcc, hff⟩ := bcell hb2; have hsz : w.heap.size < w2.heap.size := (by have := hb2.size; simp at this; omega)))
    have hB2 := ex_trans hb1 hb2
    have q2 := q1.below hb2 q1.lt
    have hbI : ∀ k, k < g.bands.length → ∃ x y z, gB g.bands k = ⟨x, y, z⟩ := fun k _ => ⟨_, _, _, rfl⟩
    clear hcc hff hsz p0 p1 p2 q1 hbI e1 e2 e3 e4 e5 h1' h2'
    go_loopw [3, 4] (fun i _ wr => ∃ k : Nat, k ≤ g.bands.length ∧ i = .int .i64 k ∧ (∀ j, j < k → bandOk g.bands j = true) ∧ Below w.heap.size w wr ∧ Blk wr w.heap.size 27 #[.int .i64 g.base, .slice (some ⟨b0, o0, none⟩) g.bands.length cb, .slice Ad g.depths.length cd, .int .i64 g.blo, .int .i64 g.bhi])
      (fun i _ _ => g.bands.length - (intOf i).toNat)
    case atStart => exact ⟨0, by omega, rfl, fun j hj => by omega, hB2, q2⟩
    case round =>
      clear hB2 q2 hb2 hb1
      obtain ⟨k, hk, rfl, hag, hbl, hq⟩ := hrel
      have HAG := Lib.hid hag
      clear hag
      have a1 := hq.cell 1
      have l1 := hq.lt
      simp at a1
      by_cases hlt : k < g.bands.length
      · obtain ⟨_, _, hE, _, c0, c1, c2⟩ := IsBds.at_ (hb.below hbl) hlt
        cases hE
        have hbr : b0 < wr.heap.size := by have := hbl.size; omega
        have HO : Hid (bandOk g.bands k = (inB (gB g.bands k).from_ 0 16 && (toB (gB g.bands k).lo (gB g.bands k).hi 3 && !(decide (0 < k) && decide ((gB g.bands k).from_ ≤ (gB g.bands (k - 1)).from_))))) := Lib.hid rfl
        have HBAD : Hid (bandOk g.bands k = false → ckGlass g = 1) := Lib.hid fun h => HC1.out (by rw [HOK2.out, allTo_false hlt h]; rfl)
        generalize (gB g.bands k).from_ = x at *
        generalize (gB g.bands k).lo = y at *
        generalize (gB g.bands k).hi = z at *
        have hbox : Blk (wr.alloc (.cells #[.int .i64 x, .int .i64 y, .int .i64 z] 159)) wr.heap.size 159 #[.int .i64 x, .int .i64 y, .int .i64 z] := Blk.new _ _ _
        cases t1 : inB x 0 16
        · have HR : Hid (ckGlass g = 1) := Lib.hid (HBAD.out (by rw [HO.out, t1]; rfl))
          go_wp2_with fail
          refine wp_region_ext (by kernel_rfl) (by kernel_rfl) ?_
          repeat (any_goals (first | go_big_quiet_step ((first
            | (go_at_call 41; exact Calls.ext_same (In_any _ _ _ _))
            | (go_at_call 127; exact Calls.ext_of (span_any _ _ _ _))))))
          refine wpQuiet_nil ?_; intro _ hw'; obtain ⟨X, rfl⟩ := hw'
          go_wp2
          go_ret
          exact ⟨ret_int HR.out.symm, ex_trans (ex_alloc hbl _) X.h⟩
        cases t2 : toB y z 3
        · have HR : Hid (ckGlass g = 1) := Lib.hid (HBAD.out (by rw [HO.out, t1, t2]; rfl))
          go_wp2_with fail
          refine wp_region_ext (by kernel_rfl) (by kernel_rfl) ?_
          repeat (any_goals (first | go_big_quiet_step ((first
            | (go_at_call 41; exact Calls.ext_same (In_any _ _ _ _))
            | (go_at_call 127; exact Calls.ext_of (span_any _ _ _ _))))))
          refine wpQuiet_nil ?_; intro _ hw'; obtain ⟨X, rfl⟩ := hw'
          go_wp2
          go_ret
          exact ⟨ret_int HR.out.symm, ex_trans (ex_alloc hbl _) X.h⟩
        by_cases hk0 : 0 < k
        · have hk1 : decide (0 < k) = true := decide_eq_true hk0
          obtain ⟨_, _, hE, _, d0, _, _⟩ := IsBds.at_ (hb.below hbl) (show k - 1 < g.bands.length by omega)
          cases hE
          have hks : IntKind.i64.wrap ((k : Int) - 1) = (k : Int) - 1 := IntWalk.i64_in _ (by omega)
          have hks1 : (0 : Int) ≤ (k : Int) - 1 := by omega
          have hks2 : ((k : Int) - 1) < (g.bands.length : Int) := by omega
          have hks3 : ((k : Int) - 1).toNat = k - 1 := by omega
          generalize (gB g.bands (k - 1)).from_ = x' at *
          by_cases hxx : x ≤ x'
          · have HR : Hid (ckGlass g = 1) := Lib.hid (HBAD.out (by rw [HO.out, t1, t2, hk1, decide_eq_true hxx]; rfl))
            have hxx' : decide (x ≤ x') = true := decide_eq_true hxx
            go_wp2_with fail
            refine wp_region_ext (by kernel_rfl) (by kernel_rfl) ?_
            repeat (any_goals (first | go_big_quiet_step ((first
              | (go_at_call 41; exact Calls.ext_same (In_any _ _ _ _))
              | (go_at_call 127; exact Calls.ext_of (span_any _ _ _ _))))))
            refine wpQuiet_nil ?_; intro _ hw'; obtain ⟨X, rfl⟩ := hw'
            go_wp2
            go_ret
            exact ⟨ret_int HR.out.symm, ex_trans (ex_alloc hbl _) X.h⟩
          · have HT : Hid (bandOk g.bands k = true) := Lib.hid (by rw [HO.out, t1, t2, hk1, decide_eq_false hxx]; rfl)
            have hxx' : decide (x ≤ x') = false := decide_eq_false hxx
            go_wp2_with fail
            refine wp_region_ext (by kernel_rfl) (by kernel_rfl) ?_
            repeat (any_goals (first | go_big_quiet_step ((first
              | (go_at_call 41; exact Calls.ext_same (In_any _ _ _ _))
              | (go_at_call 127; exact Calls.ext_of (span_any _ _ _ _))))))
            refine wpQuiet_nil ?_; intro _ hw'; obtain ⟨X, rfl⟩ := hw'
            have hqx := (hq.alloc (.cells #[.int .i64 x, .int .i64 y, .int .i64 z] 159)).below X.h (hq.alloc _).lt
            go_wp2
            go_roundw
            case rel => exact ⟨k + 1, by omega, by go_num, fun j hj => by rcases Nat.lt_succ_iff_lt_or_eq.1 hj with h | h; exact HAG.out j h; rw [h]; exact HT.out, ex_trans (ex_alloc hbl _) X.h, hqx⟩
            case measure => simp [intOf]; omega
        · have hk1 : decide (0 < k) = false := decide_eq_false hk0
          have HT : Hid (bandOk g.bands k = true) := Lib.hid (by rw [HO.out, t1, t2, hk1]; rfl)
          have hk2 : decide (0 < (k : Int)) = false := decide_eq_false (by omega)
          go_wp2_with fail
          refine wp_region_ext (by kernel_rfl) (by kernel_rfl) ?_
          repeat (any_goals (first | go_big_quiet_step ((first
            | (go_at_call 41; exact Calls.ext_same (In_any _ _ _ _))
            | (go_at_call 127; exact Calls.ext_of (span_any _ _ _ _))))))
          refine wpQuiet_nil ?_; intro _ hw'; obtain ⟨X, rfl⟩ := hw'
          have hqx := (hq.alloc (.cells #[.int .i64 x, .int .i64 y, .int .i64 z] 159)).below X.h (hq.alloc _).lt
          go_wp2
          go_roundw
          case rel => exact ⟨k + 1, by omega, by go_num, fun j hj => by rcases Nat.lt_succ_iff_lt_or_eq.1 hj with h | h; exact HAG.out j h; rw [h]; exact HT.out, ex_trans (ex_alloc hbl _) X.h, hqx⟩
          case measure => simp [intOf]; omega
      · have HK : Hid (k = g.bands.length) := Lib.hid (by omega)
        go_wp2_with fail
        have HOK3 : Hid (ckOk g = allTo (deepOk g.depths) g.depths.length) := Lib.hid (by rw [HOK2.out, allTo_iff.2 (fun j hj => HAG.out j (by rw [HK.out]; exact hj))]; rfl)
        clear a1 hlt
        go_loopw [5, 6] (fun i _ wr => ∃ k : Nat, k ≤ g.depths.length ∧ i = .int .i64 k ∧ (∀ j, j < k → deepOk g.depths j = true) ∧ Below w.heap.size w wr ∧ Blk wr w.heap.size 27 #[.int .i64 g.base, .slice (some ⟨b0, o0, none⟩) g.bands.length cb, .slice Ad g.depths.length cd, .int .i64 g.blo, .int .i64 g.bhi])
          (fun i _ _ => g.depths.length - (intOf i).toNat)
        case atStart => exact ⟨0, by omega, rfl, fun j hj => by omega, hbl, hq⟩
        case round =>
          clear hbl hq hk HK HAG l1
          obtain ⟨k, hk, rfl, hag, hbl, hq⟩ := hrel
          have HAG2 := Lib.hid hag
          clear hag
          have a2 := hq.cell 2
          have l1 := hq.lt
          simp at a2
          by_cases hlt : k < g.depths.length
          · obtain ⟨b1, o1, rfl, hbb1, c0, c1⟩ := IsDps.at_ (hd.below hbl) hlt
            have hbr : b1 < wr.heap.size := by have := hbl.size; omega
            have HO : Hid (deepOk g.depths k = (inB (gD g.depths k).from_ 0 500 && (inB (gD g.depths k).sink 0 30 && !(decide (0 < k) && (decide ((gD g.depths k).from_ ≤ (gD g.depths (k - 1)).from_) || decide ((gD g.depths k).sink < (gD g.depths (k - 1)).sink)))))) := Lib.hid rfl
            have HBAD : Hid (deepOk g.depths k = false → ckGlass g = 1) := Lib.hid fun h => HC1.out (by rw [HOK3.out, allTo_false hlt h])
            generalize (gD g.depths k).from_ = x at *
            generalize (gD g.depths k).sink = y at *
            cases t1 : inB x 0 500
            · have HR : Hid (ckGlass g = 1) := Lib.hid (HBAD.out (by rw [HO.out, t1]; rfl))
              go_wp2_with fail
              refine wp_region_ext (by kernel_rfl) (by kernel_rfl) ?_
              repeat (any_goals (first | go_big_quiet_step ((go_at_call 41; exact Calls.ext_same (In_any _ _ _ _)))))
              refine wpQuiet_nil ?_; intro _ hw'; obtain ⟨X, rfl⟩ := hw'
              go_wp2
              go_ret
              exact ⟨ret_int HR.out.symm, ex_trans (ex_alloc hbl _) X.h⟩
            cases t2 : inB y 0 30
            · have HR : Hid (ckGlass g = 1) := Lib.hid (HBAD.out (by rw [HO.out, t1, t2]; rfl))
              go_wp2_with fail
              refine wp_region_ext (by kernel_rfl) (by kernel_rfl) ?_
              repeat (any_goals (first | go_big_quiet_step ((go_at_call 41; exact Calls.ext_same (In_any _ _ _ _)))))
              refine wpQuiet_nil ?_; intro _ hw'; obtain ⟨X, rfl⟩ := hw'
              go_wp2
              go_ret
              exact ⟨ret_int HR.out.symm, ex_trans (ex_alloc hbl _) X.h⟩
            by_cases hk0 : 0 < k
            · have hk1 : decide (0 < k) = true := decide_eq_true hk0
              obtain ⟨_, _, hE, _, d0, d1⟩ := IsDps.at_ (hd.below hbl) (show k - 1 < g.depths.length by omega)
              cases hE
              have hks : IntKind.i64.wrap ((k : Int) - 1) = (k : Int) - 1 := IntWalk.i64_in _ (by omega)
              have hks1 : (0 : Int) ≤ (k : Int) - 1 := by omega
              have hks2 : ((k : Int) - 1) < (g.depths.length : Int) := by omega
              have hks3 : ((k : Int) - 1).toNat = k - 1 := by omega
              generalize (gD g.depths (k - 1)).from_ = x' at *
              generalize (gD g.depths (k - 1)).sink = y' at *
              by_cases hxx : x ≤ x'
              · have HR : Hid (ckGlass g = 1) := Lib.hid (HBAD.out (by rw [HO.out, t1, t2, hk1, decide_eq_true hxx]; rfl))
                have hxx' : decide (x ≤ x') = true := decide_eq_true hxx
                go_wp2_with fail
                refine wp_region_ext (by kernel_rfl) (by kernel_rfl) ?_
                repeat (any_goals (first | go_big_quiet_step ((go_at_call 41; exact Calls.ext_same (In_any _ _ _ _)))))
                refine wpQuiet_nil ?_; intro _ hw'; obtain ⟨X, rfl⟩ := hw'
                go_wp2
                go_ret
                exact ⟨ret_int HR.out.symm, ex_trans (ex_alloc hbl _) X.h⟩
              have hxx' : decide (x ≤ x') = false := decide_eq_false hxx
              by_cases hyy : y < y'
              · have HR : Hid (ckGlass g = 1) := Lib.hid (HBAD.out (by rw [HO.out, t1, t2, hk1, hxx', decide_eq_true hyy]; rfl))
                have hyy' : decide (y < y') = true := decide_eq_true hyy
                go_wp2_with fail
                refine wp_region_ext (by kernel_rfl) (by kernel_rfl) ?_
                repeat (any_goals (first | go_big_quiet_step ((go_at_call 41; exact Calls.ext_same (In_any _ _ _ _)))))
                refine wpQuiet_nil ?_; intro _ hw'; obtain ⟨X, rfl⟩ := hw'
                go_wp2
                go_ret
                exact ⟨ret_int HR.out.symm, ex_trans (ex_alloc hbl _) X.h⟩
              · have HT : Hid (deepOk g.depths k = true) := Lib.hid (by rw [HO.out, t1, t2, hk1, hxx', decide_eq_false hyy]; rfl)
                have hyy' : decide (y < y') = false := decide_eq_false hyy
                go_wp2_with fail
                refine wp_region_ext (by kernel_rfl) (by kernel_rfl) ?_
                repeat (any_goals (first | go_big_quiet_step ((go_at_call 41; exact Calls.ext_same (In_any _ _ _ _)))))
                refine wpQuiet_nil ?_; intro _ hw'; obtain ⟨X, rfl⟩ := hw'
                have hqx := (hq.alloc (.cells #[.int .i64 x, .int .i64 y] 163)).below X.h (hq.alloc _).lt
                go_wp2
                go_roundw
                case rel => exact ⟨k + 1, by omega, by go_num, fun j hj => by rcases Nat.lt_succ_iff_lt_or_eq.1 hj with h | h; exact HAG2.out j h; rw [h]; exact HT.out, ex_trans (ex_alloc hbl _) X.h, hqx⟩
                case measure => simp [intOf]; omega
            · have hk1 : decide (0 < k) = false := decide_eq_false hk0
              have HT : Hid (deepOk g.depths k = true) := Lib.hid (by rw [HO.out, t1, t2, hk1]; rfl)
              have hk2 : decide (0 < (k : Int)) = false := decide_eq_false (by omega)
              go_wp2_with fail
              refine wp_region_ext (by kernel_rfl) (by kernel_rfl) ?_
              repeat (any_goals (first | go_big_quiet_step ((go_at_call 41; exact Calls.ext_same (In_any _ _ _ _)))))
              refine wpQuiet_nil ?_; intro _ hw'; obtain ⟨X, rfl⟩ := hw'
              have hqx := (hq.alloc (.cells #[.int .i64 x, .int .i64 y] 163)).below X.h (hq.alloc _).lt
              go_wp2
              go_roundw
              case rel => exact ⟨k + 1, by omega, by go_num, fun j hj => by rcases Nat.lt_succ_iff_lt_or_eq.1 hj with h | h; exact HAG2.out j h; rw [h]; exact HT.out, ex_trans (ex_alloc hbl _) X.h, hqx⟩
              case measure => simp [intOf]; omega
          · have HK : Hid (k = g.depths.length) := Lib.hid (by omega)
            have HR : Hid (ckGlass g = 0) := Lib.hid (ck0 HN.out (by rw [HOK3.out]; exact allTo_iff.2 (fun j hj => HAG2.out j (by rw [HK.out]; exact hj))))
            go_wp2
            go_ret
            exact ⟨ret_int HR.out.symm, hbl⟩
  · have e5 : (f0 != 0) = true := by simp [h7]
    have HR : Hid (ckGlass g = 1) := Lib.hid (HC1.out (by rw [HOK.out, HF0.out, decide_eq_false h7]; simp))
    clear h7
    go_enter Tryz.func122, Tryz.ntmps122
    go_wp2_with (first | (go_at_call 41; refine (In_any _ _ _ _).mono ?_; rintro e w2 ⟨rfl, rfl⟩) | (go_at_call 127; refine (span_any _ _ _ _).mono ?_; rintro e w2 ⟨rfl, hb2⟩; obtain ⟨hcc, hff⟩ := bcell hb2; have hsz : w.heap.size < w2.heap.size := (by have := hb2.size; simp at this; omega)))
    go_ret
    exact ⟨ret_int HR.out.symm, ex_trans hb1 hb2⟩

end Go.Proofs.YtkaogjhnogkcdaaGreat
end

section
namespace Go.Proofs.YtkaogjhnogkcdaaGreat
open Go.RowKit
attribute [local go_sem] Ex.cell? Ex.frozen?

def readyB (g : Gl) (h : List Rg) : Bool := thinB g.bands.length g.depths.length h.length 0 && decide (lived g h = 0)
end Go.Proofs.YtkaogjhnogkcdaaGreat
end

section
namespace Go.Proofs.YtkaogjhnogkcdaaGreat
open Go.RowKit
attribute [local go_sem] Ex.cell? Ex.frozen? Gx.cell?

theorem flat_get {α : Type} {f : α → List Value} {sz : Nat} (hf : ∀ a, (f a).length = sz) : ∀ {l : List α} {k j : Nat} (hk : k < l.length), j < sz → (l.flatMap f)[k * sz + j]? = (f l[k])[j]?
  | [], _, _, hk, _ => by simp at hk
  | a :: l, 0, j, _, hj => by
    rw [List.flatMap_cons, List.getElem?_append_left (by rw [hf]; omega)]
    simp
  | a :: l, k + 1, j, hk, hj => by
    rw [List.flatMap_cons, List.getElem?_append_right (by rw [hf, Nat.add_mul]; omega), hf, show (k + 1) * sz + j - sz = k * sz + j by rw [Nat.add_mul]; omega]
    have := flat_get hf (l := l) (k := k) (j := j) (by simpa using hk) hj
    simpa using this
theorem own_flat {α : Type} {f : α → List Value} {sz : Nat} (hf : ∀ a, (f a).length = sz) {F : Nat → Nat → Value} {l : List α} (hF : ∀ (k : Nat) (hk : k < l.length) (j : Nat), j < sz → (f l[k])[j]? = some (F k j)) {w : World} {base : Nat} {e : TypeId} {v : Value} {n : Nat} (hn : n = l.length)
    (h : w.ownsRow base e sz v n (l.flatMap f)) : ∃ A c, v = .slice A n c ∧ n ≤ c ∧ c ≤ maxLen ∧ SlAt w w.heap.size sz A n F := by
  subst hn
  rcases h.2 with ⟨rfl, h0⟩ | ⟨g, cap, cur, rfl, hb, hh, hn, hm, hs, hc⟩
  · exact ⟨none, 0, by rw [h0], by omega, by unfold maxLen; omega, fun h1 => by omega⟩
  · refine ⟨_, cap, rfl, hn, hm, fun _ => ⟨g, 0, rfl, (Array.getElem?_eq_some_iff.1 hh).1, fun k j hk hj => ?_⟩⟩
    rw [cell_of_row w g _ cur e (0, 0) hh, ← Array.getElem?_toList]
    have h1 : (l.flatMap f)[k * sz + j]? = some (F k j) := (flat_get hf hk hj).trans (hF k hk j hj)
    rw [← hc, List.getElem?_take] at h1
    rw [Nat.zero_add]
    by_cases hx : k * sz + j < l.length * sz
    · rwa [if_pos hx] at h1
    · rw [if_neg hx] at h1; cases h1

def cR (r : Rg) : List Value := [.int .i64 r.lo, .int .i64 r.hi]
def cC (r : Ic) : List Value := [.int .i64 r.day, .int .i64 r.zero, .int .i64 r.err]
def cB (r : Bd) : List Value := [.int .i64 r.from_, .int .i64 r.lo, .int .i64 r.hi]
def cD (r : Dp) : List Value := [.int .i64 r.from_, .int .i64 r.sink]
theorem own_R {l : List Rg} {w : World} {base : Nat} {e : TypeId} {v : Value} (h : w.ownsRow base e 2 v l.length (l.flatMap cR)) : ∃ A c, v = .slice A l.length c ∧ l.length ≤ c ∧ c ≤ maxLen ∧ SlAt w w.heap.size 2 A l.length (fR l) :=
  own_flat (sz := 2) (l := l) (fun _ => rfl) (fun k hk j hj => by
    have e : gR l k = l[k] := by simp [gR, hk]
    match j, hj with
    | 0, _ => simp [cR, fR, e]
    | 1, _ => simp [cR, fR, e]) rfl h
theorem own_D {l : List Dp} {w : World} {base : Nat} {e : TypeId} {v : Value} (h : w.ownsRow base e 2 v l.length (l.flatMap cD)) : ∃ A c, v = .slice A l.length c ∧ l.length ≤ c ∧ c ≤ maxLen ∧ SlAt w w.heap.size 2 A l.length (fD l) :=
  own_flat (sz := 2) (l := l) (fun _ => rfl) (fun k hk j hj => by
    have e : gD l k = l[k] := by simp [gD, hk]
    match j, hj with
    | 0, _ => simp [cD, fD, e]
    | 1, _ => simp [cD, fD, e]) rfl h
theorem own_C {l : List Ic} {w : World} {base : Nat} {e : TypeId} {v : Value} (h : w.ownsRow base e 3 v l.length (l.flatMap cC)) : ∃ A c, v = .slice A l.length c ∧ l.length ≤ c ∧ c ≤ maxLen ∧ SlAt w w.heap.size 3 A l.length (fC l) :=
  own_flat (sz := 3) (l := l) (fun _ => rfl) (fun k hk j hj => by
    have e : gC l k = l[k] := by simp [gC, hk]
    match j, hj with
    | 0, _ => simp [cC, fC, e]
    | 1, _ => simp [cC, fC, e]
    | 2, _ => simp [cC, fC, e]) rfl h
theorem own_B {l : List Bd} {w : World} {base : Nat} {e : TypeId} {v : Value} (h : w.ownsRow base e 3 v l.length (l.flatMap cB)) : ∃ A c, v = .slice A l.length c ∧ l.length ≤ c ∧ c ≤ maxLen ∧ SlAt w w.heap.size 3 A l.length (fB l) :=
  own_flat (sz := 3) (l := l) (fun _ => rfl) (fun k hk j hj => by
    have e : gB l k = l[k] := by simp [gB, hk]
    match j, hj with
    | 0, _ => simp [cB, fB, e]
    | 1, _ => simp [cB, fB, e]
    | 2, _ => simp [cB, fB, e]) rfl h
theorem flat_snoc {α : Type} {f : α → List Value} {w : World} {base : Nat} {e : TypeId} {sz n : Nat} {v : Value} {l : List α} {k : Nat} (hk : k < l.length) (hn : n = (l.take k).length + 1) (h : w.ownsRow base e sz v n ((l.take k).flatMap f ++ f l[k])) :
    w.ownsRow base e sz v (l.take (k + 1)).length ((l.take (k + 1)).flatMap f) := by
  subst hn
  rw [List.take_succ_eq_append_getElem hk, List.flatMap_append, List.length_append]
  simpa using h
theorem gR_at {l : List Rg} {k : Nat} (hk : k < l.length) : gR l k = l[k] := by simp [gR, hk]
theorem gC_at {l : List Ic} {k : Nat} (hk : k < l.length) : gC l k = l[k] := by simp [gC, hk]
theorem gB_at {l : List Bd} {k : Nat} (hk : k < l.length) : gB l k = l[k] := by simp [gB, hk]
theorem gD_at {l : List Dp} {k : Nat} (hk : k < l.length) : gD l k = l[k] := by simp [gD, hk]

theorem rgG_info : (Tryz.prog.info? 41).map (fun i => (i.zero, i.size, i.bytes)) = some (some (.agg #[.int .i64 0, .int .i64 0]), 2, 16) := by kernel_rfl
theorem icG_info : (Tryz.prog.info? 103).map (fun i => (i.zero, i.size, i.bytes)) = some (some (.agg #[.int .i64 0, .int .i64 0, .int .i64 0]), 3, 24) := by kernel_rfl

set_option maxRecDepth 100000 in
set_option maxHeartbeats 1600000 in
theorem History_any (Ah : Option Addr) (ch : Nat) (h : List Rg) (w : World) (hl : h.length ≤ 1000) (hh : SlAt w w.heap.size 2 Ah h.length (fR h)) :
    Calls Tryz.prog 19 #[.slice Ah h.length ch] w fun e w' => (∃ A c, e = .returned (.slice A h.length c) ∧ h.length ≤ c ∧ c ≤ maxLen ∧ SlAt w' w'.heap.size 2 A h.length (fR h)) ∧ Below w.heap.size w w' := by
  obtain ⟨i0, hi0, hz0, hz1, hz2⟩ := info_parts rgG_info
  have HI := Lib.hid hi0
  clear hi0
  go_enter Tryz.func19, Tryz.ntmps19
  go_wp2_with fail
  go_loopw [3, 4] (fun v i wr => ∃ k : Nat, k ≤ h.length ∧ i = .int .i64 k ∧ Below w.heap.size w wr ∧ wr.ownsRow w.heap.size 41 2 v (h.take k).length ((h.take k).flatMap cR))
    (fun _ i _ => h.length - (intOf i).toNat)
  case atStart => exact ⟨0, by omega, rfl, Below.refl _ _, ⟨rfl, .inl ⟨rfl, rfl⟩⟩⟩
  case round =>
    obtain ⟨k, hk, rfl, hbl, hown⟩ := hrel
    by_cases hlt : k < h.length
    · obtain ⟨b, off, rfl, hb, c0, c1⟩ := IsRgs.at_ (hh.below hbl) hlt
      have HE := Lib.hid (gR_at hlt)
      go_wp2_with fail
      refine (to_law _ _ _).mono ?_
      rintro e w2 ⟨rfl, hb2⟩
      have hB2 := ex_trans hbl hb2
      have y4 := (own_below hown hb2).alloc (.cells #[.int .i64 (gR h k).lo, .int .i64 (gR h k).hi] 41)
      have hlen : (h.take k).length = k := by rw [List.length_take]; omega
      have c63 : (h.take k).length + 1 ≤ maxLen := by unfold maxLen; omega
      have cby : ((h.take k).length + 1) * 16 ≤ 140737488355328 := by omega
      have hbase : w.heap.size ≤ (w2.alloc (.cells #[.int .i64 (gR h k).lo, .int .i64 (gR h k).hi] 41)).heap.size := by have := hB2.size; simp; omega
      have HLEN := Lib.hid hlen
      clear hlen
      go_wp2_with (at_builtin; refine wpList_append_lies _ rfl _ _ _ rfl w.heap.size 41 i0 _ 2 16 Tryz.underlying47 HI.out hz0 hz1 hz2 rfl (by omega) u3 _ _ rfl y4 ⟨w2.heap.size, 0, none⟩ 1 1 [.int .i64 (gR h k).lo, .int .i64 (gR h k).hi] rfl rfl (World.news_of_block (heap_alloc_new w2 _)) (by simp [Value.oneCell']) (by omega) c63 cby hbase (w2.heap.size + 1) (by simp) ?_; intro gg cap w1 hown' hgrow hat hlt')
      go_roundw
      case rel => exact ⟨k + 1, by omega, by go_num, (ex_alloc hB2 _).grown hgrow (by simp; have := hB2.size; omega) (fun j hj => own_ge hown hj), flat_snoc hlt (by rw [HLEN.out]) (by rw [← HE.out]; rw [HLEN.out] at hown'; exact hown')⟩
      case measure => simp [intOf]; omega
    · have HK : Hid (k = h.length) := Lib.hid (by omega)
      go_wp2
      go_ret
      rw [HK.out, List.take_length] at hown
      obtain ⟨A, c, rfl, h1, h2, h3⟩ := own_R hown
      exact ⟨⟨A, c, rfl, h1, h2, h3⟩, hbl⟩

set_option maxRecDepth 100000 in
set_option maxHeartbeats 1600000 in
theorem Ices_any (Ai : Option Addr) (ci : Nat) (l : List Ic) (w : World) (hl : l.length ≤ 1000) (hi : SlAt w w.heap.size 3 Ai l.length (fC l)) :
    Calls Tryz.prog 20 #[.slice Ai l.length ci] w fun e w' => (∃ A c, e = .returned (.slice A l.length c) ∧ l.length ≤ c ∧ c ≤ maxLen ∧ SlAt w' w'.heap.size 3 A l.length (fC l)) ∧ Below w.heap.size w w' := by
  obtain ⟨i0, hi0, hz0, hz1, hz2⟩ := info_parts icG_info
  have HI := Lib.hid hi0
  clear hi0
  go_enter Tryz.func20, Tryz.ntmps20
  go_wp2_with fail
  go_loopw [3, 4] (fun v i wr => ∃ k : Nat, k ≤ l.length ∧ i = .int .i64 k ∧ Below w.heap.size w wr ∧ wr.ownsRow w.heap.size 103 3 v (l.take k).length ((l.take k).flatMap cC))
    (fun _ i _ => l.length - (intOf i).toNat)
  case atStart => exact ⟨0, by omega, rfl, Below.refl _ _, ⟨rfl, .inl ⟨rfl, rfl⟩⟩⟩
  case round =>
    obtain ⟨k, hk, rfl, hbl, hown⟩ := hrel
    by_cases hlt : k < l.length
    · obtain ⟨b, off, rfl, hb, c0, c1, c2⟩ := IsIcs.at_ (hi.below hbl) hlt
      have HE := Lib.hid (gC_at hlt)
      have hbr : b < wr.heap.size := by have := hbl.size; omega
      obtain ⟨row, hrow⟩ : ∃ row, u3.ownBlock = row := ⟨_, rfl⟩
      have hn1 : ¬ some b = row := fun e => by have := own_ge hown (hrow.trans e.symm); omega
      have HROW := Lib.hid hrow
      clear hrow
      go_wp2_with fail
      refine wp_region_gx_mix row 19 [(false, 0), (false, 1), (false, 2), (false, 3), (false, 4), (false, 5), (false, 6), (false, 7), (false, 8), (false, 9), (false, 10), (false, 11), (false, 12), (false, 13), (false, 14), (false, 15), (false, 16), (true, 17), (true, 18)] (by kernel_rfl) (by kernel_rfl) (by intro d _ _ _ _ h; cases d <;> exact h) ?_
      repeat (refine mix_quiet rfl ?_; go_big_quiet_step (fail); refine wpQuiet_nil ?_)
      refine mix_loud rfl ?_
      go_wp2_with fail
      have hgA : wr.grownBy (wr.alloc (.cells #[.int .i64 (gC l k).day, .int .i64 (gC l k).zero, .int .i64 (gC l k).err] 103)).drew row := grown_row (((Below.refl wr.heap.size wr).alloc (Nat.le_refl _) _).drew)
      refine ⟨inGx hgA, ?_⟩
      have y4 : (wr.alloc (.cells #[.int .i64 (gC l k).day, .int .i64 (gC l k).zero, .int .i64 (gC l k).err] 103)).drew.ownsRow w.heap.size 103 3 u3 (l.take k).length ((l.take k).flatMap cC) := hown.alloc _
      have hlen : (l.take k).length = k := by rw [List.length_take]; omega
      have c63 : (l.take k).length + 1 ≤ maxLen := by unfold maxLen; omega
      have cby : ((l.take k).length + 1) * 24 ≤ 140737488355328 := by omega
      have hbase : w.heap.size ≤ (wr.alloc (.cells #[.int .i64 (gC l k).day, .int .i64 (gC l k).zero, .int .i64 (gC l k).err] 103)).drew.heap.size := by have := hbl.size; simp; omega
      have hnew : ∀ j u, ([.int .i64 (gC l k).day, .int .i64 (gC l k).zero, .int .i64 (gC l k).err] : List Value)[j]? = some u → (wr.alloc (.cells #[.int .i64 (gC l k).day, .int .i64 (gC l k).zero, .int .i64 (gC l k).err] 103)).drew.cell? ((⟨wr.heap.size, 0, none⟩ : Addr).add j) = some u := World.news_of_block (heap_alloc_new wr (.cells #[.int .i64 (gC l k).day, .int .i64 (gC l k).zero, .int .i64 (gC l k).err] 103))
      have HLEN := Lib.hid hlen
      clear hlen
      refine mix_loud rfl ?_
      go_wp2_with (at_builtin; refine wpList_append_lies _ rfl _ _ _ rfl w.heap.size 103 i0 _ 3 24 Tryz.underlying49 HI.out hz0 hz1 hz2 rfl (by omega) u3 _ _ rfl y4 ⟨wr.heap.size, 0, none⟩ 1 1 [.int .i64 (gC l k).day, .int .i64 (gC l k).zero, .int .i64 (gC l k).err] rfl rfl hnew (by simp [Value.oneCell']) (by omega) c63 cby hbase (wr.heap.size + 1) (by simp) ?_; intro gg cap w1 hown' hgrow hat hlt')
      rw [HROW.out] at hgrow
      have hgB := hgA.andThen hgrow (fun j hj => .inr hj)
      refine ⟨inGx hgB, ?_⟩
      refine mix_nil rfl ?_
      go_wp2
      go_roundw
      case rel => exact ⟨k + 1, by omega, by go_num, hbl.grown hgB hbl.size (fun j hj => own_ge hown (HROW.out.trans hj)), flat_snoc hlt (by rw [HLEN.out]) (by rw [← HE.out]; rw [HLEN.out] at hown'; exact hown')⟩
      case measure => simp [intOf]; omega
    · have HK : Hid (k = l.length) := Lib.hid (by omega)
      go_wp2
      go_ret
      rw [HK.out, List.take_length] at hown
      obtain ⟨A, c, rfl, h1, h2, h3⟩ := own_C hown
      exact ⟨⟨A, c, rfl, h1, h2, h3⟩, hbl⟩

end Go.Proofs.YtkaogjhnogkcdaaGreat
end

section
namespace Go.Proofs.YtkaogjhnogkcdaaGreat
open Go.RowKit
attribute [local go_sem] Ex.cell? Ex.frozen? Gx.cell?

end Go.Proofs.YtkaogjhnogkcdaaGreat
end

section
namespace Go.Proofs.YtkaogjhnogkcdaaGreat
open Go.RowKit
attribute [local go_sem] Ex.cell? Ex.frozen? Gx.cell?

theorem exFrame' {T : Array Value} {F : (Nat → Value) → Array Value} {ds : List Deferred} (h : T = F (fun i => T.getD i undef)) : ∃ u, Act.mk T ds = Act.mk (F u) ds := ⟨_, congrArg (fun T => Act.mk T ds) h⟩
theorem bdG_info : (Tryz.prog.info? 161).map (fun i => (i.zero, i.size, i.bytes)) = some (some (.agg #[.int .i64 0, .int .i64 0, .int .i64 0]), 3, 24) := by kernel_rfl
theorem dpG_info : (Tryz.prog.info? 164).map (fun i => (i.zero, i.size, i.bytes)) = some (some (.agg #[.int .i64 0, .int .i64 0]), 2, 16) := by kernel_rfl

structure GA (g : Gl) (gc : Array Value) (w : World) (p : Nat) (vB vD : Value) (W : World) : Prop where
  bw : Below w.heap.size w W
  q1 : Blk W w.heap.size 27 gc
  q2 : Blk W (w.heap.size + 1) 43 #[.int .i64 0, .slice none 0 0, .slice none 0 0, .int .i64 0, .int .i64 0]
  hp : w.heap.size + 1 + 1 ≤ p
  qp : Blk W p 43 #[.int .i64 g.base, vB, vD, .int .i64 g.blo, .int .i64 g.bhi]

theorem GA.below {g : Gl} {gc : Array Value} {w : World} {p : Nat} {vB vD : Value} {W W' : World} (h : GA g gc w p vB vD W) (hb : Below W.heap.size W W') : GA g gc w p vB vD W' :=
  ⟨ex_trans h.bw hb, h.q1.below hb h.q1.lt, h.q2.below hb h.q2.lt, h.hp, h.qp.below hb h.qp.lt⟩

theorem GA.step {g : Gl} {gc : Array Value} {w : World} {p : Nat} {vB vD v vB' vD' : Value} {W W' : World} {e : TypeId} {sz n : Nat} {xs : List Value} (h : GA g gc w p vB vD W) (ho : W.ownsRow (w.heap.size + 1 + 1) e sz v n xs)
    (hf : Fr (fun b => b = p ∨ v.ownBlock = some b) W W') (hq : Blk W' p 43 #[.int .i64 g.base, vB', vD', .int .i64 g.blo, .int .i64 g.bhi]) : GA g gc w p vB' vD' W' := by
  have hp := h.hp
  have hno : ∀ x, x < w.heap.size + 1 + 1 → ¬ (x = p ∨ v.ownBlock = some x) := fun x h1 h2 => by
    rcases h2 with h2 | h2
    · omega
    · have := own_ge ho h2; omega
  exact ⟨hf.toBelow h.bw h.bw.size (fun x hx => by
    rcases hx with hx | hx
    · omega
    · have := own_ge ho hx; omega), h.q1.fr hf (hno _ (by omega)), h.q2.fr hf (hno _ (by omega)), hp, hq⟩

set_option maxRecDepth 100000 in
def GAQ (g : Gl) (Ab Ad : Option Addr) (cb cd : Nat) (w : World) (e : Exit) (a' : Act) (W' : World) : Prop :=
  e = .normal ∧ ∃ p, GA g #[.int .i64 g.base, .slice Ab g.bands.length cb, .slice Ad g.depths.length cd, .int .i64 g.blo, .int .i64 g.bhi] w p (.slice none 0 0) (.slice none 0 0) W' ∧ ∃ u : Nat → Value, a' = ⟨List.toArray (.agg #[.int .i64 g.base, .slice Ab g.bands.length cb, .slice Ad g.depths.length cd, .int .i64 g.blo, .int .i64 g.bhi] :: .pointer (some ⟨w.heap.size, 0, none⟩) :: .pointer (some ⟨w.heap.size + 1, 0, none⟩) :: .pointer (some ⟨p, 0, none⟩) :: u 4 :: u 5 :: u 6 :: u 7 :: u 8 :: u 9 :: u 10 :: u 11 :: u 12 :: u 13 :: u 14 :: u 15 :: u 16 :: u 17 :: u 18 :: u 19 :: u 20 :: u 21 :: u 22 :: u 23 :: u 24 :: u 25 :: u 26 :: u 27 :: u 28 :: u 29 :: u 30 :: u 31 :: u 32 :: u 33 :: u 34 :: u 35 :: u 36 :: u 37 :: u 38 :: u 39 :: u 40 :: u 41 :: u 42 :: u 43 :: u 44 :: u 45 :: u 46 :: u 47 :: u 48 :: u 49 :: u 50 :: u 51 :: u 52 :: u 53 :: u 54 :: u 55 :: u 56 :: u 57 :: u 58 :: u 59 :: u 60 :: u 61 :: u 62 :: u 63 :: []), []⟩

end Go.Proofs.YtkaogjhnogkcdaaGreat
end

section
namespace Go.Proofs.YtkaogjhnogkcdaaGreat
open Go.RowKit
attribute [local go_sem] Ex.cell? Ex.frozen?

def hasB (l : List Int) (n : Int) : Bool := decide (n ∈ l)
end Go.Proofs.YtkaogjhnogkcdaaGreat
end

section
namespace Go.Proofs.YtkaogjhnogkcdaaGreat
open Go.RowKit
attribute [local go_sem] Ex.cell? Ex.frozen?

end Go.Proofs.YtkaogjhnogkcdaaGreat
end

section
namespace Go.Proofs.YtkaogjhnogkcdaaGreat

section
variable {t : Tb} {r : Rd} {q : Ki}
theorem bnd_ends (ht : TbBd t) (hr : RdBd r) : EndsOf (SayP t r) (bndP t r).lo (bndP t r).hi := bnd_say ht hr
def SayK (r : Rd) (q : Ki) (z : Int) : Prop := ∃ air rate off, (r.air.lo ≤ air ∧ air ≤ r.air.hi) ∧ (r.rate.lo ≤ rate ∧ rate ≤ r.rate.hi) ∧ (-r.err ≤ off ∧ off ≤ r.err) ∧ z = woP r q air rate off
theorem say_iff {z : Int} : SayP t r z ↔ ∃ q, KiIn t q ∧ SayK r q z := by
 constructor
 ·
  rintro ⟨q, a, b, c, h1, h2⟩; exact ⟨q, h1, a, b, c, h2⟩
 ·
  rintro ⟨q, h1, a, b, c, h2⟩; exact ⟨q, a, b, c, h1, h2⟩
def bareP (r : Rd) (q : Ki) : Rg := ⟨woP r q r.air.hi r.rate.lo (-r.err), woP r q r.air.lo r.rate.hi r.err⟩
theorem bare_ends (hq : KiBd q) (hr : RdBd r) : EndsOf (SayK r q) (bareP r q).lo (bareP r q).hi := by
 have h1 := hr.air; have h2 := hr.rate; have h3 := hr.err
 refine ⟨⟨_, _, _, ⟨h1.2.1, Int.le_refl _⟩, ⟨Int.le_refl _, h2.2.1⟩, ⟨Int.le_refl _, by omega⟩, rfl⟩, ⟨_, _, _, ⟨Int.le_refl _, h1.2.1⟩, ⟨h2.2.1, Int.le_refl _⟩, ⟨by omega, Int.le_refl _⟩, rfl⟩, ?_⟩
 rintro z ⟨air, rate, off, ha, hra, ho, rfl⟩
 have e1 := stem_air (r := r) hr.bare.1 hq.k.1 ha.1
 have e2 := stem_air (r := r) hr.bare.1 hq.k.1 ha.2
 have e3 : r.rate.lo * q.lag ≤ rate * q.lag := Int.mul_le_mul_of_nonneg_right hra.1 hq.lag.1
 have e4 : rate * q.lag ≤ r.rate.hi * q.lag := Int.mul_le_mul_of_nonneg_right hra.2 hq.lag.1
 unfold bareP woP
 try simp only
 omega
end

def WideIs (S : Int → Prop) (o : Rg) : Prop := (∀ z, S z → o.lo ≤ z ∧ z ≤ o.hi) ∧ (o.lo = 1073741824 ∨ S o.lo) ∧ (o.hi = -1073741824 ∨ S o.hi)
theorem WideIs.congr {S S' : Int → Prop} {o : Rg} (h : WideIs S o) (e : ∀ z, S z ↔ S' z) : WideIs S' o :=
 ⟨fun z hz => h.1 z ((e z).2 hz), h.2.1.imp id (e _).1, h.2.2.imp id (e _).1⟩
theorem WideIs.ends {S : Int → Prop} {o : Rg} (h : WideIs S o) {z : Int} (hz : S z) (hb : ∀ z, S z → -1000000 ≤ z ∧ z ≤ 1000000) : EndsOf S o.lo o.hi := by
 obtain ⟨h1, h2, h3⟩ := h
 have e := h1 z hz
 have e2 := hb z hz
 refine ⟨h2.resolve_left (by omega), h3.resolve_left (by omega), h1⟩
theorem WideIs.bd {S : Int → Prop} {o : Rg} (h : WideIs S o) (hb : ∀ z, S z → -1000000 ≤ z ∧ z ≤ 1000000) : (-1000000 ≤ o.lo ∧ o.lo ≤ 1073741824) ∧ (-1073741824 ≤ o.hi ∧ o.hi ≤ 1000000) := by
 obtain ⟨h1, h2, h3⟩ := h
 constructor
 ·
  rcases h2 with h2 | h2
  ·
   omega
  ·
   have := hb _ h2; omega
 ·
  rcases h3 with h3 | h3
  ·
   omega
  ·
   have := hb _ h3; omega
def wdTo (f : Nat → Int) : Nat → Rg
 | 0 => ⟨1073741824, -1073741824⟩
 | n + 1 => ⟨min (wdTo f n).lo (f n), max (wdTo f n).hi (f n)⟩
section
variable {t : Tb} {r : Rd} {q : Ki}
def KiBef (t : Tb) (K L S : Int) (q : Ki) : Prop := KiIn t q ∧ (q.k < K ∨ q.k = K ∧ (q.lag < L ∨ q.lag = L ∧ q.sq < S))
def BareEnd (t : Tb) (r : Rd) (K L S : Int) (z : Int) : Prop := ∃ q, KiBef t K L S q ∧ (z = (bareP r q).lo ∨ z = (bareP r q).hi)
theorem bef_step {K L S : Int} (hK : t.k.lo ≤ K ∧ K ≤ t.k.hi) (hL : t.lag.lo ≤ L ∧ L ≤ t.lag.hi) (hS : t.sq.lo ≤ S ∧ S ≤ t.sq.hi) (q : Ki) : KiBef t K L (S + 1) q ↔ KiBef t K L S q ∨ q = ⟨K, L, S⟩ := by
 unfold KiBef
 constructor
 ·
  rintro ⟨h1, h2⟩
  by_cases h3 : q.k = K ∧ q.lag = L ∧ q.sq = S
  ·
   right
   obtain ⟨a, b, c⟩ := q
   obtain ⟨rfl, rfl, rfl⟩ := h3
   rfl
  ·
   left; exact ⟨h1, by omega⟩
 ·
  rintro (⟨h1, h2⟩ | rfl)
  ·
   exact ⟨h1, by omega⟩
  ·
   exact ⟨⟨hK, hL, hS⟩, .inr ⟨rfl, .inr ⟨rfl, by show S < S + 1; omega⟩⟩⟩
theorem bef_row {K L S : Int} (hS : t.sq.hi < S) (q : Ki) : KiBef t K L S q ↔ KiBef t K (L + 1) t.sq.lo q := by
 unfold KiBef
 refine and_congr_right fun h1 => ?_
 have := h1.sq
 omega
theorem bef_plane {K L S : Int} (hL : t.lag.hi < L) (q : Ki) : KiBef t K L S q ↔ KiBef t (K + 1) t.lag.lo t.sq.lo q := by
 unfold KiBef
 refine and_congr_right fun h1 => ?_
 have := h1.lag; have := h1.sq
 omega
theorem bef_all {K L S : Int} (hK : t.k.hi < K) (q : Ki) : KiBef t K L S q ↔ KiIn t q := by
 unfold KiBef
 refine ⟨fun h => h.1, fun h1 => ⟨h1, ?_⟩⟩
 have := h1.k
 omega
def corK (t : Tb) (n : Nat) : Ki := ⟨endOf t.k n, endOf t.lag (n / 2), endOf t.sq (n / 4)⟩
def corP (t : Tb) (r : Rd) (n : Nat) : Int := woP r (corK t n) (endOf r.air (n / 8)) (endOf r.rate (n / 16)) 0
def corTo (t : Tb) (r : Rd) : Nat → Rg
 | 0 => ⟨1073741824, -1073741824⟩
 | n + 1 => ⟨min (corTo t r n).lo (corP t r n - r.err), max (corTo t r n).hi (corP t r n + r.err)⟩
end
end Go.Proofs.YtkaogjhnogkcdaaGreat
end

section
namespace Go.Proofs.YtkaogjhnogkcdaaGreat

def someTo (f : Nat → Bool) (n : Nat) : Bool := !(allTo (fun k => !f k) n)
theorem someTo_iff {f : Nat → Bool} {n : Nat} : someTo f n = true ↔ ∃ k, k < n ∧ f k = true := by
 unfold someTo
 constructor
 ·
  intro h
  refine Classical.byContradiction fun hc => ?_
  have : allTo (fun k => !f k) n = true := allTo_iff.2 fun k hk => by
   cases hf : f k
   ·
    rfl
   ·
    exact absurd ⟨k, hk, hf⟩ hc
  rw [this] at h; cases h
 ·
  rintro ⟨k, hk, hf⟩
  rw [allTo_false hk (by rw [hf]; rfl)]; rfl
theorem someTo_false {f : Nat → Bool} {n : Nat} : someTo f n = false ↔ ∀ k, k < n → f k = false := by
 unfold someTo
 rw [Bool.not_eq_false', allTo_iff]
 exact forall_congr' fun k => forall_congr' fun _ => by simp

def gE (l : List Rd) (k : Nat) : Rd := l.getD k ⟨0, 0, 0, 0, ⟨0, 0⟩, ⟨0, 0⟩, 0, false⟩
def sayAt (r : Rd) (q : Ki) (n rate : Int) : Bool := inB n (spanP r q rate).lo (spanP r q rate).hi
def saysB (r : Rd) (q : Ki) (n : Int) : Bool := someTo (fun j => sayAt r q n (r.rate.lo + (j : Int))) (r.rate.hi - r.rate.lo + 1).toNat
theorem says_iff {r : Rd} {q : Ki} {n : Int} : saysB r q n = true ↔ ∃ rate, (r.rate.lo ≤ rate ∧ rate ≤ r.rate.hi) ∧ (spanP r q rate).lo ≤ n ∧ n ≤ (spanP r q rate).hi := by
 unfold saysB
 rw [someTo_iff]
 constructor
 ·
  rintro ⟨j, hj, h⟩
  exact ⟨_, by omega, inB_iff.1 h⟩
 ·
  rintro ⟨rate, h1, h2⟩
  refine ⟨(rate - r.rate.lo).toNat, by omega, ?_⟩
  rw [show r.rate.lo + ((rate - r.rate.lo).toNat : Int) = rate by omega]
  exact inB_iff.2 h2
def stillR (r : Rd) : Rd := { r with rate := ⟨0, 0⟩ }
section
variable {t : Tb} {r : Rd} {q : Ki}
theorem says_bare (hq : KiBd q) (hr : RdBd r) {n : Int} (h : saysB r q n = true) : (bareP r q).lo ≤ n ∧ n ≤ (bareP r q).hi := by
 obtain ⟨rate, hra, h1, h2⟩ := says_iff.1 h
 have h3 := hr.air; have h4 := hr.err
 have a1 := (bare_ends hq hr).2.2 (woP r q r.air.lo rate (-r.err)) ⟨_, _, _, by omega, hra, by omega, rfl⟩
 have a2 := (bare_ends hq hr).2.2 (woP r q r.air.lo rate r.err) ⟨_, _, _, by omega, hra, by omega, rfl⟩
 have a3 := (bare_ends hq hr).2.2 (woP r q r.air.hi rate (-r.err)) ⟨_, _, _, by omega, hra, by omega, rfl⟩
 have a4 := (bare_ends hq hr).2.2 (woP r q r.air.hi rate r.err) ⟨_, _, _, by omega, hra, by omega, rfl⟩
 rw [woP_off] at a1 a2 a3 a4
 unfold spanP at h1 h2
 simp only at h1 h2
 omega
theorem says_bnd (ht : TbBd t) (hr : RdBd r) (hq : KiIn t q) {n : Int} (h : saysB r q n = true) : (bndP t r).lo ≤ n ∧ n ≤ (bndP t r).hi := by
 have h1 := says_bare (hq.bd ht) hr h
 have h2 := bare_ends (hq.bd ht) hr
 have h3 := (bnd_ends ht hr).2.2 _ (say_iff.2 ⟨q, hq, h2.1⟩)
 have h4 := (bnd_ends ht hr).2.2 _ (say_iff.2 ⟨q, hq, h2.2.1⟩)
 omega
theorem truth_says (hr : RdBd r) {air rate off : Int} (ha : r.air.lo ≤ air ∧ air ≤ r.air.hi) (hra : r.rate.lo ≤ rate ∧ rate ≤ r.rate.hi) (ho : -r.err ≤ off ∧ off ≤ r.err) (hq : KiBd q) : saysB r q (woP r q air rate off) = true := by
 refine says_iff.2 ⟨rate, hra, ?_⟩
 have e1 := stem_air (r := r) hr.bare.1 hq.k.1 ha.1
 have e2 := stem_air (r := r) hr.bare.1 hq.k.1 ha.2
 unfold spanP woP
 simp only
 omega
theorem bnd_says (ht : TbBd t) (hr : RdBd r) : (∃ q, KiIn t q ∧ saysB r q (bndP t r).lo = true) ∧ ∃ q, KiIn t q ∧ saysB r q (bndP t r).hi = true := by
 have h := bnd_ends ht hr
 obtain ⟨q, air, rate, off, hq, ha, hra, ho, e⟩ := h.1
 obtain ⟨q', air', rate', off', hq', ha', hra', ho', e'⟩ := h.2.1
 exact ⟨⟨q, hq, by rw [e]; exact truth_says hr ha hra ho (hq.bd ht)⟩, ⟨q', hq', by rw [e']; exact truth_says hr ha' hra' ho' (hq'.bd ht)⟩⟩
end

def sayAll (l : List Rd) (q : Ki) (n : Int) : Bool := allTo (fun k => saysB (gE l k) q n) l.length
theorem sayAll_iff {l : List Rd} {q : Ki} {n : Int} : sayAll l q n = true ↔ ∀ k, k < l.length → saysB (gE l k) q n = true := allTo_iff
def SameK (t : Tb) (l : List Rd) (n : Int) : Prop := ∃ q, KiIn t q ∧ sayAll l q n = true
def RdsBd (l : List Rd) : Prop := ∀ k, k < l.length → RdBd (gE l k)

def LeftIs (l : List Rd) (q : Ki) (a N : Int) : Option Rg → Prop
 | none => ∀ n, a ≤ n → n < N → sayAll l q n = false
 | some R => EndsOf (fun n => (a ≤ n ∧ n < N) ∧ sayAll l q n = true) R.lo R.hi
theorem left_none {l : List Rd} {q : Ki} {a : Int} : LeftIs l q a a none := fun n h1 h2 => by omega
theorem left_no {l : List Rd} {q : Ki} {a N : Int} {o : Option Rg} (h : LeftIs l q a N o) (hn : sayAll l q N = false) : LeftIs l q a (N + 1) o := by
 cases o with
 | none =>
  intro n h1 h2
  by_cases e : n = N
  ·
   rw [e]; exact hn
  ·
   exact h n h1 (by omega)
 | some R =>
  show EndsOf (fun n => (a ≤ n ∧ n < N + 1) ∧ sayAll l q n = true) R.lo R.hi
  refine EndsOf.congr (Z := fun n => (a ≤ n ∧ n < N) ∧ sayAll l q n = true) h fun z => ⟨fun ⟨h1, h2⟩ => ⟨by omega, h2⟩, fun ⟨h1, h2⟩ => ⟨?_, h2⟩⟩
  have : z ≠ N := fun e => by rw [e, hn] at h2; cases h2
  omega
theorem left_yes {l : List Rd} {q : Ki} {a N : Int} {o : Option Rg} (h : LeftIs l q a N o) (ha : a ≤ N) (hn : sayAll l q N = true) : LeftIs l q a (N + 1) (some ⟨(match o with | none => N | some R => R.lo), N⟩) := by
 cases o with
 | none =>
  refine ⟨⟨by (try simp only); omega, hn⟩, ⟨by (try simp only); omega, hn⟩, fun z ⟨h1, h2⟩ => ?_⟩
  have : z = N := Classical.byContradiction fun e => by
   have := h z h1.1 (by omega)
   rw [this] at h2; cases h2
  (try simp only); omega
 | some R =>
  obtain ⟨h1, h2, h3⟩ := h
  refine ⟨⟨by have := h1.1; simp only; omega, h1.2⟩, ⟨by (try simp only); omega, hn⟩, fun z ⟨h4, h5⟩ => ?_⟩
  by_cases e : z = N
  ·
   have := h1.1; simp only; omega
  ·
   have := h3 z ⟨by omega, h5⟩
   have := h2.1
   (try simp only); omega

section
variable {t : Tb} {l : List Rd}
theorem sayAll_bnd (ht : TbBd t) (hl : RdsBd l) {q : Ki} (hq : KiIn t q) {n : Int} (h : sayAll l q n = true) {k : Nat} (hk : k < l.length) : (bndP t (gE l k)).lo ≤ n ∧ n ≤ (bndP t (gE l k)).hi := says_bnd ht (hl k hk) hq (sayAll_iff.1 h k hk)
def SameB (t : Tb) (l : List Rd) (K L S N : Int) (q : Ki) (n : Int) : Prop := sayAll l q n = true ∧ (KiBef t K L S q ∨ KiIn t q ∧ q = ⟨K, L, S⟩ ∧ n < N)
def SameE (t : Tb) (l : List Rd) (z : Rg) (K L S N : Int) (x : Int) : Prop := ∃ q n, SameB t l K L S N q n ∧ (x = n - z.hi ∨ x = n - z.lo)
end

def lastTo (l : List Ic) (d : Int) : Nat → Int
 | 0 => 0
 | k + 1 => if (gC l k).day ≤ d then max (lastTo l d k) (gC l k).day else lastTo l d k
def staleB (t : Tb) (l : List Ic) (d : Int) : Bool := decide (t.term < d - lastTo l d l.length)
theorem lastTo_bd {l : List Ic} {d : Int} (hd : 0 ≤ d) : ∀ {k : Nat}, 0 ≤ lastTo l d k ∧ lastTo l d k ≤ d
 | 0 => ⟨Int.le_refl _, hd⟩
 | k + 1 => by
  have := lastTo_bd (l := l) hd (k := k)
  rw [lastTo]
  split <;> omega

def iceAt (b : Rg) (e : Nat) : Bool := decide (max (b.hi - (e : Int)) (-2000) ≤ min (b.lo + (e : Int)) 2000)
def iceE (b : Rg) : Int := firstOf (iceAt b) 21
def iceZ (b : Rg) : Int := max (b.hi - iceE b) (-2000)
def useE (t : Tb) (h : List Rg) (l : List Ic) : Int := if ckTube t ≠ 0 then ckTube t else iced t.g h l
def askE (t : Tb) (h : List Rg) (l : List Ic) (r : Rd) : Int := if useE t h l ≠ 0 then useE t h l else if rdOk h.length r = false then 2 else 0
def refE (t : Tb) (l : List Ic) (r : Rd) (ag : Bool) : Int := if r.broken = true then 8 else if staleB t l r.day = true then 11 else if ag = false then 9 else 0
def corP2 (t : Tb) (r : Rd) (z : Rg) : Rg := ⟨(bndP t r).lo - z.hi, (bndP t r).hi - z.lo⟩
end Go.Proofs.YtkaogjhnogkcdaaGreat
end
