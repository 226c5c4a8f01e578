/- The law's own truths: word, picked, Picked (walks). · Readings of arguments: words, and small integers. · Readings of arguments: one range, one ice. · The law's own truths: Picked (walk). · The law's own truths: Picked (walk). · The law's own ices: Read (walk). · The law GlassTruth (plain): a truth in which all ices are true. · The laws GlassEnds, GlassLonger, GlassAlone (plain). · The law GlassHigher (plain): all higher by one number. · Fewest (plain): the lists that are tried. · Zeros, Shows, Fewest, Blame in one form each: what they tell stands behind a fact that is looked at last. · A cell of a row that the call owns is written. · Stem: without, least, greatest, span (walks). · A load of a whole struct of many cells in a drawn region, out of a block known whole. · Stem: span (walk). · Stem: bounds' add (walk). · The reference's map of states: where it lies, and what a store turns; the days' steps (plain). · The reference's Ahead (plain): how far a day's loops have come. · The reference's Ahead (walk). · Stem: bounds (walk). · The law's ended (walk): the truth of the ends. · What Stem's walks go out from: Glass' base (this text stands in place of wip/kit's KC, so that the kit's texts lie on Glass' own). · Maps with keys of any one type, as the program makes them (no key is ever taken out or laid anew): the runs of their operations. -/
import Derived.Test.YtkaogjhnogkcdaaK12
import Derived.Test.YtkaogjhnogkcdaaK11
import Derived.Test.YtkaogjhnogkcdaaK10
import Derived.Test.YtkaogjhnogkcdaaK9
import Derived.Test.YtkaogjhnogkcdaaK14
set_option linter.unusedVariables false
set_option linter.unusedSimpArgs false
set_option linter.unusedSectionVars false
section
namespace Go.Proofs.Ytkaogjhnogkcdaa
open Go.RowKit
attribute [local go_sem] Ex.cell? Ex.frozen? Gx.cell?

def fU (l : List Int) (k _j : Nat) : Value := .int .u16 (gI l k)
theorem IsWords.at_ {w : World} {B : Nat} {A : Option Addr} {l : List Int} (h : SlAt w B 1 A l.length (fU l)) {k : Nat} (hk : k < l.length) : ∃ b off, A = some ⟨b, off, none⟩ ∧ b < B ∧ w.cell? ⟨b, off + k, none⟩ = some (.int .u16 (gI l k)) := by
 obtain ⟨b, off, rfl, hb, hc⟩ := h (by omega)
 have := hc k 0 hk (by omega)
 exact ⟨b, off, rfl, hb, by simpa [fU] using this⟩

end Go.Proofs.Ytkaogjhnogkcdaa
end

section
namespace Go.Proofs.Ytkaogjhnogkcdaa
open Go.RowKit Go.ChangeShapes Go.WideShapes Go.ChangeAt

abbrev Wd := {n : Int // 0 ≤ n ∧ n ≤ 65535}
instance : Inhabited Wd := ⟨⟨0, by omega⟩⟩

section
variable {H : Type} {enc : TypeId × Value → H} {w : World} {base : Nat} {spare : Nat → Bool} {held : Bool} {r : Reach} {b0 : Nat}
end
end Go.Proofs.Ytkaogjhnogkcdaa
end

section
namespace Go.Proofs.Ytkaogjhnogkcdaa
open Go.RowKit Go.ChangeShapes Go.WideShapes Go.ChangeAt
section
variable {H : Type} {enc : TypeId × Value → H} {w : World} {base : Nat} {spare : Nat → Bool} {held : Bool} {r : Reach} {b0 : Nat}
end
end Go.Proofs.Ytkaogjhnogkcdaa
end

section
namespace Go.Proofs.Ytkaogjhnogkcdaa
open Go.RowKit
attribute [local go_sem] Ex.cell? Ex.frozen? Gx.cell?

end Go.Proofs.Ytkaogjhnogkcdaa
end

section
namespace Go.Proofs.Ytkaogjhnogkcdaa
open Go.RowKit
attribute [local go_sem] Ex.cell? Ex.frozen? Gx.cell?

end Go.Proofs.Ytkaogjhnogkcdaa
end

section
namespace Go.Proofs.Ytkaogjhnogkcdaa
open Go.RowKit
attribute [local go_sem] Ex.cell? Ex.frozen? Gx.cell?

def bitOff (b : Int) (i : Nat) : Prop := ¬ (b / 2 ^ i).tmod 2 = 1
def ReadIs (zs : List Int) (b : Int) (l : List Ic) : Prop := ∀ i, i < l.length → (0 ≤ (gC l i).day ∧ (gC l i).day < zs.length) ∧ (0 ≤ (gC l i).err ∧ (gC l i).err ≤ 3) ∧ (bitOff b i → -(gC l i).err ≤ gI zs (gC l i).day.toNat - (gC l i).zero ∧ gI zs (gC l i).day.toNat - (gC l i).zero ≤ (gC l i).err)

theorem gI_play {g : Gl} {t1 t2 t3 : List Int} {n d : Nat} (hd : d < n) : gI (playTo g t1 t2 t3 n) d = zAt g t1 t2 t3 d := by simp [gI, playTo, hd]

end Go.Proofs.Ytkaogjhnogkcdaa
end

section
namespace Go.Proofs.Ytkaogjhnogkcdaa

theorem bitOff_zero (i : Nat) : bitOff 0 i := by simp [bitOff]

def AllOf (zs : List Int) (l : List Ic) : Prop := ∀ i, i < l.length → -(gC l i).err ≤ gI zs (gC l i).day.toNat - (gC l i).zero ∧ gI zs (gC l i).day.toNat - (gC l i).zero ≤ (gC l i).err
theorem ReadIs.all {zs : List Int} {l : List Ic} (h : ReadIs zs 0 l) : AllOf zs l := fun i hi => (h i hi).2.2 (bitOff_zero i)
theorem AllOf.take {zs : List Int} {l : List Ic} (h : AllOf zs l) (k : Nat) : AllOf zs (l.take k) := fun i hi => by
 rw [List.length_take] at hi
 rw [gC_take (by omega)]
 exact h i (by omega)
theorem AllOf.fits {zs : List Int} {l : List Ic} (h : AllOf zs l) (o : Nat → Bool) (d : Nat) : fitsB l o (d : Int) (gI zs d) = true := by
 unfold fitsB
 rw [allTo_iff]
 intro k hk
 have hk' := h k hk
 unfold fitOk
 by_cases hd : (gC l k).day = (d : Int)
 ·
  rw [hd] at hk'
  have : inB (gI zs d - (gC l k).zero) (-(gC l k).err) (gC l k).err = true := inB_iff.2 (by simpa using hk')
  rw [this]
  simp
 ·
  simp [hd]

section
variable {g : Gl} {h : List Rg} {l : List Ic} {t1 t2 t3 : List Int}
theorem AllOf.fits' (ha : AllOf (playTo g t1 t2 t3 h.length) l) (o : Nat → Bool) : ∀ d, d < h.length → fitsB l o (d : Int) (zAt g t1 t2 t3 d) = true := fun d hd => by
 have := ha.fits o d
 rwa [gI_play hd] at this
theorem AllOf.can (hok : Ok g h) (ht : truthB g h t1 t2 t3 = true) (ha : AllOf (playTo g t1 t2 t3 h.length) l) (o : Nat → Bool) : ∃ s, Can g h l o h.length s :=
 ⟨_, can_st hok (truthB_iff.1 ht).2 (ha.fits' o) (Nat.le_refl _)⟩
theorem AllOf.agree (hok : Ok g h) (ht : truthB g h t1 t2 t3 = true) (ha : AllOf (playTo g t1 t2 t3 h.length) l) (o : Nat → Bool) : agreeB g h l o = true := agreeB_iff.2 (ha.can hok ht o)
theorem AllOf.within (hok : Ok g h) (ht : truthB g h t1 t2 t3 = true) (ha : AllOf (playTo g t1 t2 t3 h.length) l) {zs : List Rg} (hz : ZsOf g h l zs) {d : Nat} (hd : d < h.length) : (gR zs d).lo ≤ gI (playTo g t1 t2 t3 h.length) d ∧ gI (playTo g t1 t2 t3 h.length) d ≤ (gR zs d).hi := by
 rw [gI_play hd]
 exact (hz.2 d hd).2.2 _ ⟨_, goes_st hok (truthB_iff.1 ht).2 (ha.fits' off0) (by omega), rfl⟩
end
end Go.Proofs.Ytkaogjhnogkcdaa
end

section
namespace Go.Proofs.Ytkaogjhnogkcdaa

section
variable {g : Gl} {h : List Rg} {l : List Ic}
theorem path_bd (hok : Ok g h) {σ : Nat → St} {n : Nat} (p : Path g h σ n) : ∀ {d : Nat}, d ≤ n → (0 ≤ (σ d).1 ∧ (σ d).1 ≤ 3 * d) ∧ (0 ≤ (σ d).2 ∧ (σ d).2 ≤ 30)
 | 0, _ => by rw [p.1]; simp
 | d + 1, hd => by
  obtain ⟨h1, h2⟩ := path_bd hok p (d := d) (by omega)
  obtain ⟨x, b, c, hx, hb, hc, he⟩ := p.2 d (by omega)
  have k1 := hok.creep d
  have k2 := hok.back
  have k3 := hok.sinks x
  have k4 := mx3_bd ((σ d).2 - b) 0 (sinks g x)
  rw [he]
  simp only
  omega
theorem zat_bd (hok : Ok g h) {i : Nat} (hi : i < h.length) {z : Int} (hz : ZAt g h l i z) : -2000 ≤ z ∧ z ≤ 2000 := by
 obtain ⟨σ, p, _, rfl⟩ := hz
 have h1 := path_bd hok p (d := i + 1) (by omega)
 have h2 := hok.base
 have h3 := hok.nh
 unfold zero
 omega
end

def endT (g : Gl) (h : List Rg) (high : Bool) : List Int × List Int × List Int :=
 ((List.range h.length).map (fun d => if high then (gR h d).lo else (gR h d).hi), (List.range h.length).map (fun d => if high then (creep g d).hi else (creep g d).lo), (List.range h.length).map (fun _ => if high then g.bhi else g.blo))
section
variable {g : Gl} {h : List Rg}
end
end Go.Proofs.Ytkaogjhnogkcdaa
end

section
namespace Go.Proofs.Ytkaogjhnogkcdaa

def upG (g : Gl) (b : Int) : Gl := ⟨g.base + b, g.bands, g.depths, g.blo, g.bhi⟩
def upI (b : Int) (c : Ic) : Ic := ⟨c.day, c.zero + b, c.err⟩
section
variable {g : Gl} {h : List Rg} {l : List Ic} {b : Int}
end
end Go.Proofs.Ytkaogjhnogkcdaa
end

section
namespace Go.Proofs.Ytkaogjhnogkcdaa

def cnt (O : Nat → Bool) (n : Nat) : Nat → Nat
 | 0 => 0
 | f + 1 => (if O n then 1 else 0) + cnt O (n + 1) f
section
variable {g : Gl} {h : List Rg} {l : List Ic}
end
end Go.Proofs.Ytkaogjhnogkcdaa
end

section
namespace Go.Proofs.Ytkaogjhnogkcdaa
open Go.RowKit

def ZerosV (g : Gl) (h : List Rg) (l : List Ic) (n : Nat) (ev : Int) (zs : List Rg) : Prop := (agreeB g h l off0 = false ∧ ev = 9 ∧ n = 0) ∨ (agreeB g h l off0 = true ∧ ev = 0 ∧ n = h.length ∧ ZsOf g h l zs)
def ShowsV (g : Gl) (h : List Rg) (l : List Ic) (k ev : Int) : Prop := (∃ j : Nat, k = (j : Int) ∧ j < l.length ∧ (∀ i, i < j → agreeB g h (l.take (i + 1)) off0 = true) ∧ agreeB g h (l.take (j + 1)) off0 = false ∧ ev = 0) ∨ ((∀ j, j < l.length → agreeB g h (l.take (j + 1)) off0 = true) ∧ k = 0 ∧ ev = 7)
def BlameV (g : Gl) (h : List Rg) (l : List Ic) (k ev : Int) : Prop := ((agreeB g h l off0 = true ∨ (listsL g h l 1).length ≠ 1) ∧ k = 0 ∧ ev = 7) ∨ (agreeB g h l off0 = false ∧ listsL g h l 1 = [[k]] ∧ ev = 0)
section
variable {g : Gl} {h : List Rg} {l : List Ic} {b : Int}
end
end Go.Proofs.Ytkaogjhnogkcdaa
end

section
namespace Go.Proofs.Ytkaogjhnogkcdaa
open Go.RowKit

structure Paused (p : Prop) : Prop where
 out : p
theorem pause_at {P : Program} {rest : List Oper} {A : Array Oper} {o : Oper} {a : Act} {w : World} {Q : Exit → Act → World → Prop} (d : Nat) (hd : o.dst = some d) (h : Paused (wpList P A Q (o :: rest) a w)) : wpList P A Q (o :: rest) a w := h.out

def upTo (b : Int) (l : List Ic) : Nat → List Ic
 | 0 => l
 | k + 1 => (upTo b l k).set k ⟨(gC l k).day, IntKind.i64.wrap ((gC l k).zero + b), (gC l k).err⟩
end Go.Proofs.Ytkaogjhnogkcdaa
end

section
namespace Go.Proofs.Ytkaogjhnogkcdaa
open Go.RowKit
attribute [local go_sem] Ex.cell? Ex.frozen? run_store_fn

def woTo (r : Rd) (q : Ki) (air rate off : Int) : Nat → Int
  | 0 => r.shown + off
  | 1 => r.shown + off + stemP r q.k air
  | 2 => r.shown + off + stemP r q.k air + rate * q.lag
  | _ => woP r q air rate off
set_option maxRecDepth 100000 in
set_option maxHeartbeats 1600000 in
theorem without_any (t : Tb) (Ab Ad : Option Addr) (cb cd : Nat) (r : Rd) (q : Ki) (air rate off : Int) (w : World) (hr : RdBd r) (hq : KiBd q) (ha : -100 ≤ air ∧ air ≤ 100) (hra : -20 ≤ rate ∧ rate ≤ 20) (ho : -20 ≤ off ∧ off ≤ 20) :
    Calls Try.prog 30 #[.agg #[.int .i64 t.g.base, .slice Ab t.g.bands.length cb, .slice Ad t.g.depths.length cd, .int .i64 t.g.blo, .int .i64 t.g.bhi, .int .i64 t.k.lo, .int .i64 t.k.hi, .int .i64 t.lag.lo, .int .i64 t.lag.hi, .int .i64 t.sq.lo, .int .i64 t.sq.hi, .int .i64 t.term, .int .i64 r.day, .int .i64 r.shown, .int .i64 r.err, .int .i64 r.bare, .int .i64 r.air.lo, .int .i64 r.air.hi, .int .i64 r.rate.lo, .int .i64 r.rate.hi, .int .i64 r.deep, .bool r.broken], .agg #[.int .i64 q.k, .int .i64 q.lag, .int .i64 q.sq], .int .i64 air, .int .i64 rate, .int .i64 off] w fun e w' => e = .returned (.int .i64 (woP r q air rate off)) ∧ Below w.heap.size w w' := by
  have hb1 := ex_alloc (ex_alloc (Below.refl w.heap.size w) (.cells #[.int .i64 t.g.base, .slice Ab t.g.bands.length cb, .slice Ad t.g.depths.length cd, .int .i64 t.g.blo, .int .i64 t.g.bhi, .int .i64 t.k.lo, .int .i64 t.k.hi, .int .i64 t.lag.lo, .int .i64 t.lag.hi, .int .i64 t.sq.lo, .int .i64 t.sq.hi, .int .i64 t.term, .int .i64 r.day, .int .i64 r.shown, .int .i64 r.err, .int .i64 r.bare, .int .i64 r.air.lo, .int .i64 r.air.hi, .int .i64 r.rate.lo, .int .i64 r.rate.hi, .int .i64 r.deep, .bool r.broken] 69)) (.cells #[.int .i64 q.k, .int .i64 q.lag, .int .i64 q.sq] 80)
  have q1 : Blk ((w.alloc (.cells #[.int .i64 t.g.base, .slice Ab t.g.bands.length cb, .slice Ad t.g.depths.length cd, .int .i64 t.g.blo, .int .i64 t.g.bhi, .int .i64 t.k.lo, .int .i64 t.k.hi, .int .i64 t.lag.lo, .int .i64 t.lag.hi, .int .i64 t.sq.lo, .int .i64 t.sq.hi, .int .i64 t.term, .int .i64 r.day, .int .i64 r.shown, .int .i64 r.err, .int .i64 r.bare, .int .i64 r.air.lo, .int .i64 r.air.hi, .int .i64 r.rate.lo, .int .i64 r.rate.hi, .int .i64 r.deep, .bool r.broken] 69)).alloc (.cells #[.int .i64 q.k, .int .i64 q.lag, .int .i64 q.sq] 80)) w.heap.size 69 #[.int .i64 t.g.base, .slice Ab t.g.bands.length cb, .slice Ad t.g.depths.length cd, .int .i64 t.g.blo, .int .i64 t.g.bhi, .int .i64 t.k.lo, .int .i64 t.k.hi, .int .i64 t.lag.lo, .int .i64 t.lag.hi, .int .i64 t.sq.lo, .int .i64 t.sq.hi, .int .i64 t.term, .int .i64 r.day, .int .i64 r.shown, .int .i64 r.err, .int .i64 r.bare, .int .i64 r.air.lo, .int .i64 r.air.hi, .int .i64 r.rate.lo, .int .i64 r.rate.hi, .int .i64 r.deep, .bool r.broken] := (Blk.new _ _ _).alloc _
  have q2 : Blk ((w.alloc (.cells #[.int .i64 t.g.base, .slice Ab t.g.bands.length cb, .slice Ad t.g.depths.length cd, .int .i64 t.g.blo, .int .i64 t.g.bhi, .int .i64 t.k.lo, .int .i64 t.k.hi, .int .i64 t.lag.lo, .int .i64 t.lag.hi, .int .i64 t.sq.lo, .int .i64 t.sq.hi, .int .i64 t.term, .int .i64 r.day, .int .i64 r.shown, .int .i64 r.err, .int .i64 r.bare, .int .i64 r.air.lo, .int .i64 r.air.hi, .int .i64 r.rate.lo, .int .i64 r.rate.hi, .int .i64 r.deep, .bool r.broken] 69)).alloc (.cells #[.int .i64 q.k, .int .i64 q.lag, .int .i64 q.sq] 80)) (w.heap.size + 1) 80 #[.int .i64 q.k, .int .i64 q.lag, .int .i64 q.sq] := Blk.new' _ _ _ (by simp)
  have s1 := hr.shown
  have s2 := (stem_bd hr hq.k ha).2.2
  have s3 := late_bd hq hra
  have s4 := deep_bd hq hr
  go_enter Try.func30, Try.ntmps30
  go_wp2_with fail
  refine (sm_parts _).mono ?_
  rintro e w1 ⟨rfl, hw1⟩
  have hB := ex_trans hb1 hw1
  replace q1 := q1.below hw1 q1.lt
  replace q2 := q2.below hw1 q2.lt
  go_wp2_with fail
  go_loopw [11, 13, 20] (fun n p i wr => ∃ k : Nat, k ≤ 3 ∧ i = .int .i64 (k : Int) ∧ n = .int .i64 (woTo r q air rate off k) ∧ Below w.heap.size w wr ∧ Blk wr w.heap.size 69 #[.int .i64 t.g.base, .slice Ab t.g.bands.length cb, .slice Ad t.g.depths.length cd, .int .i64 t.g.blo, .int .i64 t.g.bhi, .int .i64 t.k.lo, .int .i64 t.k.hi, .int .i64 t.lag.lo, .int .i64 t.lag.hi, .int .i64 t.sq.lo, .int .i64 t.sq.hi, .int .i64 t.term, .int .i64 r.day, .int .i64 r.shown, .int .i64 r.err, .int .i64 r.bare, .int .i64 r.air.lo, .int .i64 r.air.hi, .int .i64 r.rate.lo, .int .i64 r.rate.hi, .int .i64 r.deep, .bool r.broken] ∧ Blk wr (w.heap.size + 1) 80 #[.int .i64 q.k, .int .i64 q.lag, .int .i64 q.sq])
    (fun _ _ i _ => 3 - (intOf i).toNat)
  case atStart => exact ⟨0, by omega, rfl, rfl, hB, q1, q2⟩
  case round =>
    obtain ⟨k, hk, rfl, rfl, hbl, hq1, hq2⟩ := hrel
    clear q1 q2 hB hw1 hb1
    rcases (show k = 0 ∨ k = 1 ∨ k = 2 ∨ k = 3 by omega) with rfl | rfl | rfl | rfl
    · have b0 : wr.cell? ⟨w.heap.size + 1, 0, none⟩ = some (.int .i64 q.k) := hq2.cell 0
      have b1 : wr.cell? ⟨w.heap.size + 1, 1, none⟩ = some (.int .i64 q.lag) := hq2.cell 1
      have b2 : wr.cell? ⟨w.heap.size + 1, 2, none⟩ = some (.int .i64 q.sq) := hq2.cell 2
      have lb := hq2.lt
      have hI : ∀ W, (Instr.index 102 (.agg #[.func (.func 55) #[] #[], .func (.func 56) #[] #[], .func (.func 57) #[] #[]]) (.int .i64 0)).run Try.prog W = .ok (.agg #[.func (.func 55) #[] #[]]) W := fun W => by kernel_rfl
      have hb2 := ex_alloc (Below.refl wr.heap.size wr) (.cells #[.func (.func 55) #[] #[]] 100)
      have hwr : IntKind.i64.wrap (woTo r q air rate off 0 + stemP r q.k air) = woTo r q air rate off 1 := IntWalk.i64_in _ (by simp only [woTo]; omega)
      go_wp2_with (refine pause_at 26 rfl ?_)
      refine Paused.mk ?_
      refine wpList_load_row rfl 69 _ rfl _ rfl 69 _ (0, 0) _ (hq1.alloc _) Try.underlying69 rfl (by kernel_rfl) ?_
      go_wp2_with fail
      refine (sm_stem t Ab Ad cb cd r q air rate _ hr hq.k ha).mono ?_
      rintro e w2 ⟨rfl, hw2⟩
      have hB2 := ex_trans hb2 hw2
      replace hq1 := hq1.below hB2 hq1.lt
      replace hq2 := hq2.below hB2 hq2.lt
      clear b0 b1 b2 lb
      go_wp2
      go_roundw
      case rel => exact ⟨1, by omega, by go_num, rfl, ex_trans hbl hB2, hq1, hq2⟩
      case measure => simp [intOf]
    · have b0 : wr.cell? ⟨w.heap.size + 1, 0, none⟩ = some (.int .i64 q.k) := hq2.cell 0
      have b1 : wr.cell? ⟨w.heap.size + 1, 1, none⟩ = some (.int .i64 q.lag) := hq2.cell 1
      have b2 : wr.cell? ⟨w.heap.size + 1, 2, none⟩ = some (.int .i64 q.sq) := hq2.cell 2
      have lb := hq2.lt
      have hI : ∀ W, (Instr.index 102 (.agg #[.func (.func 55) #[] #[], .func (.func 56) #[] #[], .func (.func 57) #[] #[]]) (.int .i64 1)).run Try.prog W = .ok (.agg #[.func (.func 56) #[] #[]]) W := fun W => by kernel_rfl
      have hb2 := ex_alloc (Below.refl wr.heap.size wr) (.cells #[.func (.func 56) #[] #[]] 100)
      have hwr : IntKind.i64.wrap (woTo r q air rate off 1 + rate * q.lag) = woTo r q air rate off 2 := IntWalk.i64_in _ (by simp only [woTo]; omega)
      go_wp2_with (refine pause_at 26 rfl ?_)
      refine Paused.mk ?_
      refine wpList_load_row rfl 69 _ rfl _ rfl 69 _ (0, 0) _ (hq1.alloc _) Try.underlying69 rfl (by kernel_rfl) ?_
      go_wp2_with fail
      refine (sm_late t Ab Ad cb cd r q air rate _ hq hra).mono ?_
      rintro e w2 ⟨rfl, hw2⟩
      have hB2 := ex_trans hb2 hw2
      replace hq1 := hq1.below hB2 hq1.lt
      replace hq2 := hq2.below hB2 hq2.lt
      clear b0 b1 b2 lb
      go_wp2
      go_roundw
      case rel => exact ⟨2, by omega, by go_num, rfl, ex_trans hbl hB2, hq1, hq2⟩
      case measure => simp [intOf]
    · have b0 : wr.cell? ⟨w.heap.size + 1, 0, none⟩ = some (.int .i64 q.k) := hq2.cell 0
      have b1 : wr.cell? ⟨w.heap.size + 1, 1, none⟩ = some (.int .i64 q.lag) := hq2.cell 1
      have b2 : wr.cell? ⟨w.heap.size + 1, 2, none⟩ = some (.int .i64 q.sq) := hq2.cell 2
      have lb := hq2.lt
      have hI : ∀ W, (Instr.index 102 (.agg #[.func (.func 55) #[] #[], .func (.func 56) #[] #[], .func (.func 57) #[] #[]]) (.int .i64 2)).run Try.prog W = .ok (.agg #[.func (.func 57) #[] #[]]) W := fun W => by kernel_rfl
      have hb2 := ex_alloc (Below.refl wr.heap.size wr) (.cells #[.func (.func 57) #[] #[]] 100)
      have hwr : IntKind.i64.wrap (woTo r q air rate off 2 + -(q.sq * r.deep)) = woTo r q air rate off 3 := IntWalk.i64_in _ (by simp only [woTo]; omega)
      go_wp2_with (refine pause_at 26 rfl ?_)
      refine Paused.mk ?_
      refine wpList_load_row rfl 69 _ rfl _ rfl 69 _ (0, 0) _ (hq1.alloc _) Try.underlying69 rfl (by kernel_rfl) ?_
      go_wp2_with fail
      refine (sm_squeezed t Ab Ad cb cd r q air rate _ hq hr).mono ?_
      rintro e w2 ⟨rfl, hw2⟩
      have hB2 := ex_trans hb2 hw2
      replace hq1 := hq1.below hB2 hq1.lt
      replace hq2 := hq2.below hB2 hq2.lt
      clear b0 b1 b2 lb
      go_wp2
      go_roundw
      case rel => exact ⟨3, by omega, by go_num, rfl, ex_trans hbl hB2, hq1, hq2⟩
      case measure => simp [intOf]
    · go_wp2
      go_ret
      exact ⟨rfl, hbl⟩

def mnTo (xs : List Int) : Nat → Int
  | 0 => gI xs 0
  | k + 1 => min (mnTo xs k) (gI xs k)
theorem min_any (A : Option Addr) (c B n : Nat) (xs : List Int) (w : World) (h1 : 1 ≤ n) (hl : n ≤ 1000000) (hA : SlAt w B 1 A n (fI xs)) :
    Calls Try.prog 36 #[.slice A n c] w fun e w' => e = .returned (.int .i64 (mnTo xs n)) ∧ w = w' := by
  obtain ⟨b, off, rfl, hb, hc⟩ := hA (by omega)
  have hc0 : w.cell? ⟨b, off, none⟩ = some (.int .i64 (gI xs 0)) := by simpa [fI] using hc 0 0 (by omega) (by omega)
  have hc : ∀ k, k < n → w.cell? ⟨b, off + k, none⟩ = some (.int .i64 (gI xs k)) := fun k hk => by simpa [fI] using hc k 0 hk (by omega)
  go_enter Try.func36, Try.ntmps36
  go_wp2
  go_loop [3, 4] (fun m i => ∃ k : Nat, 1 ≤ k ∧ k ≤ n ∧ i = .int .i64 k ∧ m = .int .i64 (mnTo xs k)) (fun _ i => n - (intOf i).toNat)
  case atStart => exact ⟨1, by omega, by omega, rfl, by simp [mnTo]⟩
  case round =>
    obtain ⟨k, hk1, hk, rfl, rfl⟩ := hrel
    by_cases hlt : k < n
    · have hcell := hc k hlt
      go_wp2
      go_round
      case rel => exact ⟨k + 1, by omega, by omega, by go_num, by first | (simp only [mnTo]; done) | (simp only [mnTo]; congr 1; done) | (simp only [mnTo]; congr 1; split <;> omega)⟩
      case measure => simp [intOf]; omega
    · have : k = n := by omega
      subst this
      go_wp2
      go_ret
      exact ⟨rfl, rfl⟩
theorem sm_least (A : Option Addr) (c B n : Nat) (xs : List Int) (w : World) (h1 : 1 ≤ n) (hl : n ≤ 1000000) (hA : SlAt w B 1 A n (fI xs)) :
    Calls Try.prog 22 #[.slice A n c] w fun e w' => e = .returned (.int .i64 (mnTo xs n)) ∧ w = w' := by
  go_enter Try.func22, Try.ntmps22
  go_wp2_with (go_at_call 36; refine (min_any _ _ _ _ _ _ h1 hl hA).mono ?_; rintro e w' ⟨rfl, rfl⟩)
  go_ret
  exact ⟨rfl, rfl⟩
theorem sm_greatest (A : Option Addr) (c B n : Nat) (xs : List Int) (w : World) (h1 : 1 ≤ n) (hl : n ≤ 1000000) (hA : SlAt w B 1 A n (fI xs)) :
    Calls Try.prog 21 #[.slice A n c] w fun e w' => e = .returned (.int .i64 (mxTo xs n)) ∧ w = w' := by
  go_enter Try.func21, Try.ntmps21
  go_wp2_with (go_at_call 35; refine (max_any _ _ _ _ _ _ h1 hl hA).mono ?_; rintro e w' ⟨rfl, rfl⟩)
  go_ret
  exact ⟨rfl, rfl⟩
theorem two_ints {w : World} {b : Nat} {x y : Int} (h : Blk w b 3 #[.int .i64 x, .int .i64 y]) : SlAt w (b + 1) 1 (some ⟨b, 0, none⟩) 2 (fI [x, y]) := fun _ => ⟨b, 0, rfl, by omega, fun k j hk hj => by
  rw [h.cell]
  obtain rfl : j = 0 := by omega
  match k, hk with
  | 0, _ => rfl
  | 1, _ => rfl⟩
theorem sm_least2 (b c : Nat) (x y : Int) (w : World) (h : Blk w b 3 #[.int .i64 x, .int .i64 y]) :
    Calls Try.prog 22 #[.slice (some ⟨b, 0, none⟩) 2 c] w fun e w' => e = .returned (.int .i64 (min x y)) ∧ w = w' := by
  refine (sm_least _ c (b + 1) 2 [x, y] w (by omega) (by omega) (two_ints h)).mono ?_
  rintro e w' ⟨rfl, rfl⟩
  exact ⟨ret_int (by simp [mnTo, gI]), rfl⟩
theorem sm_greatest2 (b c : Nat) (x y : Int) (w : World) (h : Blk w b 3 #[.int .i64 x, .int .i64 y]) :
    Calls Try.prog 21 #[.slice (some ⟨b, 0, none⟩) 2 c] w fun e w' => e = .returned (.int .i64 (max x y)) ∧ w = w' := by
  refine (sm_greatest _ c (b + 1) 2 [x, y] w (by omega) (by omega) (two_ints h)).mono ?_
  rintro e w' ⟨rfl, rfl⟩
  exact ⟨ret_int (by simp [mxTo, gI]), rfl⟩
end Go.Proofs.Ytkaogjhnogkcdaa
end

section
namespace Go.Proofs.Ytkaogjhnogkcdaa
open Go.RowKit
theorem wpQuiet_load_row {P : Program} {ops : Array Oper} {C : World → Prop} {Q : Act → Prop} {rest : List Oper} {o : Oper} {a : Act} (hgd : o.guard = none) (ty : TypeId) (x : Operand) (ho : o.op = .load ty x)
  (g : Nat) (hx : a.eval x = .pointer (some ⟨g, 0, none⟩)) (t : TypeId) (cs : Array Value) (fr : Nat × Nat) (d : TypeDesc) (hg : ∀ w, C w → w.heap[g]? = some (.cells cs t fr))
  (hu : P.underlying ty = some d) (hd : (match d with | .struct _ | .array _ _ => true | _ => false) = true) (hi : (P.info? ty).map (·.size) = some cs.size)
  (h : wpQuiet P ops C Q rest (a.put o.dst (.agg cs))) : wpQuiet P ops C Q (o :: rest) a := by
 unfold wpQuiet
 rw [if_pos (by simp [Region.wanted, hgd])]
 refine ⟨.agg cs, fun w hw => ?_, h⟩
 unfold Oper.quietAt execOp
 simp only [ho, hx, Instr.loadAt, Instr.sureAddr, Sem.run_bind, Sem.run_pure, Result.andThen_ok, run_loadVar_row w g t ty cs fr d (hg w hw) hu hd hi]
 exact ⟨rfl, rfl⟩
theorem Blk.ex {w : World} {g : Nat} {t : TypeId} {cs : Array Value} (h : Blk w g t cs) : ∀ w', (∃ x : Ex w, w' = x.W) → w'.heap[g]? = some (.cells cs t (0, 0)) := by
 rintro w' ⟨x, rfl⟩
 exact h.below x.h h.lt
end Go.Proofs.Ytkaogjhnogkcdaa
end

section
namespace Go.Proofs.Ytkaogjhnogkcdaa
open Go.RowKit
attribute [local go_sem] Ex.cell? Ex.frozen?

set_option maxRecDepth 100000 in
set_option maxHeartbeats 3200000 in
theorem sm_span (t : Tb) (Ab Ad : Option Addr) (cb cd : Nat) (r : Rd) (q : Ki) (rate : Int) (w : World) (hr : RdBd r) (hq : KiBd q) (hra : -20 ≤ rate ∧ rate ≤ 20) :
  Calls Try.prog 34 #[.agg #[.int .i64 t.g.base, .slice Ab t.g.bands.length cb, .slice Ad t.g.depths.length cd, .int .i64 t.g.blo, .int .i64 t.g.bhi, .int .i64 t.k.lo, .int .i64 t.k.hi, .int .i64 t.lag.lo, .int .i64 t.lag.hi, .int .i64 t.sq.lo, .int .i64 t.sq.hi, .int .i64 t.term, .int .i64 r.day, .int .i64 r.shown, .int .i64 r.err, .int .i64 r.bare, .int .i64 r.air.lo, .int .i64 r.air.hi, .int .i64 r.rate.lo, .int .i64 r.rate.hi, .int .i64 r.deep, .bool r.broken], .agg #[.int .i64 q.k, .int .i64 q.lag, .int .i64 q.sq], .int .i64 rate] w fun e w' => e = .returned (.agg #[.int .i64 (spanP r q rate).lo, .int .i64 (spanP r q rate).hi]) ∧ Below w.heap.size w w' := by
 have ha1 : -100 ≤ r.air.lo ∧ r.air.lo ≤ 100 := by have := hr.air; omega
 have ha2 : -100 ≤ r.air.hi ∧ r.air.hi ≤ 100 := by have := hr.air; omega
 have hw1 := woP_bd hq hr ha1 hra (off := 0) (by omega)
 have hw2 := woP_bd hq hr ha2 hra (off := 0) (by omega)
 have he := hr.err
 have hb1 := ex_alloc (ex_alloc (ex_alloc (Below.refl w.heap.size w) (.cells #[.int .i64 t.g.base, .slice Ab t.g.bands.length cb, .slice Ad t.g.depths.length cd, .int .i64 t.g.blo, .int .i64 t.g.bhi, .int .i64 t.k.lo, .int .i64 t.k.hi, .int .i64 t.lag.lo, .int .i64 t.lag.hi, .int .i64 t.sq.lo, .int .i64 t.sq.hi, .int .i64 t.term, .int .i64 r.day, .int .i64 r.shown, .int .i64 r.err, .int .i64 r.bare, .int .i64 r.air.lo, .int .i64 r.air.hi, .int .i64 r.rate.lo, .int .i64 r.rate.hi, .int .i64 r.deep, .bool r.broken] 69)) (.cells #[.int .i64 q.k, .int .i64 q.lag, .int .i64 q.sq] 80)) (.cells #[.int .i64 0, .int .i64 0] 23)
 have q1 : Blk (((w.alloc (.cells #[.int .i64 t.g.base, .slice Ab t.g.bands.length cb, .slice Ad t.g.depths.length cd, .int .i64 t.g.blo, .int .i64 t.g.bhi, .int .i64 t.k.lo, .int .i64 t.k.hi, .int .i64 t.lag.lo, .int .i64 t.lag.hi, .int .i64 t.sq.lo, .int .i64 t.sq.hi, .int .i64 t.term, .int .i64 r.day, .int .i64 r.shown, .int .i64 r.err, .int .i64 r.bare, .int .i64 r.air.lo, .int .i64 r.air.hi, .int .i64 r.rate.lo, .int .i64 r.rate.hi, .int .i64 r.deep, .bool r.broken] 69)).alloc (.cells #[.int .i64 q.k, .int .i64 q.lag, .int .i64 q.sq] 80)).alloc (.cells #[.int .i64 0, .int .i64 0] 23)) w.heap.size 69 #[.int .i64 t.g.base, .slice Ab t.g.bands.length cb, .slice Ad t.g.depths.length cd, .int .i64 t.g.blo, .int .i64 t.g.bhi, .int .i64 t.k.lo, .int .i64 t.k.hi, .int .i64 t.lag.lo, .int .i64 t.lag.hi, .int .i64 t.sq.lo, .int .i64 t.sq.hi, .int .i64 t.term, .int .i64 r.day, .int .i64 r.shown, .int .i64 r.err, .int .i64 r.bare, .int .i64 r.air.lo, .int .i64 r.air.hi, .int .i64 r.rate.lo, .int .i64 r.rate.hi, .int .i64 r.deep, .bool r.broken] := ((Blk.new _ _ _).alloc _).alloc _
 have q2 : Blk (((w.alloc (.cells #[.int .i64 t.g.base, .slice Ab t.g.bands.length cb, .slice Ad t.g.depths.length cd, .int .i64 t.g.blo, .int .i64 t.g.bhi, .int .i64 t.k.lo, .int .i64 t.k.hi, .int .i64 t.lag.lo, .int .i64 t.lag.hi, .int .i64 t.sq.lo, .int .i64 t.sq.hi, .int .i64 t.term, .int .i64 r.day, .int .i64 r.shown, .int .i64 r.err, .int .i64 r.bare, .int .i64 r.air.lo, .int .i64 r.air.hi, .int .i64 r.rate.lo, .int .i64 r.rate.hi, .int .i64 r.deep, .bool r.broken] 69)).alloc (.cells #[.int .i64 q.k, .int .i64 q.lag, .int .i64 q.sq] 80)).alloc (.cells #[.int .i64 0, .int .i64 0] 23)) (w.heap.size + 1) 80 #[.int .i64 q.k, .int .i64 q.lag, .int .i64 q.sq] := (Blk.new' _ _ _ (by simp)).alloc _
 have q3 : Blk (((w.alloc (.cells #[.int .i64 t.g.base, .slice Ab t.g.bands.length cb, .slice Ad t.g.depths.length cd, .int .i64 t.g.blo, .int .i64 t.g.bhi, .int .i64 t.k.lo, .int .i64 t.k.hi, .int .i64 t.lag.lo, .int .i64 t.lag.hi, .int .i64 t.sq.lo, .int .i64 t.sq.hi, .int .i64 t.term, .int .i64 r.day, .int .i64 r.shown, .int .i64 r.err, .int .i64 r.bare, .int .i64 r.air.lo, .int .i64 r.air.hi, .int .i64 r.rate.lo, .int .i64 r.rate.hi, .int .i64 r.deep, .bool r.broken] 69)).alloc (.cells #[.int .i64 q.k, .int .i64 q.lag, .int .i64 q.sq] 80)).alloc (.cells #[.int .i64 0, .int .i64 0] 23)) (w.heap.size + 1 + 1) 23 #[.int .i64 0, .int .i64 0] := Blk.new' _ _ _ (by simp)
 go_enter Try.func34, Try.ntmps34
 go_upto_region 1 with fail
 show Code.wp _ _ _ _ (((w.alloc (.cells #[.int .i64 t.g.base, .slice Ab t.g.bands.length cb, .slice Ad t.g.depths.length cd, .int .i64 t.g.blo, .int .i64 t.g.bhi, .int .i64 t.k.lo, .int .i64 t.k.hi, .int .i64 t.lag.lo, .int .i64 t.lag.hi, .int .i64 t.sq.lo, .int .i64 t.sq.hi, .int .i64 t.term, .int .i64 r.day, .int .i64 r.shown, .int .i64 r.err, .int .i64 r.bare, .int .i64 r.air.lo, .int .i64 r.air.hi, .int .i64 r.rate.lo, .int .i64 r.rate.hi, .int .i64 r.deep, .bool r.broken] 69)).alloc (.cells #[.int .i64 q.k, .int .i64 q.lag, .int .i64 q.sq] 80)).alloc (.cells #[.int .i64 0, .int .i64 0] 23))
 generalize ((w.alloc (.cells #[.int .i64 t.g.base, .slice Ab t.g.bands.length cb, .slice Ad t.g.depths.length cd, .int .i64 t.g.blo, .int .i64 t.g.bhi, .int .i64 t.k.lo, .int .i64 t.k.hi, .int .i64 t.lag.lo, .int .i64 t.lag.hi, .int .i64 t.sq.lo, .int .i64 t.sq.hi, .int .i64 t.term, .int .i64 r.day, .int .i64 r.shown, .int .i64 r.err, .int .i64 r.bare, .int .i64 r.air.lo, .int .i64 r.air.hi, .int .i64 r.rate.lo, .int .i64 r.rate.hi, .int .i64 r.deep, .bool r.broken] 69)).alloc (.cells #[.int .i64 q.k, .int .i64 q.lag, .int .i64 q.sq] 80)).alloc (.cells #[.int .i64 0, .int .i64 0] 23) = V at *
 have a14 : V.cell? ⟨w.heap.size, 14, none⟩ = some (.int .i64 r.err) := q1.cell 14
 have a16 : V.cell? ⟨w.heap.size, 16, none⟩ = some (.int .i64 r.air.lo) := q1.cell 16
 have a17 : V.cell? ⟨w.heap.size, 17, none⟩ = some (.int .i64 r.air.hi) := q1.cell 17
 have la := q1.lt
 have b0 : V.cell? ⟨w.heap.size + 1, 0, none⟩ = some (.int .i64 q.k) := q2.cell 0
 have b1 : V.cell? ⟨w.heap.size + 1, 1, none⟩ = some (.int .i64 q.lag) := q2.cell 1
 have b2 : V.cell? ⟨w.heap.size + 1, 2, none⟩ = some (.int .i64 q.sq) := q2.cell 2
 have lb := q2.lt
 go_wp2_with fail
 refine wp_region_ext (by kernel_rfl) (by kernel_rfl) ?_
 refine wpQuiet_load_row rfl 69 _ rfl _ rfl 69 _ (0, 0) _ q1.ex Try.underlying69 rfl (by kernel_rfl) ?_
 simp only [Act.put, List.setIfInBounds_toArray, List.set_cons_zero, List.set_cons_succ]
 repeat (go_big_quiet_step ((go_at_call 30; first | exact Calls.ext_of (without_any t Ab Ad cb cd r q _ _ _ _ hr hq ha1 hra (by omega)) | exact Calls.ext_of (without_any t Ab Ad cb cd r q _ _ _ _ hr hq ha2 hra (by omega)))))
 refine wpQuiet_load_row rfl 69 _ rfl _ rfl 69 _ (0, 0) _ q1.ex Try.underlying69 rfl (by kernel_rfl) ?_
 simp only [Act.put, List.setIfInBounds_toArray, List.set_cons_zero, List.set_cons_succ]
 repeat (go_big_quiet_step ((go_at_call 30; first | exact Calls.ext_of (without_any t Ab Ad cb cd r q _ _ _ _ hr hq ha1 hra (by omega)) | exact Calls.ext_of (without_any t Ab Ad cb cd r q _ _ _ _ hr hq ha2 hra (by omega)))))
 refine wpQuiet_nil ?_; intro _ hw'; obtain ⟨X, rfl⟩ := hw'
 clear b0 b1 b2 lb
 clear a14 a16 a17 la
 replace q1 := q1.below X.h q1.lt
 replace q2 := q2.below X.h q2.lt
 replace q3 := q3.below X.h q3.lt
 have B_X.W := ex_trans hb1 X.h
 generalize X.W = V2 at *
 go_wp2_with fail
 have a14 : V2.cell? ⟨w.heap.size, 14, none⟩ = some (.int .i64 r.err) := q1.cell 14
 have la := q1.lt
 generalize hA : woP r q r.air.lo rate 0 = x at *
 generalize hB : woP r q r.air.hi rate 0 = y at *
 have HA := Lib.hid hA
 have HB := Lib.hid hB
 clear hA hB
 refine wp_region_ext_tq 17 (.quiet 0 (.quiet 1 (.quiet 4 (.quiet 5 (.quiet 6 (.quiet 8 (.quiet 9 (.quiet 12 (.quiet 13 (.quiet 14 (.fork 2 (.fork 3 (.quiet 7 (.loud 10 (.loud 11 (.quiet 15 (.quiet 16 .done))))) 10 (.loud 3 (.quiet 7 (.loud 11 (.quiet 15 (.quiet 16 .done)))))) 10 (.loud 2 (.loud 3 (.quiet 7 (.loud 11 (.quiet 15 (.quiet 16 .done))))))))))))))))) (by kernel_rfl) (by kernel_rfl) (by intro d _ _ _ _ h; cases d <;> exact h) ?_
 have D0 := (Below.refl V2.heap.size V2).drew
 repeat (refine tq_quiet rfl ?_; go_big_quiet_step (fail); refine wpQuiet_nil ?_)
 refine tq_fork rfl rfl ?_ ?_
 ·
  go_wp2_with fail
  have N1 := ex_alloc (Below.refl V2.heap.size V2) (.cells #[.int .i64 (x), .int .i64 (y)] 3)
  have b1 : Blk (V2.alloc (.cells #[.int .i64 (x), .int .i64 (y)] 3)) (V2.heap.size) 3 #[.int .i64 (x), .int .i64 (y)] := Blk.new' _ _ _ (by simp)
  refine ⟨inEx N1.drew, ?_⟩
  repeat (refine tq_quiet rfl ?_; go_big_quiet_step (fail); refine wpQuiet_nil ?_)
  refine tq_fork rfl rfl ?_ ?_
  ·
   go_wp2_with fail
   refine (sm_least2 _ _ _ _ _ b1.drew).mono ?_
   rintro e w' ⟨rfl, rfl⟩
   go_wp2_with fail
   refine ⟨inEx N1.drew, ?_⟩
   repeat (refine tq_quiet rfl ?_; go_big_quiet_step (fail); refine wpQuiet_nil ?_)
   refine tq_loud rfl ?_
   go_wp2_with fail
   have N2 := ex_alloc N1 (.cells #[.int .i64 (x), .int .i64 (y)] 3)
   have b2 : Blk ((V2.alloc (.cells #[.int .i64 (x), .int .i64 (y)] 3)).alloc (.cells #[.int .i64 (x), .int .i64 (y)] 3)) (V2.heap.size + 1) 3 #[.int .i64 (x), .int .i64 (y)] := Blk.new' _ _ _ (by simp)
   replace b1 := b1.alloc (.cells #[.int .i64 (x), .int .i64 (y)] 3)
   refine ⟨inEx N2.drew, ?_⟩
   repeat (refine tq_quiet rfl ?_; go_big_quiet_step (fail); refine wpQuiet_nil ?_)
   refine tq_loud rfl ?_
   go_wp2_with fail
   refine (sm_greatest2 _ _ _ _ _ b2.drew).mono ?_
   rintro e w' ⟨rfl, rfl⟩
   go_wp2_with fail
   refine ⟨inEx N2.drew, ?_⟩
   repeat (refine tq_quiet rfl ?_; go_big_quiet_step (fail); refine wpQuiet_nil ?_)
   refine tq_done (r := [_]) rfl ?_
   replace q3 := q3.below N2.drew q3.lt
   have B_V1 := ex_trans B_X.W N2.drew
   clear a14 la
   clear D0 N2 b2 N1 b1
   generalize ((V2.alloc (.cells #[.int .i64 (x), .int .i64 (y)] 3)).alloc (.cells #[.int .i64 (x), .int .i64 (y)] 3)).drew = V1 at *
   have m0 := q3.cell 0
   have m2 := q3.cell 1
   simp at m0 m2
   have mf := q3.frozen0
   have ml := q3.lt
   have m3 := (q3.set_ 0 (.int .i64 (min x y - r.err))).set_ 1 (.int .i64 (max x y + r.err))
   simp only [List.setIfInBounds_toArray, List.set_cons_zero, List.set_cons_succ] at m3
   have e0 : w.heap.size ≤ w.heap.size + 1 + 1 := by omega
   go_wp2
   refine bodyPost_ret (results_cell_row rfl _ _ _ 23 #[.int .i64 (min x y - r.err), .int .i64 (max x y + r.err)] (0, 0) _ rfl m3 rfl rfl rfl) rfl ?_
   rw [← HA.out, ← HB.out]
   exact ⟨rfl, ex_set (p := ⟨w.heap.size + 1 + 1, 1, none⟩) (ex_set (p := ⟨w.heap.size + 1 + 1, 0, none⟩) B_V1 e0 _) e0 _⟩
  ·
   go_wp2_with fail
   have N2 := ex_alloc N1 (.cells #[.int .i64 (x), .int .i64 (y)] 3)
   have b2 : Blk ((V2.alloc (.cells #[.int .i64 (x), .int .i64 (y)] 3)).alloc (.cells #[.int .i64 (x), .int .i64 (y)] 3)) (V2.heap.size + 1) 3 #[.int .i64 (x), .int .i64 (y)] := Blk.new' _ _ _ (by simp)
   replace b1 := b1.alloc (.cells #[.int .i64 (x), .int .i64 (y)] 3)
   refine ⟨inEx N2.drew, ?_⟩
   repeat (refine tq_quiet rfl ?_; go_big_quiet_step (fail); refine wpQuiet_nil ?_)
   refine tq_loud rfl ?_
   go_wp2_with fail
   refine (sm_least2 _ _ _ _ _ b1.drew).mono ?_
   rintro e w' ⟨rfl, rfl⟩
   go_wp2_with fail
   refine ⟨inEx N2.drew, ?_⟩
   repeat (refine tq_quiet rfl ?_; go_big_quiet_step (fail); refine wpQuiet_nil ?_)
   refine tq_loud rfl ?_
   go_wp2_with fail
   refine (sm_greatest2 _ _ _ _ _ b2.drew).mono ?_
   rintro e w' ⟨rfl, rfl⟩
   go_wp2_with fail
   refine ⟨inEx N2.drew, ?_⟩
   repeat (refine tq_quiet rfl ?_; go_big_quiet_step (fail); refine wpQuiet_nil ?_)
   refine tq_done (r := [_]) rfl ?_
   replace q3 := q3.below N2.drew q3.lt
   have B_V2 := ex_trans B_X.W N2.drew
   clear a14 la
   clear D0 N2 b2 N1 b1
   generalize ((V2.alloc (.cells #[.int .i64 (x), .int .i64 (y)] 3)).alloc (.cells #[.int .i64 (x), .int .i64 (y)] 3)).drew = V2 at *
   have m0 := q3.cell 0
   have m2 := q3.cell 1
   simp at m0 m2
   have mf := q3.frozen0
   have ml := q3.lt
   have m3 := (q3.set_ 0 (.int .i64 (min x y - r.err))).set_ 1 (.int .i64 (max x y + r.err))
   simp only [List.setIfInBounds_toArray, List.set_cons_zero, List.set_cons_succ] at m3
   have e0 : w.heap.size ≤ w.heap.size + 1 + 1 := by omega
   go_wp2
   refine bodyPost_ret (results_cell_row rfl _ _ _ 23 #[.int .i64 (min x y - r.err), .int .i64 (max x y + r.err)] (0, 0) _ rfl m3 rfl rfl rfl) rfl ?_
   rw [← HA.out, ← HB.out]
   exact ⟨rfl, ex_set (p := ⟨w.heap.size + 1 + 1, 1, none⟩) (ex_set (p := ⟨w.heap.size + 1 + 1, 0, none⟩) B_V2 e0 _) e0 _⟩
 ·
  go_wp2_with fail
  have N2 := ex_alloc (Below.refl V2.heap.size V2) (.cells #[.int .i64 (x), .int .i64 (y)] 3)
  have b2 : Blk (V2.alloc (.cells #[.int .i64 (x), .int .i64 (y)] 3)) (V2.heap.size) 3 #[.int .i64 (x), .int .i64 (y)] := Blk.new' _ _ _ (by simp)
  refine ⟨inEx N2.drew, ?_⟩
  repeat (refine tq_quiet rfl ?_; go_big_quiet_step (fail); refine wpQuiet_nil ?_)
  refine tq_loud rfl ?_
  go_wp2_with fail
  have N1 := ex_alloc N2 (.cells #[.int .i64 (x), .int .i64 (y)] 3)
  have b1 : Blk ((V2.alloc (.cells #[.int .i64 (x), .int .i64 (y)] 3)).alloc (.cells #[.int .i64 (x), .int .i64 (y)] 3)) (V2.heap.size + 1) 3 #[.int .i64 (x), .int .i64 (y)] := Blk.new' _ _ _ (by simp)
  replace b2 := b2.alloc (.cells #[.int .i64 (x), .int .i64 (y)] 3)
  refine ⟨inEx N1.drew, ?_⟩
  repeat (refine tq_quiet rfl ?_; go_big_quiet_step (fail); refine wpQuiet_nil ?_)
  refine tq_loud rfl ?_
  go_wp2_with fail
  refine (sm_least2 _ _ _ _ _ b1.drew).mono ?_
  rintro e w' ⟨rfl, rfl⟩
  go_wp2_with fail
  refine ⟨inEx N1.drew, ?_⟩
  repeat (refine tq_quiet rfl ?_; go_big_quiet_step (fail); refine wpQuiet_nil ?_)
  refine tq_loud rfl ?_
  go_wp2_with fail
  refine (sm_greatest2 _ _ _ _ _ b2.drew).mono ?_
  rintro e w' ⟨rfl, rfl⟩
  go_wp2_with fail
  refine ⟨inEx N1.drew, ?_⟩
  repeat (refine tq_quiet rfl ?_; go_big_quiet_step (fail); refine wpQuiet_nil ?_)
  refine tq_done (r := [_]) rfl ?_
  replace q3 := q3.below N1.drew q3.lt
  have B_V3 := ex_trans B_X.W N1.drew
  clear a14 la
  clear D0 N1 b1 N2 b2
  generalize ((V2.alloc (.cells #[.int .i64 (x), .int .i64 (y)] 3)).alloc (.cells #[.int .i64 (x), .int .i64 (y)] 3)).drew = V3 at *
  have m0 := q3.cell 0
  have m2 := q3.cell 1
  simp at m0 m2
  have mf := q3.frozen0
  have ml := q3.lt
  have m3 := (q3.set_ 0 (.int .i64 (min x y - r.err))).set_ 1 (.int .i64 (max x y + r.err))
  simp only [List.setIfInBounds_toArray, List.set_cons_zero, List.set_cons_succ] at m3
  have e0 : w.heap.size ≤ w.heap.size + 1 + 1 := by omega
  go_wp2
  refine bodyPost_ret (results_cell_row rfl _ _ _ 23 #[.int .i64 (min x y - r.err), .int .i64 (max x y + r.err)] (0, 0) _ rfl m3 rfl rfl rfl) rfl ?_
  rw [← HA.out, ← HB.out]
  exact ⟨rfl, ex_set (p := ⟨w.heap.size + 1 + 1, 1, none⟩) (ex_set (p := ⟨w.heap.size + 1 + 1, 0, none⟩) B_V3 e0 _) e0 _⟩

end Go.Proofs.Ytkaogjhnogkcdaa
end

section
namespace Go.Proofs.Ytkaogjhnogkcdaa
open Go.RowKit
attribute [local go_sem] Ex.cell? Ex.frozen?

theorem Fr.go {R : Nat → Prop} {a w w' : World} (h : Fr R a w) (hb : Below w.heap.size w w') : Fr R a w' := h.trans (Fr.below (R := fun _ => False) hb) (fun _ _ hx => hx.elim)
def fstI (b : Bool) (x y : Int) : Int := if b then x else y
set_option maxRecDepth 100000 in
set_option maxHeartbeats 3200000 in
theorem sm_add (a b lo hi : Int) (fst : Bool) (pf po : Nat) (w : World) (hne : pf ≠ po) (qf : Blk w pf 4 #[.bool fst]) (qo : Blk w po 23 #[.int .i64 lo, .int .i64 hi]) :
  Calls Try.prog 33 #[.agg #[.int .i64 a, .int .i64 b], .pointer (some ⟨pf, 0, none⟩), .pointer (some ⟨po, 0, none⟩)] w fun e w' => e = .returned (.tuple #[]) ∧
   Blk w' pf 4 #[.bool false] ∧ Blk w' po 23 #[.int .i64 (min (fstI fst a lo) a), .int .i64 (max (fstI fst b hi) b)] ∧ Fr (fun k => k = pf ∨ k = po) w w' := by
 have hne2 : po ≠ pf := fun e => hne e.symm
 have lf := qf.lt
 have lo_ := qo.lt
 cases fst
 ·
  have f0 := qf.cell 0
  have o0 := qo.cell 0
  have o1 := qo.cell 1
  have ff := qf.frozen0
  have fo := qo.frozen0
  simp at f0 o0 o1
  have g0 : Fr (fun k => k = pf ∨ k = po) w w := Fr.refl _ _
  have y1 := qo
  have y2 := qf
  have hb1 := ex_alloc (Below.refl (w).heap.size (w)) (.cells #[.int .i64 a, .int .i64 b] 23)
  have q3 : Blk (w.alloc (.cells #[.int .i64 a, .int .i64 b] 23)) w.heap.size 23 #[.int .i64 a, .int .i64 b] := Blk.new' _ _ _ (by simp)
  replace y1 := y1.alloc (.cells #[.int .i64 a, .int .i64 b] 23)
  replace y2 := y2.alloc (.cells #[.int .i64 a, .int .i64 b] 23)
  replace g0 := g0.go hb1
  go_enter Try.func33, Try.ntmps33
  go_upto_region 3 with fail
  show Code.wp _ _ _ _ (w.alloc (.cells #[.int .i64 a, .int .i64 b] 23))
  clear hb1 f0 o0 o1 ff fo
  generalize w.alloc (.cells #[.int .i64 a, .int .i64 b] 23) = V at *
  have u0 : V.cell? ⟨po, 0, none⟩ = some ((.int .i64 lo)) := y1.cell 0
  have u1 : V.cell? ⟨po, 1, none⟩ = some ((.int .i64 hi)) := y1.cell 1
  have lu := y1.lt
  have r0 : V.cell? ⟨w.heap.size, 0, none⟩ = some (.int .i64 a) := q3.cell 0
  have r1 : V.cell? ⟨w.heap.size, 1, none⟩ = some (.int .i64 b) := q3.cell 1
  have lr := q3.lt
  go_wp2_with fail
  refine wp_region_ext_tq 13 (.quiet 0 (.quiet 1 (.quiet 2 (.quiet 3 (.quiet 6 (.quiet 7 (.quiet 8 (.quiet 9 (.fork 4 (.fork 5 (.loud 10 (.loud 11 (.quiet 12 .done))) 10 (.loud 5 (.loud 11 (.quiet 12 .done)))) 10 (.loud 4 (.loud 5 (.loud 11 (.quiet 12 .done))))))))))))) (by kernel_rfl) (by kernel_rfl) (by intro d _ _ _ _ h; cases d <;> exact h) ?_
  have D0 := (Below.refl V.heap.size V).drew
  repeat (refine tq_quiet rfl ?_; go_big_quiet_step (fail); refine wpQuiet_nil ?_)
  refine tq_fork rfl rfl ?_ ?_
  ·
   go_wp2_with fail
   have N1 := ex_alloc (Below.refl V.heap.size V) (.cells #[.int .i64 (lo), .int .i64 (a)] 3)
   have b1 : Blk (V.alloc (.cells #[.int .i64 (lo), .int .i64 (a)] 3)) (V.heap.size) 3 #[.int .i64 (lo), .int .i64 (a)] := Blk.new' _ _ _ (by simp)
   refine ⟨inEx N1.drew, ?_⟩
   repeat (refine tq_quiet rfl ?_; go_big_quiet_step (fail); refine wpQuiet_nil ?_)
   refine tq_fork rfl rfl ?_ ?_
   ·
    go_wp2_with fail
    refine (sm_least2 _ _ _ _ _ b1.drew).mono ?_
    rintro e w' ⟨rfl, rfl⟩
    go_wp2_with fail
    refine ⟨inEx N1.drew, ?_⟩
    repeat (refine tq_quiet rfl ?_; go_big_quiet_step (fail); refine wpQuiet_nil ?_)
    refine tq_loud rfl ?_
    go_wp2_with fail
    have N2 := ex_alloc N1 (.cells #[.int .i64 (hi), .int .i64 (b)] 3)
    have b2 : Blk ((V.alloc (.cells #[.int .i64 (lo), .int .i64 (a)] 3)).alloc (.cells #[.int .i64 (hi), .int .i64 (b)] 3)) (V.heap.size + 1) 3 #[.int .i64 (hi), .int .i64 (b)] := Blk.new' _ _ _ (by simp)
    replace b1 := b1.alloc (.cells #[.int .i64 (hi), .int .i64 (b)] 3)
    refine ⟨inEx N2.drew, ?_⟩
    repeat (refine tq_quiet rfl ?_; go_big_quiet_step (fail); refine wpQuiet_nil ?_)
    refine tq_loud rfl ?_
    go_wp2_with fail
    refine (sm_greatest2 _ _ _ _ _ b2.drew).mono ?_
    rintro e w' ⟨rfl, rfl⟩
    go_wp2_with fail
    refine ⟨inEx N2.drew, ?_⟩
    repeat (refine tq_quiet rfl ?_; go_big_quiet_step (fail); refine wpQuiet_nil ?_)
    refine tq_done (r := [_]) rfl ?_
    replace y1 := y1.below N2.drew y1.lt
    replace y2 := y2.below N2.drew y2.lt
    replace q3 := q3.below N2.drew q3.lt
    replace g0 := g0.go N2.drew
    clear u0 u1 lu
    clear r0 r1 lr
    clear D0 N2 b2 N1 b1
    generalize ((V.alloc (.cells #[.int .i64 (lo), .int .i64 (a)] 3)).alloc (.cells #[.int .i64 (hi), .int .i64 (b)] 3)).drew = V1 at *
    have m0 := y1.cell 0
    have m2 := y1.cell 1
    simp at m0 m2
    have mf := y1.frozen0
    have ml := y1.lt
    have m3 := (y1.set_ 0 (.int .i64 (min lo a))).set_ 1 (.int .i64 (max hi b))
    simp only [List.setIfInBounds_toArray, List.set_cons_zero, List.set_cons_succ] at m3
    have m4 := (y2.far (p := ⟨po, 0, none⟩) hne (.int .i64 (min lo a))).far (p := ⟨po, 1, none⟩) hne (.int .i64 (max hi b))
    have g1 := (g0.andSet (b := po) (i := 0) (v := .int .i64 (min lo a)) (.inr rfl)).andSet (b := po) (i := 1) (v := .int .i64 (max hi b)) (.inr rfl)
    go_wp2
    refine bodyPost_end (v := .tuple #[]) (results_none rfl _ _ _) rfl ?_
    exact ⟨rfl, m4, m3, g1⟩
   ·
    go_wp2_with fail
    have N2 := ex_alloc N1 (.cells #[.int .i64 (hi), .int .i64 (b)] 3)
    have b2 : Blk ((V.alloc (.cells #[.int .i64 (lo), .int .i64 (a)] 3)).alloc (.cells #[.int .i64 (hi), .int .i64 (b)] 3)) (V.heap.size + 1) 3 #[.int .i64 (hi), .int .i64 (b)] := Blk.new' _ _ _ (by simp)
    replace b1 := b1.alloc (.cells #[.int .i64 (hi), .int .i64 (b)] 3)
    refine ⟨inEx N2.drew, ?_⟩
    repeat (refine tq_quiet rfl ?_; go_big_quiet_step (fail); refine wpQuiet_nil ?_)
    refine tq_loud rfl ?_
    go_wp2_with fail
    refine (sm_least2 _ _ _ _ _ b1.drew).mono ?_
    rintro e w' ⟨rfl, rfl⟩
    go_wp2_with fail
    refine ⟨inEx N2.drew, ?_⟩
    repeat (refine tq_quiet rfl ?_; go_big_quiet_step (fail); refine wpQuiet_nil ?_)
    refine tq_loud rfl ?_
    go_wp2_with fail
    refine (sm_greatest2 _ _ _ _ _ b2.drew).mono ?_
    rintro e w' ⟨rfl, rfl⟩
    go_wp2_with fail
    refine ⟨inEx N2.drew, ?_⟩
    repeat (refine tq_quiet rfl ?_; go_big_quiet_step (fail); refine wpQuiet_nil ?_)
    refine tq_done (r := [_]) rfl ?_
    replace y1 := y1.below N2.drew y1.lt
    replace y2 := y2.below N2.drew y2.lt
    replace q3 := q3.below N2.drew q3.lt
    replace g0 := g0.go N2.drew
    clear u0 u1 lu
    clear r0 r1 lr
    clear D0 N2 b2 N1 b1
    generalize ((V.alloc (.cells #[.int .i64 (lo), .int .i64 (a)] 3)).alloc (.cells #[.int .i64 (hi), .int .i64 (b)] 3)).drew = V2 at *
    have m0 := y1.cell 0
    have m2 := y1.cell 1
    simp at m0 m2
    have mf := y1.frozen0
    have ml := y1.lt
    have m3 := (y1.set_ 0 (.int .i64 (min lo a))).set_ 1 (.int .i64 (max hi b))
    simp only [List.setIfInBounds_toArray, List.set_cons_zero, List.set_cons_succ] at m3
    have m4 := (y2.far (p := ⟨po, 0, none⟩) hne (.int .i64 (min lo a))).far (p := ⟨po, 1, none⟩) hne (.int .i64 (max hi b))
    have g1 := (g0.andSet (b := po) (i := 0) (v := .int .i64 (min lo a)) (.inr rfl)).andSet (b := po) (i := 1) (v := .int .i64 (max hi b)) (.inr rfl)
    go_wp2
    refine bodyPost_end (v := .tuple #[]) (results_none rfl _ _ _) rfl ?_
    exact ⟨rfl, m4, m3, g1⟩
  ·
   go_wp2_with fail
   have N2 := ex_alloc (Below.refl V.heap.size V) (.cells #[.int .i64 (hi), .int .i64 (b)] 3)
   have b2 : Blk (V.alloc (.cells #[.int .i64 (hi), .int .i64 (b)] 3)) (V.heap.size) 3 #[.int .i64 (hi), .int .i64 (b)] := Blk.new' _ _ _ (by simp)
   refine ⟨inEx N2.drew, ?_⟩
   repeat (refine tq_quiet rfl ?_; go_big_quiet_step (fail); refine wpQuiet_nil ?_)
   refine tq_loud rfl ?_
   go_wp2_with fail
   have N1 := ex_alloc N2 (.cells #[.int .i64 (lo), .int .i64 (a)] 3)
   have b1 : Blk ((V.alloc (.cells #[.int .i64 (hi), .int .i64 (b)] 3)).alloc (.cells #[.int .i64 (lo), .int .i64 (a)] 3)) (V.heap.size + 1) 3 #[.int .i64 (lo), .int .i64 (a)] := Blk.new' _ _ _ (by simp)
   replace b2 := b2.alloc (.cells #[.int .i64 (lo), .int .i64 (a)] 3)
   refine ⟨inEx N1.drew, ?_⟩
   repeat (refine tq_quiet rfl ?_; go_big_quiet_step (fail); refine wpQuiet_nil ?_)
   refine tq_loud rfl ?_
   go_wp2_with fail
   refine (sm_least2 _ _ _ _ _ b1.drew).mono ?_
   rintro e w' ⟨rfl, rfl⟩
   go_wp2_with fail
   refine ⟨inEx N1.drew, ?_⟩
   repeat (refine tq_quiet rfl ?_; go_big_quiet_step (fail); refine wpQuiet_nil ?_)
   refine tq_loud rfl ?_
   go_wp2_with fail
   refine (sm_greatest2 _ _ _ _ _ b2.drew).mono ?_
   rintro e w' ⟨rfl, rfl⟩
   go_wp2_with fail
   refine ⟨inEx N1.drew, ?_⟩
   repeat (refine tq_quiet rfl ?_; go_big_quiet_step (fail); refine wpQuiet_nil ?_)
   refine tq_done (r := [_]) rfl ?_
   replace y1 := y1.below N1.drew y1.lt
   replace y2 := y2.below N1.drew y2.lt
   replace q3 := q3.below N1.drew q3.lt
   replace g0 := g0.go N1.drew
   clear u0 u1 lu
   clear r0 r1 lr
   clear D0 N1 b1 N2 b2
   generalize ((V.alloc (.cells #[.int .i64 (hi), .int .i64 (b)] 3)).alloc (.cells #[.int .i64 (lo), .int .i64 (a)] 3)).drew = V3 at *
   have m0 := y1.cell 0
   have m2 := y1.cell 1
   simp at m0 m2
   have mf := y1.frozen0
   have ml := y1.lt
   have m3 := (y1.set_ 0 (.int .i64 (min lo a))).set_ 1 (.int .i64 (max hi b))
   simp only [List.setIfInBounds_toArray, List.set_cons_zero, List.set_cons_succ] at m3
   have m4 := (y2.far (p := ⟨po, 0, none⟩) hne (.int .i64 (min lo a))).far (p := ⟨po, 1, none⟩) hne (.int .i64 (max hi b))
   have g1 := (g0.andSet (b := po) (i := 0) (v := .int .i64 (min lo a)) (.inr rfl)).andSet (b := po) (i := 1) (v := .int .i64 (max hi b)) (.inr rfl)
   go_wp2
   refine bodyPost_end (v := .tuple #[]) (results_none rfl _ _ _) rfl ?_
   exact ⟨rfl, m4, m3, g1⟩
 ·
  have f0 := qf.cell 0
  have o0 := qo.cell 0
  have o1 := qo.cell 1
  have ff := qf.frozen0
  have fo := qo.frozen0
  simp at f0 o0 o1
  have g0 : Fr (fun k => k = pf ∨ k = po) w (((w.setCell ⟨po, 0, none⟩ (.int .i64 a)).setCell ⟨po, 1, none⟩ (.int .i64 b)).setCell ⟨pf, 0, none⟩ (.bool false)) := (((Fr.refl (fun k => k = pf ∨ k = po) w).andSet (.inr rfl)).andSet (.inr rfl)).andSet (.inl rfl)
  have y1 := (qo.set_ 0 (.int .i64 a)).set_ 1 (.int .i64 b)
  simp only [List.setIfInBounds_toArray, List.set_cons_zero, List.set_cons_succ] at y1
  replace y1 := y1.far (p := ⟨pf, 0, none⟩) hne2 (.bool false)
  have y2 := ((qf.far (p := ⟨po, 0, none⟩) hne (.int .i64 a)).far (p := ⟨po, 1, none⟩) hne (.int .i64 b)).set_ 0 (.bool false)
  simp only [List.setIfInBounds_toArray, List.set_cons_zero, List.set_cons_succ] at y2
  have hb1 := ex_alloc (Below.refl (((w.setCell ⟨po, 0, none⟩ (.int .i64 a)).setCell ⟨po, 1, none⟩ (.int .i64 b)).setCell ⟨pf, 0, none⟩ (.bool false)).heap.size (((w.setCell ⟨po, 0, none⟩ (.int .i64 a)).setCell ⟨po, 1, none⟩ (.int .i64 b)).setCell ⟨pf, 0, none⟩ (.bool false))) (.cells #[.int .i64 a, .int .i64 b] 23)
  have q3 : Blk ((((w.setCell ⟨po, 0, none⟩ (.int .i64 a)).setCell ⟨po, 1, none⟩ (.int .i64 b)).setCell ⟨pf, 0, none⟩ (.bool false)).alloc (.cells #[.int .i64 a, .int .i64 b] 23)) w.heap.size 23 #[.int .i64 a, .int .i64 b] := Blk.new' _ _ _ (by simp)
  replace y1 := y1.alloc (.cells #[.int .i64 a, .int .i64 b] 23)
  replace y2 := y2.alloc (.cells #[.int .i64 a, .int .i64 b] 23)
  replace g0 := g0.go hb1
  go_enter Try.func33, Try.ntmps33
  go_upto_region 3 with fail
  show Code.wp _ _ _ _ ((((w.setCell ⟨po, 0, none⟩ (.int .i64 a)).setCell ⟨po, 1, none⟩ (.int .i64 b)).setCell ⟨pf, 0, none⟩ (.bool false)).alloc (.cells #[.int .i64 a, .int .i64 b] 23))
  clear hb1 f0 o0 o1 ff fo
  generalize (((w.setCell ⟨po, 0, none⟩ (.int .i64 a)).setCell ⟨po, 1, none⟩ (.int .i64 b)).setCell ⟨pf, 0, none⟩ (.bool false)).alloc (.cells #[.int .i64 a, .int .i64 b] 23) = V at *
  have u0 : V.cell? ⟨po, 0, none⟩ = some ((.int .i64 a)) := y1.cell 0
  have u1 : V.cell? ⟨po, 1, none⟩ = some ((.int .i64 b)) := y1.cell 1
  have lu := y1.lt
  have r0 : V.cell? ⟨w.heap.size, 0, none⟩ = some (.int .i64 a) := q3.cell 0
  have r1 : V.cell? ⟨w.heap.size, 1, none⟩ = some (.int .i64 b) := q3.cell 1
  have lr := q3.lt
  go_wp2_with fail
  refine wp_region_ext_tq 13 (.quiet 0 (.quiet 1 (.quiet 2 (.quiet 3 (.quiet 6 (.quiet 7 (.quiet 8 (.quiet 9 (.fork 4 (.fork 5 (.loud 10 (.loud 11 (.quiet 12 .done))) 10 (.loud 5 (.loud 11 (.quiet 12 .done)))) 10 (.loud 4 (.loud 5 (.loud 11 (.quiet 12 .done))))))))))))) (by kernel_rfl) (by kernel_rfl) (by intro d _ _ _ _ h; cases d <;> exact h) ?_
  have D0 := (Below.refl V.heap.size V).drew
  repeat (refine tq_quiet rfl ?_; go_big_quiet_step (fail); refine wpQuiet_nil ?_)
  refine tq_fork rfl rfl ?_ ?_
  ·
   go_wp2_with fail
   have N1 := ex_alloc (Below.refl V.heap.size V) (.cells #[.int .i64 (a), .int .i64 (a)] 3)
   have b1 : Blk (V.alloc (.cells #[.int .i64 (a), .int .i64 (a)] 3)) (V.heap.size) 3 #[.int .i64 (a), .int .i64 (a)] := Blk.new' _ _ _ (by simp)
   refine ⟨inEx N1.drew, ?_⟩
   repeat (refine tq_quiet rfl ?_; go_big_quiet_step (fail); refine wpQuiet_nil ?_)
   refine tq_fork rfl rfl ?_ ?_
   ·
    go_wp2_with fail
    refine (sm_least2 _ _ _ _ _ b1.drew).mono ?_
    rintro e w' ⟨rfl, rfl⟩
    go_wp2_with fail
    refine ⟨inEx N1.drew, ?_⟩
    repeat (refine tq_quiet rfl ?_; go_big_quiet_step (fail); refine wpQuiet_nil ?_)
    refine tq_loud rfl ?_
    go_wp2_with fail
    have N2 := ex_alloc N1 (.cells #[.int .i64 (b), .int .i64 (b)] 3)
    have b2 : Blk ((V.alloc (.cells #[.int .i64 (a), .int .i64 (a)] 3)).alloc (.cells #[.int .i64 (b), .int .i64 (b)] 3)) (V.heap.size + 1) 3 #[.int .i64 (b), .int .i64 (b)] := Blk.new' _ _ _ (by simp)
    replace b1 := b1.alloc (.cells #[.int .i64 (b), .int .i64 (b)] 3)
    refine ⟨inEx N2.drew, ?_⟩
    repeat (refine tq_quiet rfl ?_; go_big_quiet_step (fail); refine wpQuiet_nil ?_)
    refine tq_loud rfl ?_
    go_wp2_with fail
    refine (sm_greatest2 _ _ _ _ _ b2.drew).mono ?_
    rintro e w' ⟨rfl, rfl⟩
    go_wp2_with fail
    refine ⟨inEx N2.drew, ?_⟩
    repeat (refine tq_quiet rfl ?_; go_big_quiet_step (fail); refine wpQuiet_nil ?_)
    refine tq_done (r := [_]) rfl ?_
    replace y1 := y1.below N2.drew y1.lt
    replace y2 := y2.below N2.drew y2.lt
    replace q3 := q3.below N2.drew q3.lt
    replace g0 := g0.go N2.drew
    clear u0 u1 lu
    clear r0 r1 lr
    clear D0 N2 b2 N1 b1
    generalize ((V.alloc (.cells #[.int .i64 (a), .int .i64 (a)] 3)).alloc (.cells #[.int .i64 (b), .int .i64 (b)] 3)).drew = V4 at *
    have m0 := y1.cell 0
    have m2 := y1.cell 1
    simp at m0 m2
    have mf := y1.frozen0
    have ml := y1.lt
    have m3 := (y1.set_ 0 (.int .i64 (min a a))).set_ 1 (.int .i64 (max b b))
    simp only [List.setIfInBounds_toArray, List.set_cons_zero, List.set_cons_succ] at m3
    have m4 := (y2.far (p := ⟨po, 0, none⟩) hne (.int .i64 (min a a))).far (p := ⟨po, 1, none⟩) hne (.int .i64 (max b b))
    have g1 := (g0.andSet (b := po) (i := 0) (v := .int .i64 (min a a)) (.inr rfl)).andSet (b := po) (i := 1) (v := .int .i64 (max b b)) (.inr rfl)
    simp only [Int.min_self, Int.max_self] at m3 m4 g1
    go_wp2
    refine bodyPost_end (v := .tuple #[]) (results_none rfl _ _ _) rfl ?_
    rw [show min (fstI true a lo) a = a from Int.min_self a, show max (fstI true b hi) b = b from Int.max_self b]
    exact ⟨rfl, m4, m3, g1⟩
   ·
    go_wp2_with fail
    have N2 := ex_alloc N1 (.cells #[.int .i64 (b), .int .i64 (b)] 3)
    have b2 : Blk ((V.alloc (.cells #[.int .i64 (a), .int .i64 (a)] 3)).alloc (.cells #[.int .i64 (b), .int .i64 (b)] 3)) (V.heap.size + 1) 3 #[.int .i64 (b), .int .i64 (b)] := Blk.new' _ _ _ (by simp)
    replace b1 := b1.alloc (.cells #[.int .i64 (b), .int .i64 (b)] 3)
    refine ⟨inEx N2.drew, ?_⟩
    repeat (refine tq_quiet rfl ?_; go_big_quiet_step (fail); refine wpQuiet_nil ?_)
    refine tq_loud rfl ?_
    go_wp2_with fail
    refine (sm_least2 _ _ _ _ _ b1.drew).mono ?_
    rintro e w' ⟨rfl, rfl⟩
    go_wp2_with fail
    refine ⟨inEx N2.drew, ?_⟩
    repeat (refine tq_quiet rfl ?_; go_big_quiet_step (fail); refine wpQuiet_nil ?_)
    refine tq_loud rfl ?_
    go_wp2_with fail
    refine (sm_greatest2 _ _ _ _ _ b2.drew).mono ?_
    rintro e w' ⟨rfl, rfl⟩
    go_wp2_with fail
    refine ⟨inEx N2.drew, ?_⟩
    repeat (refine tq_quiet rfl ?_; go_big_quiet_step (fail); refine wpQuiet_nil ?_)
    refine tq_done (r := [_]) rfl ?_
    replace y1 := y1.below N2.drew y1.lt
    replace y2 := y2.below N2.drew y2.lt
    replace q3 := q3.below N2.drew q3.lt
    replace g0 := g0.go N2.drew
    clear u0 u1 lu
    clear r0 r1 lr
    clear D0 N2 b2 N1 b1
    generalize ((V.alloc (.cells #[.int .i64 (a), .int .i64 (a)] 3)).alloc (.cells #[.int .i64 (b), .int .i64 (b)] 3)).drew = V5 at *
    have m0 := y1.cell 0
    have m2 := y1.cell 1
    simp at m0 m2
    have mf := y1.frozen0
    have ml := y1.lt
    have m3 := (y1.set_ 0 (.int .i64 (min a a))).set_ 1 (.int .i64 (max b b))
    simp only [List.setIfInBounds_toArray, List.set_cons_zero, List.set_cons_succ] at m3
    have m4 := (y2.far (p := ⟨po, 0, none⟩) hne (.int .i64 (min a a))).far (p := ⟨po, 1, none⟩) hne (.int .i64 (max b b))
    have g1 := (g0.andSet (b := po) (i := 0) (v := .int .i64 (min a a)) (.inr rfl)).andSet (b := po) (i := 1) (v := .int .i64 (max b b)) (.inr rfl)
    simp only [Int.min_self, Int.max_self] at m3 m4 g1
    go_wp2
    refine bodyPost_end (v := .tuple #[]) (results_none rfl _ _ _) rfl ?_
    rw [show min (fstI true a lo) a = a from Int.min_self a, show max (fstI true b hi) b = b from Int.max_self b]
    exact ⟨rfl, m4, m3, g1⟩
  ·
   go_wp2_with fail
   have N2 := ex_alloc (Below.refl V.heap.size V) (.cells #[.int .i64 (b), .int .i64 (b)] 3)
   have b2 : Blk (V.alloc (.cells #[.int .i64 (b), .int .i64 (b)] 3)) (V.heap.size) 3 #[.int .i64 (b), .int .i64 (b)] := Blk.new' _ _ _ (by simp)
   refine ⟨inEx N2.drew, ?_⟩
   repeat (refine tq_quiet rfl ?_; go_big_quiet_step (fail); refine wpQuiet_nil ?_)
   refine tq_loud rfl ?_
   go_wp2_with fail
   have N1 := ex_alloc N2 (.cells #[.int .i64 (a), .int .i64 (a)] 3)
   have b1 : Blk ((V.alloc (.cells #[.int .i64 (b), .int .i64 (b)] 3)).alloc (.cells #[.int .i64 (a), .int .i64 (a)] 3)) (V.heap.size + 1) 3 #[.int .i64 (a), .int .i64 (a)] := Blk.new' _ _ _ (by simp)
   replace b2 := b2.alloc (.cells #[.int .i64 (a), .int .i64 (a)] 3)
   refine ⟨inEx N1.drew, ?_⟩
   repeat (refine tq_quiet rfl ?_; go_big_quiet_step (fail); refine wpQuiet_nil ?_)
   refine tq_loud rfl ?_
   go_wp2_with fail
   refine (sm_least2 _ _ _ _ _ b1.drew).mono ?_
   rintro e w' ⟨rfl, rfl⟩
   go_wp2_with fail
   refine ⟨inEx N1.drew, ?_⟩
   repeat (refine tq_quiet rfl ?_; go_big_quiet_step (fail); refine wpQuiet_nil ?_)
   refine tq_loud rfl ?_
   go_wp2_with fail
   refine (sm_greatest2 _ _ _ _ _ b2.drew).mono ?_
   rintro e w' ⟨rfl, rfl⟩
   go_wp2_with fail
   refine ⟨inEx N1.drew, ?_⟩
   repeat (refine tq_quiet rfl ?_; go_big_quiet_step (fail); refine wpQuiet_nil ?_)
   refine tq_done (r := [_]) rfl ?_
   replace y1 := y1.below N1.drew y1.lt
   replace y2 := y2.below N1.drew y2.lt
   replace q3 := q3.below N1.drew q3.lt
   replace g0 := g0.go N1.drew
   clear u0 u1 lu
   clear r0 r1 lr
   clear D0 N1 b1 N2 b2
   generalize ((V.alloc (.cells #[.int .i64 (b), .int .i64 (b)] 3)).alloc (.cells #[.int .i64 (a), .int .i64 (a)] 3)).drew = V6 at *
   have m0 := y1.cell 0
   have m2 := y1.cell 1
   simp at m0 m2
   have mf := y1.frozen0
   have ml := y1.lt
   have m3 := (y1.set_ 0 (.int .i64 (min a a))).set_ 1 (.int .i64 (max b b))
   simp only [List.setIfInBounds_toArray, List.set_cons_zero, List.set_cons_succ] at m3
   have m4 := (y2.far (p := ⟨po, 0, none⟩) hne (.int .i64 (min a a))).far (p := ⟨po, 1, none⟩) hne (.int .i64 (max b b))
   have g1 := (g0.andSet (b := po) (i := 0) (v := .int .i64 (min a a)) (.inr rfl)).andSet (b := po) (i := 1) (v := .int .i64 (max b b)) (.inr rfl)
   simp only [Int.min_self, Int.max_self] at m3 m4 g1
   go_wp2
   refine bodyPost_end (v := .tuple #[]) (results_none rfl _ _ _) rfl ?_
   rw [show min (fstI true a lo) a = a from Int.min_self a, show max (fstI true b hi) b = b from Int.max_self b]
   exact ⟨rfl, m4, m3, g1⟩

end Go.Proofs.Ytkaogjhnogkcdaa
end

section
namespace Go.Proofs.Ytkaogjhnogkcdaa
open Go.RowKit
attribute [local go_sem] Ex.cell? Ex.frozen?

def upd (M : Nat → Nat → Nat → Bool) (d r s : Nat) : Nat → Nat → Nat → Bool := fun d' r' s' => if d' = d ∧ r' = r ∧ s' = s then true else M d' r' s'
section
variable {W W' : World} {q : Nat} {M : Nat → Nat → Nat → Bool}
end

def Known (g : Gl) (h : List Rg) (l : List Ic) (o : Nat → Bool) (M : Nat → Nat → Nat → Bool) (d : Nat) : Prop := ∀ e r s : Nat, e ≤ d → r < 52 → s < 31 → (M e r s = true ↔ Can g h l o e ((r : Int), (s : Int)))
def Blank (M : Nat → Nat → Nat → Bool) (d : Nat) : Prop := ∀ e r s : Nat, d < e → M e r s = false
def Got (g : Gl) (l : List Ic) (o : Nat → Bool) (D : List Int) (d r s : Nat) (c b : Int) (k : Nat) (M : Nat → Nat → Nat → Bool) : Prop :=
  fitsB l o (d : Int) (g.base + ((r : Int) + c) - mx3 ((s : Int) - b) 0 (gI D k)) = true → M (d + 1) ((r : Int) + c).toNat (mx3 ((s : Int) - b) 0 (gI D k)).toNat = true
theorem Got.mono {g : Gl} {l : List Ic} {o : Nat → Bool} {D : List Int} {d r s : Nat} {c b : Int} {k : Nat} {M M' : Nat → Nat → Nat → Bool} (h : Got g l o D d r s c b k M) (hm : ∀ x y, M (d + 1) x y = true → M' (d + 1) x y = true) : Got g l o D d r s c b k M' := fun hf => hm _ _ (h hf)
theorem known_succ {g : Gl} {h : List Rg} {l : List Ic} {o : Nat → Bool} (hok : Ok g h) {D : List Int} {d : Nat} (hd : d < h.length) {M : Nat → Nat → Nat → Bool} (hD : ∀ y : Int, (∃ k, k < D.length ∧ gI D k = y) ↔ ∃ x, ((gR h d).lo ≤ x ∧ x ≤ (gR h d).hi) ∧ y = sinks g x)
    (hk : Known g h l o M d) (hs : ∀ r s : Nat, M (d + 1) r s = true → Can g h l o (d + 1) ((r : Int), (s : Int)))
    (hc : ∀ r s : Nat, r < 49 → s < 31 → M d r s = true → ∀ c b : Int, (creep g d).lo ≤ c → c ≤ (creep g d).hi → g.blo ≤ b → b ≤ g.bhi → ∀ k, k < D.length → Got g l o D d r s c b k M) : Known g h l o M (d + 1) := by
  intro e r s he hr hs'
  rcases Nat.eq_or_lt_of_le he with rfl | hlt
  rotate_left
  · exact hk e r s (by omega) hr hs'
  refine ⟨hs r s, fun hcan => ?_⟩
  obtain ⟨⟨a1, a2⟩, h1, h2, h3⟩ := hcan
  obtain ⟨σ, p, _, e1⟩ := (can_iff hok (by omega)).1 h1
  have hb := path_bd hok p (d := d) (Nat.le_refl _)
  rw [e1] at hb
  simp only at hb
  obtain ⟨x, b, c, hx, hb', hc', ht⟩ := (mem_nextL hok hd).1 h2
  have hnh := hok.nh
  obtain ⟨k, hk1, hk2⟩ := (hD _).2 ⟨x, hx, rfl⟩
  have hm : M d a1.toNat a2.toNat = true := (hk d a1.toNat a2.toNat (Nat.le_refl _) (by omega) (by omega)).2 (by rw [Int.toNat_of_nonneg (by omega), Int.toNat_of_nonneg (by omega)]; exact h1)
  have hg := hc a1.toNat a2.toNat (by omega) (by omega) hm c b hc'.1 hc'.2 hb'.1 hb'.2 k hk1
  unfold Got at hg
  rw [Int.toNat_of_nonneg (by omega), Int.toNat_of_nonneg (by omega), hk2] at hg
  simp only [Prod.mk.injEq] at ht
  obtain ⟨t1, t2⟩ := ht
  rw [← t1, ← t2] at hg
  have := hg (by
    have e2 : g.base + (r : Int) - (s : Int) = zero g ((r : Int), (s : Int)) := rfl
    rw [e2]; exact h3)
  simpa using this
end Go.Proofs.Ytkaogjhnogkcdaa
end

section
namespace Go.Proofs.Ytkaogjhnogkcdaa

section
variable (g : Gl) (h : List Rg) (l : List Ic) (o : Nat → Bool) (D : List Int) (d : Nat)
structure PP (n m : Nat) (c b : Int) (k : Nat) (M : Nat → Nat → Nat → Bool) : Prop where
  known : Known g h l o M d
  blank : Blank M (d + 1)
  sound : ∀ r s : Nat, M (d + 1) r s = true → Can g h l o (d + 1) ((r : Int), (s : Int))
  p2 : ∀ r s : Nat, r < n → s < 31 → M d r s = true → ∀ c b : Int, (creep g d).lo ≤ c → c ≤ (creep g d).hi → g.blo ≤ b → b ≤ g.bhi → ∀ k, k < D.length → Got g l o D d r s c b k M
  p3 : ∀ s : Nat, s < m → M d n s = true → ∀ c b : Int, (creep g d).lo ≤ c → c ≤ (creep g d).hi → g.blo ≤ b → b ≤ g.bhi → ∀ k, k < D.length → Got g l o D d n s c b k M
  p4 : ∀ c' b : Int, (creep g d).lo ≤ c' → c' < c → g.blo ≤ b → b ≤ g.bhi → ∀ k, k < D.length → Got g l o D d n m c' b k M
  p5 : ∀ b' : Int, g.blo ≤ b' → b' < b → ∀ k, k < D.length → Got g l o D d n m c b' k M
  p6 : ∀ k', k' < k → Got g l o D d n m c b k' M
end
section
variable {g : Gl} {h : List Rg} {l : List Ic} {o : Nat → Bool} {D : List Int} {d n m k : Nat} {c b : Int} {M : Nat → Nat → Nat → Bool}
theorem PP.no (p : PP g h l o D d n m c b k M) (hf : fitsB l o (d : Int) (g.base + ((n : Int) + c) - mx3 ((m : Int) - b) 0 (gI D k)) = false) : PP g h l o D d n m c b (k + 1) M :=
  ⟨p.known, p.blank, p.sound, p.p2, p.p3, p.p4, p.p5, fun k' hk' => by
    rcases Nat.lt_succ_iff_lt_or_eq.1 hk' with h1 | h1
    · exact p.p6 k' h1
    · subst h1; intro hf'; rw [hf] at hf'; cases hf'⟩
theorem PP.back (p : PP g h l o D d n m c b D.length M) : PP g h l o D d n m c (b + 1) 0 M :=
  ⟨p.known, p.blank, p.sound, p.p2, p.p3, p.p4, fun b' h1 h2 k hk => by
    rcases Int.lt_or_eq_of_le (show b' ≤ b by omega) with h3 | h3
    · exact p.p5 b' h1 h3 k hk
    · subst h3; exact p.p6 k hk, fun k hk => by omega⟩
theorem PP.creep (p : PP g h l o D d n m c b 0 M) (hb : g.bhi < b) : PP g h l o D d n m (c + 1) g.blo 0 M :=
  ⟨p.known, p.blank, p.sound, p.p2, p.p3, fun c' b' h1 h2 h3 h4 k hk => by
    rcases Int.lt_or_eq_of_le (show c' ≤ c by omega) with h5 | h5
    · exact p.p4 c' b' h1 h5 h3 h4 k hk
    · subst h5; exact p.p5 b' h3 (by omega) k hk, fun b' h1 h2 => by omega, fun k hk => by omega⟩
theorem PP.sink (p : PP g h l o D d n m c g.blo 0 M) (hc : (Go.Proofs.Ytkaogjhnogkcdaa.creep g d).hi < c ∨ M d n m = false) : PP g h l o D d n (m + 1) (Go.Proofs.Ytkaogjhnogkcdaa.creep g d).lo g.blo 0 M :=
  ⟨p.known, p.blank, p.sound, p.p2, fun s hs hM c' b' h1 h2 h3 h4 k hk => by
    rcases Nat.lt_succ_iff_lt_or_eq.1 hs with h5 | h5
    · exact p.p3 s h5 hM c' b' h1 h2 h3 h4 k hk
    · subst h5
      rcases hc with hc | hc
      · exact p.p4 c' b' h1 (by omega) h3 h4 k hk
      · rw [hc] at hM; exact absurd hM (by simp), fun c' b' h1 h2 => by omega, fun b' h1 h2 => by omega, fun k hk => by omega⟩
theorem PP.rise (p : PP g h l o D d n 31 c b 0 M) : PP g h l o D d (n + 1) 0 (Go.Proofs.Ytkaogjhnogkcdaa.creep g d).lo g.blo 0 M :=
  ⟨p.known, p.blank, p.sound, fun r s hr hs hM => by
    rcases Nat.lt_succ_iff_lt_or_eq.1 hr with h5 | h5
    · exact p.p2 r s h5 hs hM
    · subst h5; exact p.p3 s hs hM, fun s hs => by omega, fun c' b' h1 h2 => by omega, fun b' h1 h2 => by omega, fun k hk => by omega⟩
theorem PP.day (hok : Ok g h) (hd : d < h.length) (hD : ∀ y : Int, (∃ k, k < D.length ∧ gI D k = y) ↔ ∃ x, ((gR h d).lo ≤ x ∧ x ≤ (gR h d).hi) ∧ y = sinks g x) (p : PP g h l o D d 49 0 c b k M) : Known g h l o M (d + 1) ∧ Blank M (d + 1) :=
  ⟨known_succ hok hd hD p.known p.sound (fun r s hr hs hM => p.p2 r s hr hs hM), p.blank⟩
end
end Go.Proofs.Ytkaogjhnogkcdaa
end

section
namespace Go.Proofs.Ytkaogjhnogkcdaa
open Go.RowKit
attribute [local go_sem] Ex.cell? Ex.frozen?

structure Rel (p : Act → World → Prop) (a : Act) (W : World) : Prop where
 out : p a W
section
variable {gc : Array Value} {w : World} {M : Nat → Nat → Nat → Bool} {pc : Nat} {cl chi : Int} {v : Value} {D : List Int} {W W' : World}
end
end Go.Proofs.Ytkaogjhnogkcdaa
end

section
namespace Go.Proofs.Ytkaogjhnogkcdaa
open Go.RowKit
attribute [local go_sem] Ex.cell? Ex.frozen?

theorem endOf_mod (r : Rg) (b c : Nat) (h : b % 2 = c % 2) : endOf r b = endOf r c := by unfold endOf; rw [h]
theorem enK_at (t : Tb) {i j k m : Nat} (hi : i < 2) (hj : j < 2) (hk : k < 2) (hm : m < 2) : enK t (8 * i + 4 * j + 2 * k + m) = ⟨endOf t.k i, endOf t.lag j, endOf t.sq k⟩ := by
 unfold enK
 rw [endOf_mod t.k _ i (by omega), endOf_mod t.lag _ j (by omega), endOf_mod t.sq _ k (by omega)]
theorem spanAt_at (t : Tb) (r : Rd) {i j k m : Nat} (hi : i < 2) (hj : j < 2) (hk : k < 2) (hm : m < 2) : spanAt t r (8 * i + 4 * j + 2 * k + m) = spanP r ⟨endOf t.k i, endOf t.lag j, endOf t.sq k⟩ (endOf r.rate m) := by
 unfold spanAt
 rw [enK_at t hi hj hk hm, endOf_mod r.rate _ m (by omega)]
theorem two_cell {W : World} {p : Nat} {x : Rg} (h : Blk W p 3 #[.int .i64 x.lo, .int .i64 x.hi]) {i : Nat} (hi : i < 2) : W.cell? ⟨p, i, none⟩ = some (.int .i64 (endOf x i)) := by
 rw [h.cell]
 rcases (show i = 0 ∨ i = 1 by omega) with rfl | rfl <;> rfl
structure BdW (lk : Array Value) (f : Nat → Rg) (w : World) (p1 pr pf po n : Nat) (W : World) : Prop where
 b : Below w.heap.size w W
 q1 : Blk W p1 69 lk
 qr : Blk W pr 23 #[.int .i64 0, .int .i64 0]
 qf : Blk W pf 4 #[.bool (decide (n = 0))]
 qo : Blk W po 23 #[.int .i64 (accTo f n).lo, .int .i64 (accTo f n).hi]
 of : w.heap.size ≤ pf
 oo : w.heap.size ≤ po
 ob : w.heap.size ≤ pr
 n1 : ¬ (p1 = pf ∨ p1 = po)
 n2 : ¬ (pr = pf ∨ pr = po)
 n3 : pf ≠ po
section
variable {lk : Array Value} {f : Nat → Rg} {w : World} {p1 pr pf po n : Nat} {W W1 W2 : World}
theorem BdW.go (h : BdW lk f w p1 pr pf po n W) (hb : Below W.heap.size W W1) : BdW lk f w p1 pr pf po n W1 := ⟨ex_trans h.b hb, h.q1.below hb h.q1.lt, h.qr.below hb h.qr.lt, h.qf.below hb h.qf.lt, h.qo.below hb h.qo.lt, h.of, h.oo, h.ob, h.n1, h.n2, h.n3⟩
theorem acc_step (f : Nat → Rg) (n : Nat) : min (fstI (decide (n = 0)) (f n).lo (accTo f n).lo) (f n).lo = (accTo f (n + 1)).lo ∧ max (fstI (decide (n = 0)) (f n).hi (accTo f n).hi) (f n).hi = (accTo f (n + 1)).hi := by
 rw [accTo]
 by_cases h : n = 0
 ·
  subst h; simp [fstI]
 ·
  simp [fstI, h]
theorem BdW.add (h : BdW lk f w p1 pr pf po n W) (x : Rg) (hx : x = f n) (h1 : Blk W2 pf 4 #[.bool false]) (h2 : Blk W2 po 23 #[.int .i64 (min (fstI (decide (n = 0)) x.lo (accTo f n).lo) x.lo), .int .i64 (max (fstI (decide (n = 0)) x.hi (accTo f n).hi) x.hi)])
  (hf : Fr (fun k => k = pf ∨ k = po) W W2) : BdW lk f w p1 pr pf po (n + 1) W2 := by
 subst hx
 obtain ⟨e1, e2⟩ := acc_step f n
 rw [e1, e2] at h2
 exact ⟨hf.toBelow h.b h.b.size (fun x hx => by rcases hx with rfl | rfl; exact h.of; exact h.oo), h.q1.fr hf h.n1, h.qr.fr hf h.n2, by rw [show decide (n + 1 = 0) = false by simp]; exact h1, h2, h.of, h.oo, h.ob, h.n1, h.n2, h.n3⟩
end
set_option maxRecDepth 100000 in
set_option maxHeartbeats 6400000 in
theorem sm_bounds (t : Tb) (Ab Ad : Option Addr) (cb cd : Nat) (r : Rd) (w : World) (ht : TbBd t) (hr : RdBd r) :
  Calls Try.prog 20 #[.agg #[.int .i64 t.g.base, .slice Ab t.g.bands.length cb, .slice Ad t.g.depths.length cd, .int .i64 t.g.blo, .int .i64 t.g.bhi, .int .i64 t.k.lo, .int .i64 t.k.hi, .int .i64 t.lag.lo, .int .i64 t.lag.hi, .int .i64 t.sq.lo, .int .i64 t.sq.hi, .int .i64 t.term, .int .i64 r.day, .int .i64 r.shown, .int .i64 r.err, .int .i64 r.bare, .int .i64 r.air.lo, .int .i64 r.air.hi, .int .i64 r.rate.lo, .int .i64 r.rate.hi, .int .i64 r.deep, .bool r.broken]] w fun e w' => e = .returned (.agg #[.int .i64 (bndP t r).lo, .int .i64 (bndP t r).hi]) ∧ Below w.heap.size w w' := by
 have HB : BdW #[.int .i64 t.g.base, .slice Ab t.g.bands.length cb, .slice Ad t.g.depths.length cd, .int .i64 t.g.blo, .int .i64 t.g.bhi, .int .i64 t.k.lo, .int .i64 t.k.hi, .int .i64 t.lag.lo, .int .i64 t.lag.hi, .int .i64 t.sq.lo, .int .i64 t.sq.hi, .int .i64 t.term, .int .i64 r.day, .int .i64 r.shown, .int .i64 r.err, .int .i64 r.bare, .int .i64 r.air.lo, .int .i64 r.air.hi, .int .i64 r.rate.lo, .int .i64 r.rate.hi, .int .i64 r.deep, .bool r.broken] (spanAt t r) w (w.heap.size) (w.heap.size + 1) (w.heap.size + 1 + 1) (w.heap.size + 1 + 1 + 1) 0 ((((w.alloc (.cells #[.int .i64 t.g.base, .slice Ab t.g.bands.length cb, .slice Ad t.g.depths.length cd, .int .i64 t.g.blo, .int .i64 t.g.bhi, .int .i64 t.k.lo, .int .i64 t.k.hi, .int .i64 t.lag.lo, .int .i64 t.lag.hi, .int .i64 t.sq.lo, .int .i64 t.sq.hi, .int .i64 t.term, .int .i64 r.day, .int .i64 r.shown, .int .i64 r.err, .int .i64 r.bare, .int .i64 r.air.lo, .int .i64 r.air.hi, .int .i64 r.rate.lo, .int .i64 r.rate.hi, .int .i64 r.deep, .bool r.broken] 69)).alloc (.cells #[.int .i64 0, .int .i64 0] 23)).alloc (.cells #[.bool true] 4)).alloc (.cells #[.int .i64 0, .int .i64 0] 23)) := ⟨ex_alloc (ex_alloc (ex_alloc (ex_alloc (Below.refl w.heap.size w) (.cells #[.int .i64 t.g.base, .slice Ab t.g.bands.length cb, .slice Ad t.g.depths.length cd, .int .i64 t.g.blo, .int .i64 t.g.bhi, .int .i64 t.k.lo, .int .i64 t.k.hi, .int .i64 t.lag.lo, .int .i64 t.lag.hi, .int .i64 t.sq.lo, .int .i64 t.sq.hi, .int .i64 t.term, .int .i64 r.day, .int .i64 r.shown, .int .i64 r.err, .int .i64 r.bare, .int .i64 r.air.lo, .int .i64 r.air.hi, .int .i64 r.rate.lo, .int .i64 r.rate.hi, .int .i64 r.deep, .bool r.broken] 69)) (.cells #[.int .i64 0, .int .i64 0] 23)) (.cells #[.bool true] 4)) (.cells #[.int .i64 0, .int .i64 0] 23), (show Blk ((((w.alloc (.cells #[.int .i64 t.g.base, .slice Ab t.g.bands.length cb, .slice Ad t.g.depths.length cd, .int .i64 t.g.blo, .int .i64 t.g.bhi, .int .i64 t.k.lo, .int .i64 t.k.hi, .int .i64 t.lag.lo, .int .i64 t.lag.hi, .int .i64 t.sq.lo, .int .i64 t.sq.hi, .int .i64 t.term, .int .i64 r.day, .int .i64 r.shown, .int .i64 r.err, .int .i64 r.bare, .int .i64 r.air.lo, .int .i64 r.air.hi, .int .i64 r.rate.lo, .int .i64 r.rate.hi, .int .i64 r.deep, .bool r.broken] 69)).alloc (.cells #[.int .i64 0, .int .i64 0] 23)).alloc (.cells #[.bool true] 4)).alloc (.cells #[.int .i64 0, .int .i64 0] 23)) (w.heap.size) 69 #[.int .i64 t.g.base, .slice Ab t.g.bands.length cb, .slice Ad t.g.depths.length cd, .int .i64 t.g.blo, .int .i64 t.g.bhi, .int .i64 t.k.lo, .int .i64 t.k.hi, .int .i64 t.lag.lo, .int .i64 t.lag.hi, .int .i64 t.sq.lo, .int .i64 t.sq.hi, .int .i64 t.term, .int .i64 r.day, .int .i64 r.shown, .int .i64 r.err, .int .i64 r.bare, .int .i64 r.air.lo, .int .i64 r.air.hi, .int .i64 r.rate.lo, .int .i64 r.rate.hi, .int .i64 r.deep, .bool r.broken] from (((Blk.new _ _ _).alloc _).alloc _).alloc _), (show Blk ((((w.alloc (.cells #[.int .i64 t.g.base, .slice Ab t.g.bands.length cb, .slice Ad t.g.depths.length cd, .int .i64 t.g.blo, .int .i64 t.g.bhi, .int .i64 t.k.lo, .int .i64 t.k.hi, .int .i64 t.lag.lo, .int .i64 t.lag.hi, .int .i64 t.sq.lo, .int .i64 t.sq.hi, .int .i64 t.term, .int .i64 r.day, .int .i64 r.shown, .int .i64 r.err, .int .i64 r.bare, .int .i64 r.air.lo, .int .i64 r.air.hi, .int .i64 r.rate.lo, .int .i64 r.rate.hi, .int .i64 r.deep, .bool r.broken] 69)).alloc (.cells #[.int .i64 0, .int .i64 0] 23)).alloc (.cells #[.bool true] 4)).alloc (.cells #[.int .i64 0, .int .i64 0] 23)) (w.heap.size + 1) 23 #[.int .i64 0, .int .i64 0] from ((Blk.new' _ _ _ (by simp)).alloc _).alloc _), (show Blk ((((w.alloc (.cells #[.int .i64 t.g.base, .slice Ab t.g.bands.length cb, .slice Ad t.g.depths.length cd, .int .i64 t.g.blo, .int .i64 t.g.bhi, .int .i64 t.k.lo, .int .i64 t.k.hi, .int .i64 t.lag.lo, .int .i64 t.lag.hi, .int .i64 t.sq.lo, .int .i64 t.sq.hi, .int .i64 t.term, .int .i64 r.day, .int .i64 r.shown, .int .i64 r.err, .int .i64 r.bare, .int .i64 r.air.lo, .int .i64 r.air.hi, .int .i64 r.rate.lo, .int .i64 r.rate.hi, .int .i64 r.deep, .bool r.broken] 69)).alloc (.cells #[.int .i64 0, .int .i64 0] 23)).alloc (.cells #[.bool true] 4)).alloc (.cells #[.int .i64 0, .int .i64 0] 23)) (w.heap.size + 1 + 1) 4 #[.bool true] from (Blk.new' _ _ _ (by simp)).alloc _), (show Blk ((((w.alloc (.cells #[.int .i64 t.g.base, .slice Ab t.g.bands.length cb, .slice Ad t.g.depths.length cd, .int .i64 t.g.blo, .int .i64 t.g.bhi, .int .i64 t.k.lo, .int .i64 t.k.hi, .int .i64 t.lag.lo, .int .i64 t.lag.hi, .int .i64 t.sq.lo, .int .i64 t.sq.hi, .int .i64 t.term, .int .i64 r.day, .int .i64 r.shown, .int .i64 r.err, .int .i64 r.bare, .int .i64 r.air.lo, .int .i64 r.air.hi, .int .i64 r.rate.lo, .int .i64 r.rate.hi, .int .i64 r.deep, .bool r.broken] 69)).alloc (.cells #[.int .i64 0, .int .i64 0] 23)).alloc (.cells #[.bool true] 4)).alloc (.cells #[.int .i64 0, .int .i64 0] 23)) (w.heap.size + 1 + 1 + 1) 23 #[.int .i64 0, .int .i64 0] from Blk.new' _ _ _ (by simp)), by omega, by omega, by omega, by omega, by omega, by omega⟩
 go_enter Try.func20, Try.ntmps20
 go_upto_region 3 with fail
 show Code.wp _ _ _ _ ((((w.alloc (.cells #[.int .i64 t.g.base, .slice Ab t.g.bands.length cb, .slice Ad t.g.depths.length cd, .int .i64 t.g.blo, .int .i64 t.g.bhi, .int .i64 t.k.lo, .int .i64 t.k.hi, .int .i64 t.lag.lo, .int .i64 t.lag.hi, .int .i64 t.sq.lo, .int .i64 t.sq.hi, .int .i64 t.term, .int .i64 r.day, .int .i64 r.shown, .int .i64 r.err, .int .i64 r.bare, .int .i64 r.air.lo, .int .i64 r.air.hi, .int .i64 r.rate.lo, .int .i64 r.rate.hi, .int .i64 r.deep, .bool r.broken] 69)).alloc (.cells #[.int .i64 0, .int .i64 0] 23)).alloc (.cells #[.bool true] 4)).alloc (.cells #[.int .i64 0, .int .i64 0] 23))
 obtain ⟨p1, hp1⟩ : ∃ p, w.heap.size = p := ⟨_, rfl⟩
 obtain ⟨pr, hpr⟩ : ∃ p, w.heap.size + 1 = p := ⟨_, rfl⟩
 obtain ⟨pf, hpf⟩ : ∃ p, w.heap.size + 1 + 1 = p := ⟨_, rfl⟩
 obtain ⟨po, hpo⟩ : ∃ p, w.heap.size + 1 + 1 + 1 = p := ⟨_, rfl⟩
 rw [hpo] at HB ⊢
 rw [hpf] at HB ⊢
 rw [hpr] at HB ⊢
 rw [hp1] at HB ⊢
 clear hpo hpf hpr hp1
 generalize (((w.alloc (.cells #[.int .i64 t.g.base, .slice Ab t.g.bands.length cb, .slice Ad t.g.depths.length cd, .int .i64 t.g.blo, .int .i64 t.g.bhi, .int .i64 t.k.lo, .int .i64 t.k.hi, .int .i64 t.lag.lo, .int .i64 t.lag.hi, .int .i64 t.sq.lo, .int .i64 t.sq.hi, .int .i64 t.term, .int .i64 r.day, .int .i64 r.shown, .int .i64 r.err, .int .i64 r.bare, .int .i64 r.air.lo, .int .i64 r.air.hi, .int .i64 r.rate.lo, .int .i64 r.rate.hi, .int .i64 r.deep, .bool r.broken] 69)).alloc (.cells #[.int .i64 0, .int .i64 0] 23)).alloc (.cells #[.bool true] 4)).alloc (.cells #[.int .i64 0, .int .i64 0] 23) = V at *
 have g5 := HB.q1.cell 5
 have g6 := HB.q1.cell 6
 have lg := HB.q1.lt
 simp at g5 g6
 have NB := ex_alloc (Below.refl V.heap.size V) (.cells #[.int .i64 t.k.lo, .int .i64 t.k.hi] 3)
 have z1 : Blk (V.alloc (.cells #[.int .i64 t.k.lo, .int .i64 t.k.hi] 3)) V.heap.size 3 #[.int .i64 t.k.lo, .int .i64 t.k.hi] := Blk.new _ _ _
 have hn1 : ¬ (V.heap.size = pf ∨ V.heap.size = po) := by have := HB.qf.lt; have := HB.qo.lt; omega
 replace HB := HB.go NB
 obtain ⟨s1, hs1⟩ : ∃ p, V.heap.size = p := ⟨_, rfl⟩
 rw [hs1] at z1 hn1
 go_wp2_with fail
 clear NB g5 g6 lg hs1
 generalize V.alloc (.cells #[.int .i64 t.k.lo, .int .i64 t.k.hi] 3) = V1 at *
 refine wp_loop (fun a W => Rel (fun a W => ∃ i : Nat, i ≤ 2 ∧ BdW #[.int .i64 t.g.base, .slice Ab t.g.bands.length cb, .slice Ad t.g.depths.length cd, .int .i64 t.g.blo, .int .i64 t.g.bhi, .int .i64 t.k.lo, .int .i64 t.k.hi, .int .i64 t.lag.lo, .int .i64 t.lag.hi, .int .i64 t.sq.lo, .int .i64 t.sq.hi, .int .i64 t.term, .int .i64 r.day, .int .i64 r.shown, .int .i64 r.err, .int .i64 r.bare, .int .i64 r.air.lo, .int .i64 r.air.hi, .int .i64 r.rate.lo, .int .i64 r.rate.hi, .int .i64 r.deep, .bool r.broken] (spanAt t r) w p1 pr pf po (8 * i) W ∧ Blk W s1 3 #[.int .i64 t.k.lo, .int .i64 t.k.hi] ∧ ∃ u : Nat → Value, a = ⟨List.toArray (u 0 :: .pointer (some ⟨p1, 0, none⟩) :: .pointer (some ⟨pr, 0, none⟩) :: .pointer (some ⟨pf, 0, none⟩) :: .pointer (some ⟨po, 0, none⟩) :: .func (.func 33) #[] #[.pointer (some ⟨pf, 0, none⟩), .pointer (some ⟨po, 0, none⟩)] :: u 6 :: u 7 :: u 8 :: u 9 :: u 10 :: u 11 :: u 12 :: u 13 :: u 14 :: u 15 :: u 16 :: u 17 :: u 18 :: u 19 :: u 20 :: .slice (some ⟨s1, 0, none⟩) 2 2 :: .int .i64 2 :: .int .i64 (i : Int) :: u 24 :: u 25 :: u 26 :: u 27 :: u 28 :: u 29 :: u 30 :: u 31 :: u 32 :: u 33 :: u 34 :: u 35 :: u 36 :: u 37 :: u 38 :: u 39 :: u 40 :: u 41 :: u 42 :: u 43 :: u 44 :: u 45 :: u 46 :: u 47 :: u 48 :: u 49 :: u 50 :: u 51 :: u 52 :: u 53 :: u 54 :: u 55 :: u 56 :: u 57 :: u 58 :: u 59 :: u 60 :: u 61 :: u 62 :: u 63 :: u 64 :: u 65 :: u 66 :: u 67 :: u 68 :: u 69 :: u 70 :: u 71 :: u 72 :: u 73 :: u 74 :: u 75 :: u 76 :: u 77 :: u 78 :: u 79 :: u 80 :: u 81 :: u 82 :: []), []⟩) a W)
  (fun a _ => 2 - (intOf (a.tmps.getD 23 undef)).toNat) ⟨⟨0, by omega, HB, z1, exFrame (by kernel_rfl)⟩⟩ ?_
 clear HB z1 V1
 rintro a W ⟨⟨i, hi, HB, z1, u, rfl⟩⟩
 by_cases hlt : i < 2
 ·
  have c1 := two_cell z1 hlt
  have g7 := HB.q1.cell 7
  have g8 := HB.q1.cell 8
  have lg := HB.q1.lt
  have ls := z1.lt
  simp at g7 g8
  have NB := ex_alloc (Below.refl W.heap.size W) (.cells #[.int .i64 t.lag.lo, .int .i64 t.lag.hi] 3)
  have z2 : Blk (W.alloc (.cells #[.int .i64 t.lag.lo, .int .i64 t.lag.hi] 3)) W.heap.size 3 #[.int .i64 t.lag.lo, .int .i64 t.lag.hi] := Blk.new _ _ _
  have hn2 : ¬ (W.heap.size = pf ∨ W.heap.size = po) := by have := HB.qf.lt; have := HB.qo.lt; omega
  replace HB := HB.go NB
  replace z1 := z1.below NB z1.lt
  obtain ⟨s2, hs2⟩ : ∃ p, W.heap.size = p := ⟨_, rfl⟩
  rw [hs2] at z2 hn2
  go_wp2_with fail
  clear NB g7 g8 lg hs2 c1 ls
  generalize W.alloc (.cells #[.int .i64 t.lag.lo, .int .i64 t.lag.hi] 3) = W1 at *
  refine wp_loop (fun a W => Rel (fun a W => ∃ j : Nat, j ≤ 2 ∧ BdW #[.int .i64 t.g.base, .slice Ab t.g.bands.length cb, .slice Ad t.g.depths.length cd, .int .i64 t.g.blo, .int .i64 t.g.bhi, .int .i64 t.k.lo, .int .i64 t.k.hi, .int .i64 t.lag.lo, .int .i64 t.lag.hi, .int .i64 t.sq.lo, .int .i64 t.sq.hi, .int .i64 t.term, .int .i64 r.day, .int .i64 r.shown, .int .i64 r.err, .int .i64 r.bare, .int .i64 r.air.lo, .int .i64 r.air.hi, .int .i64 r.rate.lo, .int .i64 r.rate.hi, .int .i64 r.deep, .bool r.broken] (spanAt t r) w p1 pr pf po (8 * i + 4 * j) W ∧ Blk W s1 3 #[.int .i64 t.k.lo, .int .i64 t.k.hi] ∧ Blk W s2 3 #[.int .i64 t.lag.lo, .int .i64 t.lag.hi] ∧ ∃ u : Nat → Value, a = ⟨List.toArray (u 0 :: .pointer (some ⟨p1, 0, none⟩) :: .pointer (some ⟨pr, 0, none⟩) :: .pointer (some ⟨pf, 0, none⟩) :: .pointer (some ⟨po, 0, none⟩) :: .func (.func 33) #[] #[.pointer (some ⟨pf, 0, none⟩), .pointer (some ⟨po, 0, none⟩)] :: u 6 :: .int .i64 (endOf t.k i) :: u 8 :: u 9 :: u 10 :: u 11 :: u 12 :: u 13 :: u 14 :: u 15 :: u 16 :: u 17 :: u 18 :: u 19 :: u 20 :: .slice (some ⟨s1, 0, none⟩) 2 2 :: .int .i64 2 :: .int .i64 (i : Int) :: u 24 :: u 25 :: u 26 :: u 27 :: u 28 :: u 29 :: u 30 :: u 31 :: u 32 :: u 33 :: u 34 :: .slice (some ⟨s2, 0, none⟩) 2 2 :: .int .i64 2 :: .int .i64 (j : Int) :: u 38 :: u 39 :: u 40 :: u 41 :: u 42 :: u 43 :: u 44 :: u 45 :: u 46 :: u 47 :: u 48 :: u 49 :: u 50 :: u 51 :: u 52 :: u 53 :: u 54 :: u 55 :: u 56 :: u 57 :: u 58 :: u 59 :: u 60 :: u 61 :: u 62 :: u 63 :: u 64 :: u 65 :: u 66 :: u 67 :: u 68 :: u 69 :: u 70 :: u 71 :: u 72 :: u 73 :: u 74 :: u 75 :: u 76 :: u 77 :: u 78 :: u 79 :: u 80 :: u 81 :: u 82 :: []), []⟩) a W)
   (fun a _ => 2 - (intOf (a.tmps.getD 37 undef)).toNat) ⟨⟨0, by omega, HB, z1, z2, exFrame (by kernel_rfl)⟩⟩ ?_
  clear HB z1 z2 W1
  rintro a W ⟨⟨j, hj, HB, z1, z2, u, rfl⟩⟩
  by_cases hlj : j < 2
  ·
   have c2 := two_cell z2 hlj
   have g9 := HB.q1.cell 9
   have g10 := HB.q1.cell 10
   have lg := HB.q1.lt
   have ls := z2.lt
   simp at g9 g10
   have NB := ex_alloc (Below.refl W.heap.size W) (.cells #[.int .i64 t.sq.lo, .int .i64 t.sq.hi] 3)
   have z3 : Blk (W.alloc (.cells #[.int .i64 t.sq.lo, .int .i64 t.sq.hi] 3)) W.heap.size 3 #[.int .i64 t.sq.lo, .int .i64 t.sq.hi] := Blk.new _ _ _
   have hn3 : ¬ (W.heap.size = pf ∨ W.heap.size = po) := by have := HB.qf.lt; have := HB.qo.lt; omega
   replace HB := HB.go NB
   replace z1 := z1.below NB z1.lt
   replace z2 := z2.below NB z2.lt
   obtain ⟨s3, hs3⟩ : ∃ p, W.heap.size = p := ⟨_, rfl⟩
   rw [hs3] at z3 hn3
   go_wp2_with fail
   clear NB g9 g10 lg hs3 c2 ls
   generalize W.alloc (.cells #[.int .i64 t.sq.lo, .int .i64 t.sq.hi] 3) = W1 at *
   refine wp_loop (fun a W => Rel (fun a W => ∃ k : Nat, k ≤ 2 ∧ BdW #[.int .i64 t.g.base, .slice Ab t.g.bands.length cb, .slice Ad t.g.depths.length cd, .int .i64 t.g.blo, .int .i64 t.g.bhi, .int .i64 t.k.lo, .int .i64 t.k.hi, .int .i64 t.lag.lo, .int .i64 t.lag.hi, .int .i64 t.sq.lo, .int .i64 t.sq.hi, .int .i64 t.term, .int .i64 r.day, .int .i64 r.shown, .int .i64 r.err, .int .i64 r.bare, .int .i64 r.air.lo, .int .i64 r.air.hi, .int .i64 r.rate.lo, .int .i64 r.rate.hi, .int .i64 r.deep, .bool r.broken] (spanAt t r) w p1 pr pf po (8 * i + 4 * j + 2 * k) W ∧ Blk W s1 3 #[.int .i64 t.k.lo, .int .i64 t.k.hi] ∧ Blk W s2 3 #[.int .i64 t.lag.lo, .int .i64 t.lag.hi] ∧ Blk W s3 3 #[.int .i64 t.sq.lo, .int .i64 t.sq.hi] ∧ ∃ u : Nat → Value, a = ⟨List.toArray (u 0 :: .pointer (some ⟨p1, 0, none⟩) :: .pointer (some ⟨pr, 0, none⟩) :: .pointer (some ⟨pf, 0, none⟩) :: .pointer (some ⟨po, 0, none⟩) :: .func (.func 33) #[] #[.pointer (some ⟨pf, 0, none⟩), .pointer (some ⟨po, 0, none⟩)] :: u 6 :: .int .i64 (endOf t.k i) :: u 8 :: .int .i64 (endOf t.lag j) :: u 10 :: u 11 :: u 12 :: u 13 :: u 14 :: u 15 :: u 16 :: u 17 :: u 18 :: u 19 :: u 20 :: .slice (some ⟨s1, 0, none⟩) 2 2 :: .int .i64 2 :: .int .i64 (i : Int) :: u 24 :: u 25 :: u 26 :: u 27 :: u 28 :: u 29 :: u 30 :: u 31 :: u 32 :: u 33 :: u 34 :: .slice (some ⟨s2, 0, none⟩) 2 2 :: .int .i64 2 :: .int .i64 (j : Int) :: u 38 :: u 39 :: u 40 :: u 41 :: u 42 :: u 43 :: u 44 :: u 45 :: u 46 :: u 47 :: u 48 :: .slice (some ⟨s3, 0, none⟩) 2 2 :: .int .i64 2 :: .int .i64 (k : Int) :: u 52 :: u 53 :: u 54 :: u 55 :: u 56 :: u 57 :: u 58 :: u 59 :: u 60 :: u 61 :: u 62 :: u 63 :: u 64 :: u 65 :: u 66 :: u 67 :: u 68 :: u 69 :: u 70 :: u 71 :: u 72 :: u 73 :: u 74 :: u 75 :: u 76 :: u 77 :: u 78 :: u 79 :: u 80 :: u 81 :: u 82 :: []), []⟩) a W)
    (fun a _ => 2 - (intOf (a.tmps.getD 51 undef)).toNat) ⟨⟨0, by omega, HB, z1, z2, z3, exFrame (by kernel_rfl)⟩⟩ ?_
   clear HB z1 z2 z3 W1
   rintro a W ⟨⟨k, hk, HB, z1, z2, z3, u, rfl⟩⟩
   by_cases hlk : k < 2
   ·
    have c3 := two_cell z3 hlk
    have g18 := HB.q1.cell 18
    have g19 := HB.q1.cell 19
    have lg := HB.q1.lt
    have ls := z3.lt
    simp at g18 g19
    have HK : KiBd ⟨endOf t.k i, endOf t.lag j, endOf t.sq k⟩ := by
     have := enK_in ht (8 * i + 4 * j + 2 * k + 0)
     rw [enK_at t hlt hlj hlk (by omega)] at this
     exact this.bd ht
    have hr1 : -20 ≤ r.rate.lo ∧ r.rate.lo ≤ 20 := by have := hr.rate; omega
    have hr2 : -20 ≤ r.rate.hi ∧ r.rate.hi ≤ 20 := by have := hr.rate; omega
    have E1 := (spanAt_at t r hlt hlj hlk (show 0 < 2 by omega)).symm
    have E2 := (spanAt_at t r hlt hlj hlk (show 1 < 2 by omega)).symm
    have HE1 := Lib.hid E1
    have HE2 := Lib.hid E2
    clear E1 E2
    go_wp2_with (refine pause_at 56 rfl ?_)
    refine Paused.mk ?_
    refine wpList_load_row rfl 69 _ rfl _ rfl 69 _ (0, 0) _ (HB.q1) Try.underlying69 rfl (by kernel_rfl) ?_
    go_wp2_with fail
    refine (sm_span t Ab Ad cb cd r ⟨endOf t.k i, endOf t.lag j, endOf t.sq k⟩ r.rate.lo _ hr HK hr1).mono ?_
    rintro e Y1 ⟨rfl, hY1⟩
    replace HB := HB.go hY1
    replace z1 := z1.below hY1 z1.lt
    replace z2 := z2.below hY1 z2.lt
    replace z3 := z3.below hY1 z3.lt
    go_wp2_with fail
    refine (sm_add _ _ _ _ _ pf po _ HB.n3 HB.qf HB.qo).mono ?_
    rintro e Z1 ⟨rfl, hf1, ho1, hF1⟩
    replace HB := HB.add _ HE1.out hf1 ho1 hF1
    replace z1 := z1.fr hF1 hn1
    replace z2 := z2.fr hF1 hn2
    replace z3 := z3.fr hF1 hn3
    clear hf1 ho1
    clear g18 g19 lg ls c3
    have g18 := HB.q1.cell 18
    have g19 := HB.q1.cell 19
    have lg := HB.q1.lt
    simp at g18 g19
    go_wp2_with (refine pause_at 68 rfl ?_)
    refine Paused.mk ?_
    refine wpList_load_row rfl 69 _ rfl _ rfl 69 _ (0, 0) _ (HB.q1) Try.underlying69 rfl (by kernel_rfl) ?_
    go_wp2_with fail
    refine (sm_span t Ab Ad cb cd r ⟨endOf t.k i, endOf t.lag j, endOf t.sq k⟩ r.rate.hi _ hr HK hr2).mono ?_
    rintro e Y2 ⟨rfl, hY2⟩
    replace HB := HB.go hY2
    replace z1 := z1.below hY2 z1.lt
    replace z2 := z2.below hY2 z2.lt
    replace z3 := z3.below hY2 z3.lt
    go_wp2_with fail
    refine (sm_add _ _ _ _ _ pf po _ HB.n3 HB.qf HB.qo).mono ?_
    rintro e Z2 ⟨rfl, hf1, ho1, hF1⟩
    replace HB := HB.add _ HE2.out hf1 ho1 hF1
    replace z1 := z1.fr hF1 hn1
    replace z2 := z2.fr hF1 hn2
    replace z3 := z3.fr hF1 hn3
    clear hf1 ho1
    go_wp2_with fail
    refine ⟨⟨⟨k + 1, by omega, HB, z1, z2, z3, exFrame (by kernel_rfl)⟩⟩, ?_⟩
    show 2 - (intOf (.int .i64 ((k : Int) + 1))).toNat < 2 - (intOf (.int .i64 (k : Int))).toNat
    simp [intOf]
    omega
   ·
    have hkk : k = 2 := by omega
    subst hkk
    go_wp2_with fail
    refine ⟨⟨⟨j + 1, by omega, HB, z1, z2, exFrame (by kernel_rfl)⟩⟩, ?_⟩
    show 2 - (intOf (.int .i64 ((j : Int) + 1))).toNat < 2 - (intOf (.int .i64 (j : Int))).toNat
    simp [intOf]
    omega
  ·
   have hjj : j = 2 := by omega
   subst hjj
   go_wp2_with fail
   refine ⟨⟨⟨i + 1, by omega, HB, z1, exFrame (by kernel_rfl)⟩⟩, ?_⟩
   show 2 - (intOf (.int .i64 ((i : Int) + 1))).toNat < 2 - (intOf (.int .i64 (i : Int))).toNat
   simp [intOf]
   omega
 ·
  have hii : i = 2 := by omega
  subst hii
  have o0 := HB.qo.cell 0
  have o1 := HB.qo.cell 1
  have r0 := HB.qr.cell 0
  have r1 := HB.qr.cell 1
  have fr := HB.qr.frozen0
  have lr := HB.qr.lt
  have lo' := HB.qo.lt
  simp at o0 o1 r0 r1
  skip
  have m3 := (HB.qr.set_ 0 (.int .i64 (accTo (spanAt t r) (8 * 2)).lo)).set_ 1 (.int .i64 (accTo (spanAt t r) (8 * 2)).hi)
  simp only [List.setIfInBounds_toArray, List.set_cons_zero, List.set_cons_succ] at m3
  go_wp2
  refine bodyPost_ret (results_cell_row rfl _ _ _ 23 #[.int .i64 (accTo (spanAt t r) (8 * 2)).lo, .int .i64 (accTo (spanAt t r) (8 * 2)).hi] (0, 0) _ rfl m3 rfl rfl rfl) rfl ?_
  exact ⟨rfl, ex_set (p := ⟨pr, 1, none⟩) (ex_set (p := ⟨pr, 0, none⟩) HB.b HB.ob _) HB.ob _⟩

end Go.Proofs.Ytkaogjhnogkcdaa
end

section
namespace Go.Proofs.Ytkaogjhnogkcdaa
open Go.RowKit

structure Fx (w : World) (R : Nat → Prop) where
 W : World
 h : Fr R w W
instance (w : World) (R : Nat → Prop) : Nonempty (Fx w R) := ⟨⟨w, Fr.refl R w⟩⟩
theorem Fx.cell? {w : World} {R : Nat → Prop} (x : Fx w R) (b o : Nat) (hb : b < w.heap.size) (hne : ¬ R b) : x.W.cell? ⟨b, o, none⟩ = w.cell? ⟨b, o, none⟩ := World.cell?_of_block (x.h.block b hb hne)
theorem inFx {w w' : World} {R : Nat → Prop} (h : Fr R w w') : ∃ x : Fx w R, w' = x.W := ⟨⟨w', h⟩, rfl⟩
theorem Fr.drew {R : Nat → Prop} {w w' : World} (h : Fr R w w') : Fr R w w'.drew := ⟨h.os, h.tape, h.output, h.size, h.block⟩
theorem wp_region_fx_tq {P : Program} {Q : Exit → Act → World → Prop} {id : Nat} {a : Act} {w : World} {l : List Oper} (R : Nat → Prop) (n : Nat) (t : Tq) (hm : P.follows .mixedOrders = true)
  (hB : (tqeB .any l.toArray n t && decide (t.len = n)) = true) (hQ : ∀ d v c a w, Q (.panic c) (a.put d v) w → Q (.panic c) a w)
  (h : wqTree P l Q (fun w' => ∃ x : Fx w R, w' = x.W) n t a w.drew) : (Code.region id l.toArray true).wp P Q a w :=
 wp_region_tq n t _ hm hB hQ (inFx (Fr.refl R w).drew) h
attribute [local go_sem] Ex.cell? Ex.frozen? Fx.cell?

structure EN (b : Nat) (W0 : World) (R : Nat → Prop) (u1 u2 u3 : Value) (m1 m2 m3 : List Int) (W : World) : Prop where
 fr : Fr R W0 W
 o1 : W.ownsRow b 3 1 u1 m1.length (m1.map (Value.int .i64))
 o2 : W.ownsRow b 3 1 u2 m2.length (m2.map (Value.int .i64))
 o3 : W.ownsRow b 3 1 u3 m3.length (m3.map (Value.int .i64))
 n12 : ∀ x, u1.ownBlock = some x → u2.ownBlock ≠ some x
 n13 : ∀ x, u1.ownBlock = some x → u3.ownBlock ≠ some x
 n23 : ∀ x, u2.ownBlock = some x → u3.ownBlock ≠ some x
 r1 : ∀ x, u1.ownBlock = some x → R x ∨ W0.heap.size ≤ x
 r2 : ∀ x, u2.ownBlock = some x → R x ∨ W0.heap.size ≤ x
 r3 : ∀ x, u3.ownBlock = some x → R x ∨ W0.heap.size ≤ x
section
variable {b : Nat} {W0 : World} {R : Nat → Prop} {u1 u2 u3 : Value} {m1 m2 m3 : List Int} {W W' : World}
theorem EN.alloc (h : EN b W0 R u1 u2 u3 m1 m2 m3 W) (o : Obj) : EN b W0 R u1 u2 u3 m1 m2 m3 (W.alloc o) := by
 have hb : Below W.heap.size W (W.alloc o) := (Below.refl _ _).alloc (Nat.le_refl _) o
 exact ⟨h.fr.trans (Fr.below (R := fun _ => False) hb) (fun _ _ hx => hx.elim), own_below h.o1 hb, own_below h.o2 hb, own_below h.o3 hb, h.n12, h.n13, h.n23, h.r1, h.r2, h.r3⟩
theorem EN.app1 (h : EN b W0 R u1 u2 u3 m1 m2 m3 W) {gg cap : Nat} {x : Int} (hg : W.grownBy W' u1.ownBlock) (ho : W'.ownsRow b 3 1 (.slice (some ⟨gg, 0, none⟩) (m1.length + 1) cap) (m1.length + 1) (m1.map (Value.int .i64) ++ [.int .i64 x])) (hat : u1.ownBlock = some gg ∨ W.heap.size ≤ gg) :
  EN b W0 R (.slice (some ⟨gg, 0, none⟩) (m1.length + 1) cap) u2 u3 (m1 ++ [x]) m2 m3 W' := by
 have hf : Fr (fun y => u1.ownBlock = some y) W W' := Fr.grown hg (fun y hy => .inl hy)
 have hs := h.fr.size
 refine ⟨h.fr.trans hf (fun y hy hr => (h.r1 y hr).resolve_right (by omega)), own_snoc rfl ho, own_fr h.o2 hf (fun y hy hr => h.n12 y hr hy), own_fr h.o3 hf (fun y hy hr => h.n13 y hr hy), fun y hy hc => ?_, fun y hy hc => ?_, h.n23, fun y hy => ?_, h.r2, h.r3⟩
 all_goals
  have hy' : gg = y := by simpa [Value.ownBlock] using hy
  subst hy'
  rcases hat with hat | hat
 ·
  exact h.n12 gg hat hc
 ·
  have := own_lt h.o2 hc; omega
 ·
  exact h.n13 gg hat hc
 ·
  have := own_lt h.o3 hc; omega
 ·
  exact h.r1 gg hat
 ·
  exact .inr (by omega)
theorem EN.app2 (h : EN b W0 R u1 u2 u3 m1 m2 m3 W) {gg cap : Nat} {x : Int} (hg : W.grownBy W' u2.ownBlock) (ho : W'.ownsRow b 3 1 (.slice (some ⟨gg, 0, none⟩) (m2.length + 1) cap) (m2.length + 1) (m2.map (Value.int .i64) ++ [.int .i64 x])) (hat : u2.ownBlock = some gg ∨ W.heap.size ≤ gg) :
  EN b W0 R u1 (.slice (some ⟨gg, 0, none⟩) (m2.length + 1) cap) u3 m1 (m2 ++ [x]) m3 W' := by
 have hf : Fr (fun y => u2.ownBlock = some y) W W' := Fr.grown hg (fun y hy => .inl hy)
 have hs := h.fr.size
 refine ⟨h.fr.trans hf (fun y hy hr => (h.r2 y hr).resolve_right (by omega)), own_fr h.o1 hf (fun y hy hr => h.n12 y hy hr), own_snoc rfl ho, own_fr h.o3 hf (fun y hy hr => h.n23 y hr hy), fun y hc hy => ?_, h.n13, fun y hy hc => ?_, h.r1, fun y hy => ?_, h.r3⟩
 all_goals
  have hy' : gg = y := by simpa [Value.ownBlock] using hy
  subst hy'
  rcases hat with hat | hat
 ·
  exact h.n12 gg hc hat
 ·
  have := own_lt h.o1 hc; omega
 ·
  exact h.n23 gg hat hc
 ·
  have := own_lt h.o3 hc; omega
 ·
  exact h.r2 gg hat
 ·
  exact .inr (by omega)
end
def endK (g : Gl) (h : List Rg) (high : Bool) (k : Nat) : List Int × List Int × List Int :=
 ((List.range k).map (fun d => if high then (gR h d).lo else (gR h d).hi), (List.range k).map (fun d => if high then (creep g d).hi else (creep g d).lo), (List.range k).map (fun _ => if high then g.bhi else g.blo))

end Go.Proofs.Ytkaogjhnogkcdaa
end

section

end

section
namespace Go.Proofs.Ytkaogjhnogkcdaa
open Go.RowKit

structure KeyOk {α : Type} [DecidableEq α] (t : TypeId) (kV : α → Value) : Prop where
 eq : ∀ (s u : α) (w : World), (Op.equal t (kV s) (kV u)).run Try.prog w = .ok (s == u) w
 check : ∀ (em : Bool) (s : α) (w : World), (Instr.checkKey em 10000 t (kV s)).run Try.prog w = .ok () w
 und : ∃ d, Try.prog.underlying t = some d ∧ ∀ (s : α) (e : MapEntry) (es : List MapEntry) (i : Nat), Instr.findNow d (kV s) (e :: es) i = none

section
variable {α β : Type} [DecidableEq α] {t : TypeId} {kV : α → Value} {vV : β → Value}
def mkE (kV : α → Value) (vV : β → Value) (L : List (α × β)) : Array MapEntry := (L.zipIdx.map fun p => { key := kV p.1.1, val := vV p.1.2, born := p.2 }).toArray
def IsMp (kV : α → Value) (vV : β → Value) (W : World) (b : Nat) (L : List (α × β)) : Prop := W.heap[b]? = some (.map (mkE kV vV L) L.length)
theorem mpGetObj {W : World} {b c : Nat} {es : Array MapEntry} (h : W.heap[b]? = some (.map es c)) : (getObj b).run Try.prog W = .ok (.map es c) W := by simp [getObj, Sem.run, h]
theorem mpSetObj {W : World} {b c : Nat} {es : Array MapEntry} (o' : Obj) (h : W.heap[b]? = some (.map es c)) : (setObj b o').run Try.prog W = .ok () (W.putObj b o') := by simp [setObj, Sem.run, h, World.putObj]
def mpAt (s : α) : List (α × β) → Nat → Option (Nat × β)
 | [], _ => none
 | p :: l, i => if p.1 = s then some (i, p.2) else mpAt s l (i + 1)
theorem mp_asking (hk : KeyOk t kV) (s : α) (w : World) : ∀ (l : List (α × β)) (k i : Nat),
  (Instr.findAsking t (kV s) (l.zipIdx k |>.map fun p => { key := kV p.1.1, val := vV p.1.2, born := p.2 }) i).run Try.prog w = .ok ((mpAt s l i).map fun x => (x.1, vV x.2)) w
 | [], _, _ => by simp [Instr.findAsking, mpAt]
 | p :: l, k, i => by
  simp only [List.zipIdx_cons, List.map_cons, Instr.findAsking, Sem.run_bind, hk.eq, Result.andThen_ok]
  by_cases h : p.1 = s
  ·
   have hb : (s == p.1) = true := by simp [h]
   simp [mpAt, h]
  ·
   have hb : (s == p.1) = false := by simpa using fun e => h e.symm
   simp only [hb, Bool.false_eq_true, if_false]
   rw [mp_asking hk s w l (k + 1) (i + 1), mpAt, if_neg h]
theorem mp_find (hk : KeyOk t kV) (s : α) (L : List (α × β)) (w : World) : (Instr.findKey t (kV s) (mkE kV vV L).toList).run Try.prog w = .ok ((mpAt s L 0).map fun x => (x.1, vV x.2)) w := by
 obtain ⟨d, hd, hn⟩ := hk.und
 unfold Instr.findKey
 simp only [Sem.run_bind, run_underlying hd, Result.andThen_ok]
 have h2 : (mkE kV vV L).toList = (L.zipIdx 0 |>.map fun p => { key := kV p.1.1, val := vV p.1.2, born := p.2 }) := by simp [mkE]
 rw [h2]
 cases L with
 | nil => simp [Instr.findNow, mpAt]
 | cons p l =>
  rw [List.zipIdx_cons, List.map_cons, hn]
  exact mp_asking hk s w (p :: l) 0 0
def mpGet (s : α) (L : List (α × β)) : Option β := (mpAt s L 0).map (·.2)
theorem mpAt_some {s : α} : ∀ {L : List (α × β)} {i : Nat}, ((mpAt s L i).map (·.2)) = ((mpAt s L 0).map (·.2))
 | [], _ => rfl
 | p :: l, i => by
  rw [mpAt, mpAt]
  split
  ·
   rfl
  ·
   rw [mpAt_some (L := l) (i := i + 1), mpAt_some (L := l) (i := 0 + 1)]
theorem mpGet_cons {s : α} {p : α × β} {L : List (α × β)} : mpGet s (p :: L) = if p.1 = s then some p.2 else mpGet s L := by
 unfold mpGet
 rw [mpAt]
 split
 ·
  rfl
 ·
  exact mpAt_some
theorem mpGet_mem {s : α} {v : β} : ∀ {L : List (α × β)}, mpGet s L = some v → (s, v) ∈ L
 | [], h => by cases h
 | q :: L, h => by
  rw [mpGet_cons] at h
  split at h
  ·
   rename_i e; injection h with h; rw [← e, ← h]; simp
  ·
   exact List.mem_cons_of_mem _ (mpGet_mem h)
theorem mpGet_none {s : α} {L : List (α × β)} (h : mpGet s L = none) : mpAt s L 0 = none := by
 unfold mpGet at h
 cases hm : mpAt s L 0 with
 | none => rfl
 | some x => rw [hm] at h; cases h
theorem mpGet_some {s : α} {L : List (α × β)} {v : β} (h : mpGet s L = some v) : ∃ i, mpAt s L 0 = some (i, v) := by
 unfold mpGet at h
 cases hm : mpAt s L 0 with
 | none => rw [hm] at h; cases h
 | some x =>
  rw [hm] at h
  obtain ⟨i, u⟩ := x
  injection h with h
  exact ⟨i, by rw [← h]⟩
theorem mkE_push (L : List (α × β)) (s : α) (v : β) : (mkE kV vV L).push { key := kV s, val := vV v, born := L.length } = mkE kV vV (L ++ [(s, v)]) := by
 simp [mkE, List.zipIdx_append]
theorem IsMp.lt {W : World} {b : Nat} {L : List (α × β)} (h : IsMp kV vV W b L) : b < W.heap.size := (Array.getElem?_eq_some_iff.1 h).1
theorem IsMp.of_block {W W' : World} {b : Nat} {L : List (α × β)} (h : IsMp kV vV W b L) (hb : W'.heap[b]? = W.heap[b]?) : IsMp kV vV W' b L := hb.trans h
theorem IsMp.below {W W' : World} {b : Nat} {L : List (α × β)} (h : IsMp kV vV W b L) (hb : Below W.heap.size W W') : IsMp kV vV W' b L := h.of_block (hb.block b h.lt)
theorem IsMp.fr {R : Nat → Prop} {W W' : World} {b : Nat} {L : List (α × β)} (h : IsMp kV vV W b L) (hf : Fr R W W') (hn : ¬ R b) : IsMp kV vV W' b L := h.of_block (hf.block b h.lt hn)
theorem IsMp.new (W : World) {g : Nat} (hg : W.heap.size = g) : IsMp kV vV (W.alloc (.map #[] 0)) g [] := by
 subst hg; exact World.alloc_heap_new W _
end
end Go.Proofs.Ytkaogjhnogkcdaa
end
