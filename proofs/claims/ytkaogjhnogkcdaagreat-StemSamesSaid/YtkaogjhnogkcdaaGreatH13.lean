/- The law's own truths: word, picked, Picked (walks). · Readings of arguments: words, and small integers. · Readings of arguments: one range, one ice. · The law's own truths: Picked (walk). · The law's own truths: Picked (walk). · The law's own ices: Read (walk). · The law GlassTruth (plain): a truth in which all ices are true. · The laws GlassEnds, GlassLonger, GlassAlone (plain). · The law GlassHigher (plain): all higher by one number. · Fewest (plain): the lists that are tried. · Zeros, Shows, Fewest, Blame in one form each: what they tell stands behind a fact that is looked at last. · A cell of a row that the call owns is written. · Stem: without, least, greatest, span (walks). · A load of a whole struct of many cells in a drawn region, out of a block known whole. · Stem: span (walk). · Stem: bounds' add (walk). · The reference's map of states: where it lies, and what a store turns; the days' steps (plain). · The reference's Ahead (plain): how far a day's loops have come. -/
import Derived.Test.YtkaogjhnogkcdaaGreatH12
import Derived.Test.YtkaogjhnogkcdaaGreatH11
import Derived.Test.YtkaogjhnogkcdaaGreatH10
import Derived.Test.YtkaogjhnogkcdaaGreatH9
import Derived.Test.YtkaogjhnogkcdaaGreatH14
set_option linter.unusedVariables false
set_option linter.unusedSimpArgs false
set_option linter.unusedSectionVars false
section
namespace Go.Proofs.YtkaogjhnogkcdaaGreat
open Go.RowKit
attribute [local go_sem] Ex.cell? Ex.frozen? Gx.cell?

def fU (l : List Int) (k _j : Nat) : Value := .int .u16 (gI l k)
theorem IsWords.at_ {w : World} {B : Nat} {A : Option Addr} {l : List Int} (h : SlAt w B 1 A l.length (fU l)) {k : Nat} (hk : k < l.length) : ∃ b off, A = some ⟨b, off, none⟩ ∧ b < B ∧ w.cell? ⟨b, off + k, none⟩ = some (.int .u16 (gI l k)) := by
 obtain ⟨b, off, rfl, hb, hc⟩ := h (by omega)
 have := hc k 0 hk (by omega)
 exact ⟨b, off, rfl, hb, by simpa [fU] using this⟩

end Go.Proofs.YtkaogjhnogkcdaaGreat
end

section
namespace Go.Proofs.YtkaogjhnogkcdaaGreat
open Go.RowKit Go.ChangeShapes Go.WideShapes Go.ChangeAt

abbrev Wd := {n : Int // 0 ≤ n ∧ n ≤ 65535}
instance : Inhabited Wd := ⟨⟨0, by omega⟩⟩

section
variable {H : Type} {enc : TypeId × Value → H} {w : World} {base : Nat} {spare : Nat → Bool} {held : Bool} {r : Reach} {b0 : Nat}
end
end Go.Proofs.YtkaogjhnogkcdaaGreat
end

section
namespace Go.Proofs.YtkaogjhnogkcdaaGreat
open Go.RowKit Go.ChangeShapes Go.WideShapes Go.ChangeAt
section
variable {H : Type} {enc : TypeId × Value → H} {w : World} {base : Nat} {spare : Nat → Bool} {held : Bool} {r : Reach} {b0 : Nat}
end
end Go.Proofs.YtkaogjhnogkcdaaGreat
end

section
namespace Go.Proofs.YtkaogjhnogkcdaaGreat
open Go.RowKit
attribute [local go_sem] Ex.cell? Ex.frozen? Gx.cell?

structure TR (gc : Array Value) (w : World) (v1 v2 v3 : Value) (l1 l2 l3 : List Int) (W : World) : Prop where
 bw : Below w.heap.size w W
 q1 : Blk W w.heap.size 27 gc
 qr : Blk W (w.heap.size + 1) 143 #[.slice none 0 0, .slice none 0 0, .slice none 0 0]
 qp : Blk W (w.heap.size + 1 + 1) 143 #[v1, v2, v3]
 o1 : W.ownsRow (w.heap.size + 1 + 1) 3 1 v1 l1.length (l1.map (Value.int .i64))
 o2 : W.ownsRow (w.heap.size + 1 + 1) 3 1 v2 l2.length (l2.map (Value.int .i64))
 o3 : W.ownsRow (w.heap.size + 1 + 1) 3 1 v3 l3.length (l3.map (Value.int .i64))
 n12 : ∀ b, v1.ownBlock = some b → v2.ownBlock ≠ some b
 n13 : ∀ b, v1.ownBlock = some b → v3.ownBlock ≠ some b
 n23 : ∀ b, v2.ownBlock = some b → v3.ownBlock ≠ some b

theorem TR.below {gc : Array Value} {w : World} {v1 v2 v3 : Value} {l1 l2 l3 : List Int} {W W' : World} (h : TR gc w v1 v2 v3 l1 l2 l3 W) (hb : Below W.heap.size W W') : TR gc w v1 v2 v3 l1 l2 l3 W' :=
 ⟨ex_trans h.bw hb, h.q1.below hb h.q1.lt, h.qr.below hb h.qr.lt, h.qp.below hb h.qp.lt, own_below h.o1 hb, own_below h.o2 hb, own_below h.o3 hb, h.n12, h.n13, h.n23⟩

end Go.Proofs.YtkaogjhnogkcdaaGreat
end

section
namespace Go.Proofs.YtkaogjhnogkcdaaGreat
open Go.RowKit
attribute [local go_sem] Ex.cell? Ex.frozen? Gx.cell?

end Go.Proofs.YtkaogjhnogkcdaaGreat
end

section
namespace Go.Proofs.YtkaogjhnogkcdaaGreat
open Go.RowKit
attribute [local go_sem] Ex.cell? Ex.frozen? Gx.cell?

def bitOff (b : Int) (i : Nat) : Prop := ¬ (b / 2 ^ i).tmod 2 = 1
def ReadIs (zs : List Int) (b : Int) (l : List Ic) : Prop := ∀ i, i < l.length → (0 ≤ (gC l i).day ∧ (gC l i).day < zs.length) ∧ (0 ≤ (gC l i).err ∧ (gC l i).err ≤ 3) ∧ (bitOff b i → -(gC l i).err ≤ gI zs (gC l i).day.toNat - (gC l i).zero ∧ gI zs (gC l i).day.toNat - (gC l i).zero ≤ (gC l i).err)

theorem gI_play {g : Gl} {t1 t2 t3 : List Int} {n d : Nat} (hd : d < n) : gI (playTo g t1 t2 t3 n) d = zAt g t1 t2 t3 d := by simp [gI, playTo, hd]

end Go.Proofs.YtkaogjhnogkcdaaGreat
end

section
namespace Go.Proofs.YtkaogjhnogkcdaaGreat

theorem bitOff_zero (i : Nat) : bitOff 0 i := by simp [bitOff]

def AllOf (zs : List Int) (l : List Ic) : Prop := ∀ i, i < l.length → -(gC l i).err ≤ gI zs (gC l i).day.toNat - (gC l i).zero ∧ gI zs (gC l i).day.toNat - (gC l i).zero ≤ (gC l i).err
theorem ReadIs.all {zs : List Int} {l : List Ic} (h : ReadIs zs 0 l) : AllOf zs l := fun i hi => (h i hi).2.2 (bitOff_zero i)
theorem AllOf.take {zs : List Int} {l : List Ic} (h : AllOf zs l) (k : Nat) : AllOf zs (l.take k) := fun i hi => by
 rw [List.length_take] at hi
 rw [gC_take (by omega)]
 exact h i (by omega)
theorem AllOf.fits {zs : List Int} {l : List Ic} (h : AllOf zs l) (o : Nat → Bool) (d : Nat) : fitsB l o (d : Int) (gI zs d) = true := by
 unfold fitsB
 rw [allTo_iff]
 intro k hk
 have hk' := h k hk
 unfold fitOk
 by_cases hd : (gC l k).day = (d : Int)
 ·
  rw [hd] at hk'
  have : inB (gI zs d - (gC l k).zero) (-(gC l k).err) (gC l k).err = true := inB_iff.2 (by simpa using hk')
  rw [this]
  simp
 ·
  simp [hd]

section
variable {g : Gl} {h : List Rg} {l : List Ic} {t1 t2 t3 : List Int}
theorem AllOf.fits' (ha : AllOf (playTo g t1 t2 t3 h.length) l) (o : Nat → Bool) : ∀ d, d < h.length → fitsB l o (d : Int) (zAt g t1 t2 t3 d) = true := fun d hd => by
 have := ha.fits o d
 rwa [gI_play hd] at this
theorem AllOf.can (hok : Ok g h) (ht : truthB g h t1 t2 t3 = true) (ha : AllOf (playTo g t1 t2 t3 h.length) l) (o : Nat → Bool) : ∃ s, Can g h l o h.length s :=
 ⟨_, can_st hok (truthB_iff.1 ht).2 (ha.fits' o) (Nat.le_refl _)⟩
theorem AllOf.agree (hok : Ok g h) (ht : truthB g h t1 t2 t3 = true) (ha : AllOf (playTo g t1 t2 t3 h.length) l) (o : Nat → Bool) : agreeB g h l o = true := agreeB_iff.2 (ha.can hok ht o)
theorem AllOf.within (hok : Ok g h) (ht : truthB g h t1 t2 t3 = true) (ha : AllOf (playTo g t1 t2 t3 h.length) l) {zs : List Rg} (hz : ZsOf g h l zs) {d : Nat} (hd : d < h.length) : (gR zs d).lo ≤ gI (playTo g t1 t2 t3 h.length) d ∧ gI (playTo g t1 t2 t3 h.length) d ≤ (gR zs d).hi := by
 rw [gI_play hd]
 exact (hz.2 d hd).2.2 _ ⟨_, goes_st hok (truthB_iff.1 ht).2 (ha.fits' off0) (by omega), rfl⟩
end
end Go.Proofs.YtkaogjhnogkcdaaGreat
end

section
namespace Go.Proofs.YtkaogjhnogkcdaaGreat

section
variable {g : Gl} {h : List Rg} {l : List Ic}
theorem path_bd (hok : Ok g h) {σ : Nat → St} {n : Nat} (p : Path g h σ n) : ∀ {d : Nat}, d ≤ n → (0 ≤ (σ d).1 ∧ (σ d).1 ≤ 3 * d) ∧ (0 ≤ (σ d).2 ∧ (σ d).2 ≤ 30)
 | 0, _ => by rw [p.1]; simp
 | d + 1, hd => by
  obtain ⟨h1, h2⟩ := path_bd hok p (d := d) (by omega)
  obtain ⟨x, b, c, hx, hb, hc, he⟩ := p.2 d (by omega)
  have k1 := hok.creep d
  have k2 := hok.back
  have k3 := hok.sinks x
  have k4 := mx3_bd ((σ d).2 - b) 0 (sinks g x)
  rw [he]
  simp only
  omega
theorem zat_bd (hok : Ok g h) {i : Nat} (hi : i < h.length) {z : Int} (hz : ZAt g h l i z) : -2000 ≤ z ∧ z ≤ 2000 := by
 obtain ⟨σ, p, _, rfl⟩ := hz
 have h1 := path_bd hok p (d := i + 1) (by omega)
 have h2 := hok.base
 have h3 := hok.nh
 unfold zero
 omega
end

def endT (g : Gl) (h : List Rg) (high : Bool) : List Int × List Int × List Int :=
 ((List.range h.length).map (fun d => if high then (gR h d).lo else (gR h d).hi), (List.range h.length).map (fun d => if high then (creep g d).hi else (creep g d).lo), (List.range h.length).map (fun _ => if high then g.bhi else g.blo))
section
variable {g : Gl} {h : List Rg}
end
end Go.Proofs.YtkaogjhnogkcdaaGreat
end

section
namespace Go.Proofs.YtkaogjhnogkcdaaGreat

def upG (g : Gl) (b : Int) : Gl := ⟨g.base + b, g.bands, g.depths, g.blo, g.bhi⟩
def upI (b : Int) (c : Ic) : Ic := ⟨c.day, c.zero + b, c.err⟩
section
variable {g : Gl} {h : List Rg} {l : List Ic} {b : Int}
end
end Go.Proofs.YtkaogjhnogkcdaaGreat
end

section
namespace Go.Proofs.YtkaogjhnogkcdaaGreat

def cnt (O : Nat → Bool) (n : Nat) : Nat → Nat
 | 0 => 0
 | f + 1 => (if O n then 1 else 0) + cnt O (n + 1) f
section
variable {g : Gl} {h : List Rg} {l : List Ic}
end
end Go.Proofs.YtkaogjhnogkcdaaGreat
end

section
namespace Go.Proofs.YtkaogjhnogkcdaaGreat
open Go.RowKit

def ZerosV (g : Gl) (h : List Rg) (l : List Ic) (n : Nat) (ev : Int) (zs : List Rg) : Prop := (agreeB g h l off0 = false ∧ ev = 9 ∧ n = 0) ∨ (agreeB g h l off0 = true ∧ ev = 0 ∧ n = h.length ∧ ZsOf g h l zs)
def ShowsV (g : Gl) (h : List Rg) (l : List Ic) (k ev : Int) : Prop := (∃ j : Nat, k = (j : Int) ∧ j < l.length ∧ (∀ i, i < j → agreeB g h (l.take (i + 1)) off0 = true) ∧ agreeB g h (l.take (j + 1)) off0 = false ∧ ev = 0) ∨ ((∀ j, j < l.length → agreeB g h (l.take (j + 1)) off0 = true) ∧ k = 0 ∧ ev = 7)
def BlameV (g : Gl) (h : List Rg) (l : List Ic) (k ev : Int) : Prop := ((agreeB g h l off0 = true ∨ (listsL g h l 1).length ≠ 1) ∧ k = 0 ∧ ev = 7) ∨ (agreeB g h l off0 = false ∧ listsL g h l 1 = [[k]] ∧ ev = 0)
section
variable {g : Gl} {h : List Rg} {l : List Ic} {b : Int}
end
end Go.Proofs.YtkaogjhnogkcdaaGreat
end

section
namespace Go.Proofs.YtkaogjhnogkcdaaGreat
open Go.RowKit

structure Paused (p : Prop) : Prop where
 out : p
theorem pause_at {P : Program} {rest : List Oper} {A : Array Oper} {o : Oper} {a : Act} {w : World} {Q : Exit → Act → World → Prop} (d : Nat) (hd : o.dst = some d) (h : Paused (wpList P A Q (o :: rest) a w)) : wpList P A Q (o :: rest) a w := h.out

theorem own_cell {w : World} {base : Nat} {e : TypeId} {sz n : Nat} {v : Value} {xs : List Value} (h : w.ownsRow base e sz v n xs) (hn : 0 < n) :
  ∃ g cap, v = .slice (some ⟨g, 0, none⟩) n cap ∧ base ≤ g ∧ g < w.heap.size ∧ n ≤ cap ∧ cap ≤ maxLen ∧ (∀ i, i < xs.length → w.cell? ⟨g, i, none⟩ = xs[i]?) ∧ ∀ i, w.frozen? ⟨g, i, none⟩ = false := by
 rcases h.2 with ⟨_, h0⟩ | ⟨g, cap, cur, rfl, hb, hh, hnc, hcm, hsz, hc⟩
 ·
  omega
 ·
  refine ⟨g, cap, rfl, hb, (Array.getElem?_eq_some_iff.1 hh).1, hnc, hcm, fun i hi => ?_, fun i => by simp [World.frozen?, hh]⟩
  rw [cell_of_row w g i cur e (0, 0) hh, ← hc, List.getElem?_take, if_pos (by rw [← h.1]; exact hi), Array.getElem?_toList]
theorem ints_cell {w : World} {base : Nat} {e : TypeId} {v : Value} {l : List Int} (h : w.ownsRow base e 1 v l.length (l.map (Value.int .i64))) {k : Nat} (hk : k < l.length) :
  ∃ g cap, v = .slice (some ⟨g, 0, none⟩) l.length cap ∧ base ≤ g ∧ g < w.heap.size ∧ w.cell? ⟨g, k, none⟩ = some (.int .i64 (gI l k)) ∧ ∀ i, w.frozen? ⟨g, i, none⟩ = false := by
 obtain ⟨g, cap, rfl, hb, hl, _, _, hc, hf⟩ := own_cell h (by omega)
 exact ⟨g, cap, rfl, hb, hl, by rw [hc _ (by simpa using hk)]; simp [gI, hk], hf⟩
def upTo (b : Int) (l : List Ic) : Nat → List Ic
 | 0 => l
 | k + 1 => (upTo b l k).set k ⟨(gC l k).day, IntKind.i64.wrap ((gC l k).zero + b), (gC l k).err⟩
end Go.Proofs.YtkaogjhnogkcdaaGreat
end

section
namespace Go.Proofs.YtkaogjhnogkcdaaGreat
open Go.RowKit
attribute [local go_sem] Ex.cell? Ex.frozen? run_store_fn

def woTo (r : Rd) (q : Ki) (air rate off : Int) : Nat → Int
  | 0 => r.shown + off
  | 1 => r.shown + off + stemP r q.k air
  | 2 => r.shown + off + stemP r q.k air + rate * q.lag
  | _ => woP r q air rate off
set_option maxRecDepth 100000 in
set_option maxHeartbeats 1600000 in
theorem without_any (t : Tb) (Ab Ad : Option Addr) (cb cd : Nat) (r : Rd) (q : Ki) (air rate off : Int) (w : World) (hr : RdBd r) (hq : KiBd q) (ha : -100 ≤ air ∧ air ≤ 100) (hra : -20 ≤ rate ∧ rate ≤ 20) (ho : -20 ≤ off ∧ off ≤ 20) :
    Calls Tryz.prog 88 #[.agg #[.int .i64 t.g.base, .slice Ab t.g.bands.length cb, .slice Ad t.g.depths.length cd, .int .i64 t.g.blo, .int .i64 t.g.bhi, .int .i64 t.k.lo, .int .i64 t.k.hi, .int .i64 t.lag.lo, .int .i64 t.lag.hi, .int .i64 t.sq.lo, .int .i64 t.sq.hi, .int .i64 t.term, .int .i64 r.day, .int .i64 r.shown, .int .i64 r.err, .int .i64 r.bare, .int .i64 r.air.lo, .int .i64 r.air.hi, .int .i64 r.rate.lo, .int .i64 r.rate.hi, .int .i64 r.deep, .bool r.broken], .agg #[.int .i64 q.k, .int .i64 q.lag, .int .i64 q.sq], .int .i64 air, .int .i64 rate, .int .i64 off] w fun e w' => e = .returned (.int .i64 (woP r q air rate off)) ∧ Below w.heap.size w w' := by
  have hb1 := ex_alloc (ex_alloc (Below.refl w.heap.size w) (.cells #[.int .i64 t.g.base, .slice Ab t.g.bands.length cb, .slice Ad t.g.depths.length cd, .int .i64 t.g.blo, .int .i64 t.g.bhi, .int .i64 t.k.lo, .int .i64 t.k.hi, .int .i64 t.lag.lo, .int .i64 t.lag.hi, .int .i64 t.sq.lo, .int .i64 t.sq.hi, .int .i64 t.term, .int .i64 r.day, .int .i64 r.shown, .int .i64 r.err, .int .i64 r.bare, .int .i64 r.air.lo, .int .i64 r.air.hi, .int .i64 r.rate.lo, .int .i64 r.rate.hi, .int .i64 r.deep, .bool r.broken] 170)) (.cells #[.int .i64 q.k, .int .i64 q.lag, .int .i64 q.sq] 137)
  have q1 : Blk ((w.alloc (.cells #[.int .i64 t.g.base, .slice Ab t.g.bands.length cb, .slice Ad t.g.depths.length cd, .int .i64 t.g.blo, .int .i64 t.g.bhi, .int .i64 t.k.lo, .int .i64 t.k.hi, .int .i64 t.lag.lo, .int .i64 t.lag.hi, .int .i64 t.sq.lo, .int .i64 t.sq.hi, .int .i64 t.term, .int .i64 r.day, .int .i64 r.shown, .int .i64 r.err, .int .i64 r.bare, .int .i64 r.air.lo, .int .i64 r.air.hi, .int .i64 r.rate.lo, .int .i64 r.rate.hi, .int .i64 r.deep, .bool r.broken] 170)).alloc (.cells #[.int .i64 q.k, .int .i64 q.lag, .int .i64 q.sq] 137)) w.heap.size 170 #[.int .i64 t.g.base, .slice Ab t.g.bands.length cb, .slice Ad t.g.depths.length cd, .int .i64 t.g.blo, .int .i64 t.g.bhi, .int .i64 t.k.lo, .int .i64 t.k.hi, .int .i64 t.lag.lo, .int .i64 t.lag.hi, .int .i64 t.sq.lo, .int .i64 t.sq.hi, .int .i64 t.term, .int .i64 r.day, .int .i64 r.shown, .int .i64 r.err, .int .i64 r.bare, .int .i64 r.air.lo, .int .i64 r.air.hi, .int .i64 r.rate.lo, .int .i64 r.rate.hi, .int .i64 r.deep, .bool r.broken] := (Blk.new _ _ _).alloc _
  have q2 : Blk ((w.alloc (.cells #[.int .i64 t.g.base, .slice Ab t.g.bands.length cb, .slice Ad t.g.depths.length cd, .int .i64 t.g.blo, .int .i64 t.g.bhi, .int .i64 t.k.lo, .int .i64 t.k.hi, .int .i64 t.lag.lo, .int .i64 t.lag.hi, .int .i64 t.sq.lo, .int .i64 t.sq.hi, .int .i64 t.term, .int .i64 r.day, .int .i64 r.shown, .int .i64 r.err, .int .i64 r.bare, .int .i64 r.air.lo, .int .i64 r.air.hi, .int .i64 r.rate.lo, .int .i64 r.rate.hi, .int .i64 r.deep, .bool r.broken] 170)).alloc (.cells #[.int .i64 q.k, .int .i64 q.lag, .int .i64 q.sq] 137)) (w.heap.size + 1) 137 #[.int .i64 q.k, .int .i64 q.lag, .int .i64 q.sq] := Blk.new' _ _ _ (by simp)
  have s1 := hr.shown
  have s2 := (stem_bd hr hq.k ha).2.2
  have s3 := late_bd hq hra
  have s4 := deep_bd hq hr
  go_enter Tryz.func88, Tryz.ntmps88
  go_wp2_with fail
  refine (sm_parts _).mono ?_
  rintro e w1 ⟨rfl, hw1⟩
  have hB := ex_trans hb1 hw1
  replace q1 := q1.below hw1 q1.lt
  replace q2 := q2.below hw1 q2.lt
  go_wp2_with fail
  go_loopw [11, 13, 20] (fun n p i wr => ∃ k : Nat, k ≤ 3 ∧ i = .int .i64 (k : Int) ∧ n = .int .i64 (woTo r q air rate off k) ∧ Below w.heap.size w wr ∧ Blk wr w.heap.size 170 #[.int .i64 t.g.base, .slice Ab t.g.bands.length cb, .slice Ad t.g.depths.length cd, .int .i64 t.g.blo, .int .i64 t.g.bhi, .int .i64 t.k.lo, .int .i64 t.k.hi, .int .i64 t.lag.lo, .int .i64 t.lag.hi, .int .i64 t.sq.lo, .int .i64 t.sq.hi, .int .i64 t.term, .int .i64 r.day, .int .i64 r.shown, .int .i64 r.err, .int .i64 r.bare, .int .i64 r.air.lo, .int .i64 r.air.hi, .int .i64 r.rate.lo, .int .i64 r.rate.hi, .int .i64 r.deep, .bool r.broken] ∧ Blk wr (w.heap.size + 1) 137 #[.int .i64 q.k, .int .i64 q.lag, .int .i64 q.sq])
    (fun _ _ i _ => 3 - (intOf i).toNat)
  case atStart => exact ⟨0, by omega, rfl, rfl, hB, q1, q2⟩
  case round =>
    obtain ⟨k, hk, rfl, rfl, hbl, hq1, hq2⟩ := hrel
    clear q1 q2 hB hw1 hb1
    rcases (show k = 0 ∨ k = 1 ∨ k = 2 ∨ k = 3 by omega) with rfl | rfl | rfl | rfl
    · have b0 : wr.cell? ⟨w.heap.size + 1, 0, none⟩ = some (.int .i64 q.k) := hq2.cell 0
      have b1 : wr.cell? ⟨w.heap.size + 1, 1, none⟩ = some (.int .i64 q.lag) := hq2.cell 1
      have b2 : wr.cell? ⟨w.heap.size + 1, 2, none⟩ = some (.int .i64 q.sq) := hq2.cell 2
      have lb := hq2.lt
      have hI : ∀ W, (Instr.index 211 (.agg #[.func (.func 142) #[] #[], .func (.func 143) #[] #[], .func (.func 144) #[] #[]]) (.int .i64 0)).run Tryz.prog W = .ok (.agg #[.func (.func 142) #[] #[]]) W := fun W => by kernel_rfl
      have hb2 := ex_alloc (Below.refl wr.heap.size wr) (.cells #[.func (.func 142) #[] #[]] 209)
      have hwr : IntKind.i64.wrap (woTo r q air rate off 0 + stemP r q.k air) = woTo r q air rate off 1 := IntWalk.i64_in _ (by simp only [woTo]; omega)
      go_wp2_with (refine pause_at 26 rfl ?_)
      refine Paused.mk ?_
      refine wpList_load_row rfl 170 _ rfl _ rfl 170 _ (0, 0) _ (hq1.alloc _) Tryz.underlying170 rfl (by kernel_rfl) ?_
      go_wp2_with fail
      refine (sm_stem t Ab Ad cb cd r q air rate _ hr hq.k ha).mono ?_
      rintro e w2 ⟨rfl, hw2⟩
      have hB2 := ex_trans hb2 hw2
      replace hq1 := hq1.below hB2 hq1.lt
      replace hq2 := hq2.below hB2 hq2.lt
      clear b0 b1 b2 lb
      go_wp2
      go_roundw
      case rel => exact ⟨1, by omega, by go_num, rfl, ex_trans hbl hB2, hq1, hq2⟩
      case measure => simp [intOf]
    · have b0 : wr.cell? ⟨w.heap.size + 1, 0, none⟩ = some (.int .i64 q.k) := hq2.cell 0
      have b1 : wr.cell? ⟨w.heap.size + 1, 1, none⟩ = some (.int .i64 q.lag) := hq2.cell 1
      have b2 : wr.cell? ⟨w.heap.size + 1, 2, none⟩ = some (.int .i64 q.sq) := hq2.cell 2
      have lb := hq2.lt
      have hI : ∀ W, (Instr.index 211 (.agg #[.func (.func 142) #[] #[], .func (.func 143) #[] #[], .func (.func 144) #[] #[]]) (.int .i64 1)).run Tryz.prog W = .ok (.agg #[.func (.func 143) #[] #[]]) W := fun W => by kernel_rfl
      have hb2 := ex_alloc (Below.refl wr.heap.size wr) (.cells #[.func (.func 143) #[] #[]] 209)
      have hwr : IntKind.i64.wrap (woTo r q air rate off 1 + rate * q.lag) = woTo r q air rate off 2 := IntWalk.i64_in _ (by simp only [woTo]; omega)
      go_wp2_with (refine pause_at 26 rfl ?_)
      refine Paused.mk ?_
      refine wpList_load_row rfl 170 _ rfl _ rfl 170 _ (0, 0) _ (hq1.alloc _) Tryz.underlying170 rfl (by kernel_rfl) ?_
      go_wp2_with fail
      refine (sm_late t Ab Ad cb cd r q air rate _ hq hra).mono ?_
      rintro e w2 ⟨rfl, hw2⟩
      have hB2 := ex_trans hb2 hw2
      replace hq1 := hq1.below hB2 hq1.lt
      replace hq2 := hq2.below hB2 hq2.lt
      clear b0 b1 b2 lb
      go_wp2
      go_roundw
      case rel => exact ⟨2, by omega, by go_num, rfl, ex_trans hbl hB2, hq1, hq2⟩
      case measure => simp [intOf]
    · have b0 : wr.cell? ⟨w.heap.size + 1, 0, none⟩ = some (.int .i64 q.k) := hq2.cell 0
      have b1 : wr.cell? ⟨w.heap.size + 1, 1, none⟩ = some (.int .i64 q.lag) := hq2.cell 1
      have b2 : wr.cell? ⟨w.heap.size + 1, 2, none⟩ = some (.int .i64 q.sq) := hq2.cell 2
      have lb := hq2.lt
      have hI : ∀ W, (Instr.index 211 (.agg #[.func (.func 142) #[] #[], .func (.func 143) #[] #[], .func (.func 144) #[] #[]]) (.int .i64 2)).run Tryz.prog W = .ok (.agg #[.func (.func 144) #[] #[]]) W := fun W => by kernel_rfl
      have hb2 := ex_alloc (Below.refl wr.heap.size wr) (.cells #[.func (.func 144) #[] #[]] 209)
      have hwr : IntKind.i64.wrap (woTo r q air rate off 2 + -(q.sq * r.deep)) = woTo r q air rate off 3 := IntWalk.i64_in _ (by simp only [woTo]; omega)
      go_wp2_with (refine pause_at 26 rfl ?_)
      refine Paused.mk ?_
      refine wpList_load_row rfl 170 _ rfl _ rfl 170 _ (0, 0) _ (hq1.alloc _) Tryz.underlying170 rfl (by kernel_rfl) ?_
      go_wp2_with fail
      refine (sm_squeezed t Ab Ad cb cd r q air rate _ hq hr).mono ?_
      rintro e w2 ⟨rfl, hw2⟩
      have hB2 := ex_trans hb2 hw2
      replace hq1 := hq1.below hB2 hq1.lt
      replace hq2 := hq2.below hB2 hq2.lt
      clear b0 b1 b2 lb
      go_wp2
      go_roundw
      case rel => exact ⟨3, by omega, by go_num, rfl, ex_trans hbl hB2, hq1, hq2⟩
      case measure => simp [intOf]
    · go_wp2
      go_ret
      exact ⟨rfl, hbl⟩

def mnTo (xs : List Int) : Nat → Int
  | 0 => gI xs 0
  | k + 1 => min (mnTo xs k) (gI xs k)
theorem min_any (A : Option Addr) (c B n : Nat) (xs : List Int) (w : World) (h1 : 1 ≤ n) (hl : n ≤ 1000000) (hA : SlAt w B 1 A n (fI xs)) :
    Calls Tryz.prog 102 #[.slice A n c] w fun e w' => e = .returned (.int .i64 (mnTo xs n)) ∧ w = w' := by
  obtain ⟨b, off, rfl, hb, hc⟩ := hA (by omega)
  have hc0 : w.cell? ⟨b, off, none⟩ = some (.int .i64 (gI xs 0)) := by simpa [fI] using hc 0 0 (by omega) (by omega)
  have hc : ∀ k, k < n → w.cell? ⟨b, off + k, none⟩ = some (.int .i64 (gI xs k)) := fun k hk => by simpa [fI] using hc k 0 hk (by omega)
  go_enter Tryz.func102, Tryz.ntmps102
  go_wp2
  go_loop [3, 4] (fun m i => ∃ k : Nat, 1 ≤ k ∧ k ≤ n ∧ i = .int .i64 k ∧ m = .int .i64 (mnTo xs k)) (fun _ i => n - (intOf i).toNat)
  case atStart => exact ⟨1, by omega, by omega, rfl, by simp [mnTo]⟩
  case round =>
    obtain ⟨k, hk1, hk, rfl, rfl⟩ := hrel
    by_cases hlt : k < n
    · have hcell := hc k hlt
      go_wp2
      go_round
      case rel => exact ⟨k + 1, by omega, by omega, by go_num, by first | (simp only [mnTo]; done) | (simp only [mnTo]; congr 1; done) | (simp only [mnTo]; congr 1; split <;> omega)⟩
      case measure => simp [intOf]; omega
    · have : k = n := by omega
      subst this
      go_wp2
      go_ret
      exact ⟨rfl, rfl⟩
theorem sm_least (A : Option Addr) (c B n : Nat) (xs : List Int) (w : World) (h1 : 1 ≤ n) (hl : n ≤ 1000000) (hA : SlAt w B 1 A n (fI xs)) :
    Calls Tryz.prog 70 #[.slice A n c] w fun e w' => e = .returned (.int .i64 (mnTo xs n)) ∧ w = w' := by
  go_enter Tryz.func70, Tryz.ntmps70
  go_wp2_with (go_at_call 102; refine (min_any _ _ _ _ _ _ h1 hl hA).mono ?_; rintro e w' ⟨rfl, rfl⟩)
  go_ret
  exact ⟨rfl, rfl⟩
theorem sm_greatest (A : Option Addr) (c B n : Nat) (xs : List Int) (w : World) (h1 : 1 ≤ n) (hl : n ≤ 1000000) (hA : SlAt w B 1 A n (fI xs)) :
    Calls Tryz.prog 71 #[.slice A n c] w fun e w' => e = .returned (.int .i64 (mxTo xs n)) ∧ w = w' := by
  go_enter Tryz.func71, Tryz.ntmps71
  go_wp2_with (go_at_call 103; refine (max_any _ _ _ _ _ _ h1 hl hA).mono ?_; rintro e w' ⟨rfl, rfl⟩)
  go_ret
  exact ⟨rfl, rfl⟩
theorem two_ints {w : World} {b : Nat} {x y : Int} (h : Blk w b 3 #[.int .i64 x, .int .i64 y]) : SlAt w (b + 1) 1 (some ⟨b, 0, none⟩) 2 (fI [x, y]) := fun _ => ⟨b, 0, rfl, by omega, fun k j hk hj => by
  rw [h.cell]
  obtain rfl : j = 0 := by omega
  match k, hk with
  | 0, _ => rfl
  | 1, _ => rfl⟩
theorem sm_least2 (b c : Nat) (x y : Int) (w : World) (h : Blk w b 3 #[.int .i64 x, .int .i64 y]) :
    Calls Tryz.prog 70 #[.slice (some ⟨b, 0, none⟩) 2 c] w fun e w' => e = .returned (.int .i64 (min x y)) ∧ w = w' := by
  refine (sm_least _ c (b + 1) 2 [x, y] w (by omega) (by omega) (two_ints h)).mono ?_
  rintro e w' ⟨rfl, rfl⟩
  exact ⟨ret_int (by simp [mnTo, gI]), rfl⟩
theorem sm_greatest2 (b c : Nat) (x y : Int) (w : World) (h : Blk w b 3 #[.int .i64 x, .int .i64 y]) :
    Calls Tryz.prog 71 #[.slice (some ⟨b, 0, none⟩) 2 c] w fun e w' => e = .returned (.int .i64 (max x y)) ∧ w = w' := by
  refine (sm_greatest _ c (b + 1) 2 [x, y] w (by omega) (by omega) (two_ints h)).mono ?_
  rintro e w' ⟨rfl, rfl⟩
  exact ⟨ret_int (by simp [mxTo, gI]), rfl⟩
end Go.Proofs.YtkaogjhnogkcdaaGreat
end

section
namespace Go.Proofs.YtkaogjhnogkcdaaGreat
open Go.RowKit
theorem wpQuiet_load_row {P : Program} {ops : Array Oper} {C : World → Prop} {Q : Act → Prop} {rest : List Oper} {o : Oper} {a : Act} (hgd : o.guard = none) (ty : TypeId) (x : Operand) (ho : o.op = .load ty x)
  (g : Nat) (hx : a.eval x = .pointer (some ⟨g, 0, none⟩)) (t : TypeId) (cs : Array Value) (fr : Nat × Nat) (d : TypeDesc) (hg : ∀ w, C w → w.heap[g]? = some (.cells cs t fr))
  (hu : P.underlying ty = some d) (hd : (match d with | .struct _ | .array _ _ => true | _ => false) = true) (hi : (P.info? ty).map (·.size) = some cs.size)
  (h : wpQuiet P ops C Q rest (a.put o.dst (.agg cs))) : wpQuiet P ops C Q (o :: rest) a := by
 unfold wpQuiet
 rw [if_pos (by simp [Region.wanted, hgd])]
 refine ⟨.agg cs, fun w hw => ?_, h⟩
 unfold Oper.quietAt execOp
 simp only [ho, hx, Instr.loadAt, Instr.sureAddr, Sem.run_bind, Sem.run_pure, Result.andThen_ok, run_loadVar_row w g t ty cs fr d (hg w hw) hu hd hi]
 exact ⟨rfl, rfl⟩
theorem Blk.ex {w : World} {g : Nat} {t : TypeId} {cs : Array Value} (h : Blk w g t cs) : ∀ w', (∃ x : Ex w, w' = x.W) → w'.heap[g]? = some (.cells cs t (0, 0)) := by
 rintro w' ⟨x, rfl⟩
 exact h.below x.h h.lt
end Go.Proofs.YtkaogjhnogkcdaaGreat
end

section
namespace Go.Proofs.YtkaogjhnogkcdaaGreat
open Go.RowKit
attribute [local go_sem] Ex.cell? Ex.frozen?

set_option maxRecDepth 100000 in
set_option maxHeartbeats 3200000 in
theorem sm_span (t : Tb) (Ab Ad : Option Addr) (cb cd : Nat) (r : Rd) (q : Ki) (rate : Int) (w : World) (hr : RdBd r) (hq : KiBd q) (hra : -20 ≤ rate ∧ rate ≤ 20) :
  Calls Tryz.prog 121 #[.agg #[.int .i64 t.g.base, .slice Ab t.g.bands.length cb, .slice Ad t.g.depths.length cd, .int .i64 t.g.blo, .int .i64 t.g.bhi, .int .i64 t.k.lo, .int .i64 t.k.hi, .int .i64 t.lag.lo, .int .i64 t.lag.hi, .int .i64 t.sq.lo, .int .i64 t.sq.hi, .int .i64 t.term, .int .i64 r.day, .int .i64 r.shown, .int .i64 r.err, .int .i64 r.bare, .int .i64 r.air.lo, .int .i64 r.air.hi, .int .i64 r.rate.lo, .int .i64 r.rate.hi, .int .i64 r.deep, .bool r.broken], .agg #[.int .i64 q.k, .int .i64 q.lag, .int .i64 q.sq], .int .i64 rate] w fun e w' => e = .returned (.agg #[.int .i64 (spanP r q rate).lo, .int .i64 (spanP r q rate).hi]) ∧ Below w.heap.size w w' := by
 have ha1 : -100 ≤ r.air.lo ∧ r.air.lo ≤ 100 := by have := hr.air; omega
 have ha2 : -100 ≤ r.air.hi ∧ r.air.hi ≤ 100 := by have := hr.air; omega
 have hw1 := woP_bd hq hr ha1 hra (off := 0) (by omega)
 have hw2 := woP_bd hq hr ha2 hra (off := 0) (by omega)
 have he := hr.err
 have hb1 := ex_alloc (ex_alloc (ex_alloc (Below.refl w.heap.size w) (.cells #[.int .i64 t.g.base, .slice Ab t.g.bands.length cb, .slice Ad t.g.depths.length cd, .int .i64 t.g.blo, .int .i64 t.g.bhi, .int .i64 t.k.lo, .int .i64 t.k.hi, .int .i64 t.lag.lo, .int .i64 t.lag.hi, .int .i64 t.sq.lo, .int .i64 t.sq.hi, .int .i64 t.term, .int .i64 r.day, .int .i64 r.shown, .int .i64 r.err, .int .i64 r.bare, .int .i64 r.air.lo, .int .i64 r.air.hi, .int .i64 r.rate.lo, .int .i64 r.rate.hi, .int .i64 r.deep, .bool r.broken] 170)) (.cells #[.int .i64 q.k, .int .i64 q.lag, .int .i64 q.sq] 137)) (.cells #[.int .i64 0, .int .i64 0] 41)
 have q1 : Blk (((w.alloc (.cells #[.int .i64 t.g.base, .slice Ab t.g.bands.length cb, .slice Ad t.g.depths.length cd, .int .i64 t.g.blo, .int .i64 t.g.bhi, .int .i64 t.k.lo, .int .i64 t.k.hi, .int .i64 t.lag.lo, .int .i64 t.lag.hi, .int .i64 t.sq.lo, .int .i64 t.sq.hi, .int .i64 t.term, .int .i64 r.day, .int .i64 r.shown, .int .i64 r.err, .int .i64 r.bare, .int .i64 r.air.lo, .int .i64 r.air.hi, .int .i64 r.rate.lo, .int .i64 r.rate.hi, .int .i64 r.deep, .bool r.broken] 170)).alloc (.cells #[.int .i64 q.k, .int .i64 q.lag, .int .i64 q.sq] 137)).alloc (.cells #[.int .i64 0, .int .i64 0] 41)) w.heap.size 170 #[.int .i64 t.g.base, .slice Ab t.g.bands.length cb, .slice Ad t.g.depths.length cd, .int .i64 t.g.blo, .int .i64 t.g.bhi, .int .i64 t.k.lo, .int .i64 t.k.hi, .int .i64 t.lag.lo, .int .i64 t.lag.hi, .int .i64 t.sq.lo, .int .i64 t.sq.hi, .int .i64 t.term, .int .i64 r.day, .int .i64 r.shown, .int .i64 r.err, .int .i64 r.bare, .int .i64 r.air.lo, .int .i64 r.air.hi, .int .i64 r.rate.lo, .int .i64 r.rate.hi, .int .i64 r.deep, .bool r.broken] := ((Blk.new _ _ _).alloc _).alloc _
 have q2 : Blk (((w.alloc (.cells #[.int .i64 t.g.base, .slice Ab t.g.bands.length cb, .slice Ad t.g.depths.length cd, .int .i64 t.g.blo, .int .i64 t.g.bhi, .int .i64 t.k.lo, .int .i64 t.k.hi, .int .i64 t.lag.lo, .int .i64 t.lag.hi, .int .i64 t.sq.lo, .int .i64 t.sq.hi, .int .i64 t.term, .int .i64 r.day, .int .i64 r.shown, .int .i64 r.err, .int .i64 r.bare, .int .i64 r.air.lo, .int .i64 r.air.hi, .int .i64 r.rate.lo, .int .i64 r.rate.hi, .int .i64 r.deep, .bool r.broken] 170)).alloc (.cells #[.int .i64 q.k, .int .i64 q.lag, .int .i64 q.sq] 137)).alloc (.cells #[.int .i64 0, .int .i64 0] 41)) (w.heap.size + 1) 137 #[.int .i64 q.k, .int .i64 q.lag, .int .i64 q.sq] := (Blk.new' _ _ _ (by simp)).alloc _
 have q3 : Blk (((w.alloc (.cells #[.int .i64 t.g.base, .slice Ab t.g.bands.length cb, .slice Ad t.g.depths.length cd, .int .i64 t.g.blo, .int .i64 t.g.bhi, .int .i64 t.k.lo, .int .i64 t.k.hi, .int .i64 t.lag.lo, .int .i64 t.lag.hi, .int .i64 t.sq.lo, .int .i64 t.sq.hi, .int .i64 t.term, .int .i64 r.day, .int .i64 r.shown, .int .i64 r.err, .int .i64 r.bare, .int .i64 r.air.lo, .int .i64 r.air.hi, .int .i64 r.rate.lo, .int .i64 r.rate.hi, .int .i64 r.deep, .bool r.broken] 170)).alloc (.cells #[.int .i64 q.k, .int .i64 q.lag, .int .i64 q.sq] 137)).alloc (.cells #[.int .i64 0, .int .i64 0] 41)) (w.heap.size + 1 + 1) 41 #[.int .i64 0, .int .i64 0] := Blk.new' _ _ _ (by simp)
 go_enter Tryz.func121, Tryz.ntmps121
 go_upto_region 1 with fail
 show Code.wp _ _ _ _ (((w.alloc (.cells #[.int .i64 t.g.base, .slice Ab t.g.bands.length cb, .slice Ad t.g.depths.length cd, .int .i64 t.g.blo, .int .i64 t.g.bhi, .int .i64 t.k.lo, .int .i64 t.k.hi, .int .i64 t.lag.lo, .int .i64 t.lag.hi, .int .i64 t.sq.lo, .int .i64 t.sq.hi, .int .i64 t.term, .int .i64 r.day, .int .i64 r.shown, .int .i64 r.err, .int .i64 r.bare, .int .i64 r.air.lo, .int .i64 r.air.hi, .int .i64 r.rate.lo, .int .i64 r.rate.hi, .int .i64 r.deep, .bool r.broken] 170)).alloc (.cells #[.int .i64 q.k, .int .i64 q.lag, .int .i64 q.sq] 137)).alloc (.cells #[.int .i64 0, .int .i64 0] 41))
 generalize ((w.alloc (.cells #[.int .i64 t.g.base, .slice Ab t.g.bands.length cb, .slice Ad t.g.depths.length cd, .int .i64 t.g.blo, .int .i64 t.g.bhi, .int .i64 t.k.lo, .int .i64 t.k.hi, .int .i64 t.lag.lo, .int .i64 t.lag.hi, .int .i64 t.sq.lo, .int .i64 t.sq.hi, .int .i64 t.term, .int .i64 r.day, .int .i64 r.shown, .int .i64 r.err, .int .i64 r.bare, .int .i64 r.air.lo, .int .i64 r.air.hi, .int .i64 r.rate.lo, .int .i64 r.rate.hi, .int .i64 r.deep, .bool r.broken] 170)).alloc (.cells #[.int .i64 q.k, .int .i64 q.lag, .int .i64 q.sq] 137)).alloc (.cells #[.int .i64 0, .int .i64 0] 41) = V at *
 have a14 : V.cell? ⟨w.heap.size, 14, none⟩ = some (.int .i64 r.err) := q1.cell 14
 have a16 : V.cell? ⟨w.heap.size, 16, none⟩ = some (.int .i64 r.air.lo) := q1.cell 16
 have a17 : V.cell? ⟨w.heap.size, 17, none⟩ = some (.int .i64 r.air.hi) := q1.cell 17
 have la := q1.lt
 have b0 : V.cell? ⟨w.heap.size + 1, 0, none⟩ = some (.int .i64 q.k) := q2.cell 0
 have b1 : V.cell? ⟨w.heap.size + 1, 1, none⟩ = some (.int .i64 q.lag) := q2.cell 1
 have b2 : V.cell? ⟨w.heap.size + 1, 2, none⟩ = some (.int .i64 q.sq) := q2.cell 2
 have lb := q2.lt
 go_wp2_with fail
 refine wp_region_ext (by kernel_rfl) (by kernel_rfl) ?_
 refine wpQuiet_load_row rfl 170 _ rfl _ rfl 170 _ (0, 0) _ q1.ex Tryz.underlying170 rfl (by kernel_rfl) ?_
 simp only [Act.put, List.setIfInBounds_toArray, List.set_cons_zero, List.set_cons_succ]
 repeat (go_big_quiet_step ((go_at_call 88; first | exact Calls.ext_of (without_any t Ab Ad cb cd r q _ _ _ _ hr hq ha1 hra (by omega)) | exact Calls.ext_of (without_any t Ab Ad cb cd r q _ _ _ _ hr hq ha2 hra (by omega)))))
 refine wpQuiet_load_row rfl 170 _ rfl _ rfl 170 _ (0, 0) _ q1.ex Tryz.underlying170 rfl (by kernel_rfl) ?_
 simp only [Act.put, List.setIfInBounds_toArray, List.set_cons_zero, List.set_cons_succ]
 repeat (go_big_quiet_step ((go_at_call 88; first | exact Calls.ext_of (without_any t Ab Ad cb cd r q _ _ _ _ hr hq ha1 hra (by omega)) | exact Calls.ext_of (without_any t Ab Ad cb cd r q _ _ _ _ hr hq ha2 hra (by omega)))))
 refine wpQuiet_nil ?_; intro _ hw'; obtain ⟨X, rfl⟩ := hw'
 clear b0 b1 b2 lb
 clear a14 a16 a17 la
 replace q1 := q1.below X.h q1.lt
 replace q2 := q2.below X.h q2.lt
 replace q3 := q3.below X.h q3.lt
 have B_X.W := ex_trans hb1 X.h
 generalize X.W = V2 at *
 go_wp2_with fail
 have a14 : V2.cell? ⟨w.heap.size, 14, none⟩ = some (.int .i64 r.err) := q1.cell 14
 have la := q1.lt
 generalize hA : woP r q r.air.lo rate 0 = x at *
 generalize hB : woP r q r.air.hi rate 0 = y at *
 have HA := Lib.hid hA
 have HB := Lib.hid hB
 clear hA hB
 refine wp_region_ext_tq 17 (.quiet 0 (.quiet 1 (.quiet 4 (.quiet 5 (.quiet 6 (.quiet 8 (.quiet 9 (.quiet 12 (.quiet 13 (.quiet 14 (.fork 2 (.fork 3 (.quiet 7 (.loud 10 (.loud 11 (.quiet 15 (.quiet 16 .done))))) 10 (.loud 3 (.quiet 7 (.loud 11 (.quiet 15 (.quiet 16 .done)))))) 10 (.loud 2 (.loud 3 (.quiet 7 (.loud 11 (.quiet 15 (.quiet 16 .done))))))))))))))))) (by kernel_rfl) (by kernel_rfl) (by intro d _ _ _ _ h; cases d <;> exact h) ?_
 have D0 := (Below.refl V2.heap.size V2).drew
 repeat (refine tq_quiet rfl ?_; go_big_quiet_step (fail); refine wpQuiet_nil ?_)
 refine tq_fork rfl rfl ?_ ?_
 ·
  go_wp2_with fail
  have N1 := ex_alloc (Below.refl V2.heap.size V2) (.cells #[.int .i64 (x), .int .i64 (y)] 3)
  have b1 : Blk (V2.alloc (.cells #[.int .i64 (x), .int .i64 (y)] 3)) (V2.heap.size) 3 #[.int .i64 (x), .int .i64 (y)] := Blk.new' _ _ _ (by simp)
  refine ⟨inEx N1.drew, ?_⟩
  repeat (refine tq_quiet rfl ?_; go_big_quiet_step (fail); refine wpQuiet_nil ?_)
  refine tq_fork rfl rfl ?_ ?_
  ·
   go_wp2_with fail
   refine (sm_least2 _ _ _ _ _ b1.drew).mono ?_
   rintro e w' ⟨rfl, rfl⟩
   go_wp2_with fail
   refine ⟨inEx N1.drew, ?_⟩
   repeat (refine tq_quiet rfl ?_; go_big_quiet_step (fail); refine wpQuiet_nil ?_)
   refine tq_loud rfl ?_
   go_wp2_with fail
   have N2 := ex_alloc N1 (.cells #[.int .i64 (x), .int .i64 (y)] 3)
   have b2 : Blk ((V2.alloc (.cells #[.int .i64 (x), .int .i64 (y)] 3)).alloc (.cells #[.int .i64 (x), .int .i64 (y)] 3)) (V2.heap.size + 1) 3 #[.int .i64 (x), .int .i64 (y)] := Blk.new' _ _ _ (by simp)
   replace b1 := b1.alloc (.cells #[.int .i64 (x), .int .i64 (y)] 3)
   refine ⟨inEx N2.drew, ?_⟩
   repeat (refine tq_quiet rfl ?_; go_big_quiet_step (fail); refine wpQuiet_nil ?_)
   refine tq_loud rfl ?_
   go_wp2_with fail
   refine (sm_greatest2 _ _ _ _ _ b2.drew).mono ?_
   rintro e w' ⟨rfl, rfl⟩
   go_wp2_with fail
   refine ⟨inEx N2.drew, ?_⟩
   repeat (refine tq_quiet rfl ?_; go_big_quiet_step (fail); refine wpQuiet_nil ?_)
   refine tq_done (r := [_]) rfl ?_
   replace q3 := q3.below N2.drew q3.lt
   have B_V1 := ex_trans B_X.W N2.drew
   clear a14 la
   clear D0 N2 b2 N1 b1
   generalize ((V2.alloc (.cells #[.int .i64 (x), .int .i64 (y)] 3)).alloc (.cells #[.int .i64 (x), .int .i64 (y)] 3)).drew = V1 at *
   have m0 := q3.cell 0
   have m2 := q3.cell 1
   simp at m0 m2
   have mf := q3.frozen0
   have ml := q3.lt
   have m3 := (q3.set_ 0 (.int .i64 (min x y - r.err))).set_ 1 (.int .i64 (max x y + r.err))
   simp only [List.setIfInBounds_toArray, List.set_cons_zero, List.set_cons_succ] at m3
   have e0 : w.heap.size ≤ w.heap.size + 1 + 1 := by omega
   go_wp2
   refine bodyPost_ret (results_cell_row rfl _ _ _ 41 #[.int .i64 (min x y - r.err), .int .i64 (max x y + r.err)] (0, 0) _ rfl m3 rfl rfl rfl) rfl ?_
   rw [← HA.out, ← HB.out]
   exact ⟨rfl, ex_set (p := ⟨w.heap.size + 1 + 1, 1, none⟩) (ex_set (p := ⟨w.heap.size + 1 + 1, 0, none⟩) B_V1 e0 _) e0 _⟩
  ·
   go_wp2_with fail
   have N2 := ex_alloc N1 (.cells #[.int .i64 (x), .int .i64 (y)] 3)
   have b2 : Blk ((V2.alloc (.cells #[.int .i64 (x), .int .i64 (y)] 3)).alloc (.cells #[.int .i64 (x), .int .i64 (y)] 3)) (V2.heap.size + 1) 3 #[.int .i64 (x), .int .i64 (y)] := Blk.new' _ _ _ (by simp)
   replace b1 := b1.alloc (.cells #[.int .i64 (x), .int .i64 (y)] 3)
   refine ⟨inEx N2.drew, ?_⟩
   repeat (refine tq_quiet rfl ?_; go_big_quiet_step (fail); refine wpQuiet_nil ?_)
   refine tq_loud rfl ?_
   go_wp2_with fail
   refine (sm_least2 _ _ _ _ _ b1.drew).mono ?_
   rintro e w' ⟨rfl, rfl⟩
   go_wp2_with fail
   refine ⟨inEx N2.drew, ?_⟩
   repeat (refine tq_quiet rfl ?_; go_big_quiet_step (fail); refine wpQuiet_nil ?_)
   refine tq_loud rfl ?_
   go_wp2_with fail
   refine (sm_greatest2 _ _ _ _ _ b2.drew).mono ?_
   rintro e w' ⟨rfl, rfl⟩
   go_wp2_with fail
   refine ⟨inEx N2.drew, ?_⟩
   repeat (refine tq_quiet rfl ?_; go_big_quiet_step (fail); refine wpQuiet_nil ?_)
   refine tq_done (r := [_]) rfl ?_
   replace q3 := q3.below N2.drew q3.lt
   have B_V2 := ex_trans B_X.W N2.drew
   clear a14 la
   clear D0 N2 b2 N1 b1
   generalize ((V2.alloc (.cells #[.int .i64 (x), .int .i64 (y)] 3)).alloc (.cells #[.int .i64 (x), .int .i64 (y)] 3)).drew = V2 at *
   have m0 := q3.cell 0
   have m2 := q3.cell 1
   simp at m0 m2
   have mf := q3.frozen0
   have ml := q3.lt
   have m3 := (q3.set_ 0 (.int .i64 (min x y - r.err))).set_ 1 (.int .i64 (max x y + r.err))
   simp only [List.setIfInBounds_toArray, List.set_cons_zero, List.set_cons_succ] at m3
   have e0 : w.heap.size ≤ w.heap.size + 1 + 1 := by omega
   go_wp2
   refine bodyPost_ret (results_cell_row rfl _ _ _ 41 #[.int .i64 (min x y - r.err), .int .i64 (max x y + r.err)] (0, 0) _ rfl m3 rfl rfl rfl) rfl ?_
   rw [← HA.out, ← HB.out]
   exact ⟨rfl, ex_set (p := ⟨w.heap.size + 1 + 1, 1, none⟩) (ex_set (p := ⟨w.heap.size + 1 + 1, 0, none⟩) B_V2 e0 _) e0 _⟩
 ·
  go_wp2_with fail
  have N2 := ex_alloc (Below.refl V2.heap.size V2) (.cells #[.int .i64 (x), .int .i64 (y)] 3)
  have b2 : Blk (V2.alloc (.cells #[.int .i64 (x), .int .i64 (y)] 3)) (V2.heap.size) 3 #[.int .i64 (x), .int .i64 (y)] := Blk.new' _ _ _ (by simp)
  refine ⟨inEx N2.drew, ?_⟩
  repeat (refine tq_quiet rfl ?_; go_big_quiet_step (fail); refine wpQuiet_nil ?_)
  refine tq_loud rfl ?_
  go_wp2_with fail
  have N1 := ex_alloc N2 (.cells #[.int .i64 (x), .int .i64 (y)] 3)
  have b1 : Blk ((V2.alloc (.cells #[.int .i64 (x), .int .i64 (y)] 3)).alloc (.cells #[.int .i64 (x), .int .i64 (y)] 3)) (V2.heap.size + 1) 3 #[.int .i64 (x), .int .i64 (y)] := Blk.new' _ _ _ (by simp)
  replace b2 := b2.alloc (.cells #[.int .i64 (x), .int .i64 (y)] 3)
  refine ⟨inEx N1.drew, ?_⟩
  repeat (refine tq_quiet rfl ?_; go_big_quiet_step (fail); refine wpQuiet_nil ?_)
  refine tq_loud rfl ?_
  go_wp2_with fail
  refine (sm_least2 _ _ _ _ _ b1.drew).mono ?_
  rintro e w' ⟨rfl, rfl⟩
  go_wp2_with fail
  refine ⟨inEx N1.drew, ?_⟩
  repeat (refine tq_quiet rfl ?_; go_big_quiet_step (fail); refine wpQuiet_nil ?_)
  refine tq_loud rfl ?_
  go_wp2_with fail
  refine (sm_greatest2 _ _ _ _ _ b2.drew).mono ?_
  rintro e w' ⟨rfl, rfl⟩
  go_wp2_with fail
  refine ⟨inEx N1.drew, ?_⟩
  repeat (refine tq_quiet rfl ?_; go_big_quiet_step (fail); refine wpQuiet_nil ?_)
  refine tq_done (r := [_]) rfl ?_
  replace q3 := q3.below N1.drew q3.lt
  have B_V3 := ex_trans B_X.W N1.drew
  clear a14 la
  clear D0 N1 b1 N2 b2
  generalize ((V2.alloc (.cells #[.int .i64 (x), .int .i64 (y)] 3)).alloc (.cells #[.int .i64 (x), .int .i64 (y)] 3)).drew = V3 at *
  have m0 := q3.cell 0
  have m2 := q3.cell 1
  simp at m0 m2
  have mf := q3.frozen0
  have ml := q3.lt
  have m3 := (q3.set_ 0 (.int .i64 (min x y - r.err))).set_ 1 (.int .i64 (max x y + r.err))
  simp only [List.setIfInBounds_toArray, List.set_cons_zero, List.set_cons_succ] at m3
  have e0 : w.heap.size ≤ w.heap.size + 1 + 1 := by omega
  go_wp2
  refine bodyPost_ret (results_cell_row rfl _ _ _ 41 #[.int .i64 (min x y - r.err), .int .i64 (max x y + r.err)] (0, 0) _ rfl m3 rfl rfl rfl) rfl ?_
  rw [← HA.out, ← HB.out]
  exact ⟨rfl, ex_set (p := ⟨w.heap.size + 1 + 1, 1, none⟩) (ex_set (p := ⟨w.heap.size + 1 + 1, 0, none⟩) B_V3 e0 _) e0 _⟩

end Go.Proofs.YtkaogjhnogkcdaaGreat
end

section
namespace Go.Proofs.YtkaogjhnogkcdaaGreat
open Go.RowKit
attribute [local go_sem] Ex.cell? Ex.frozen?

theorem Fr.go {R : Nat → Prop} {a w w' : World} (h : Fr R a w) (hb : Below w.heap.size w w') : Fr R a w' := h.trans (Fr.below (R := fun _ => False) hb) (fun _ _ hx => hx.elim)
def fstI (b : Bool) (x y : Int) : Int := if b then x else y
set_option maxRecDepth 100000 in
set_option maxHeartbeats 3200000 in
theorem sm_add (a b lo hi : Int) (fst : Bool) (pf po : Nat) (w : World) (hne : pf ≠ po) (qf : Blk w pf 4 #[.bool fst]) (qo : Blk w po 41 #[.int .i64 lo, .int .i64 hi]) :
  Calls Tryz.prog 120 #[.agg #[.int .i64 a, .int .i64 b], .pointer (some ⟨pf, 0, none⟩), .pointer (some ⟨po, 0, none⟩)] w fun e w' => e = .returned (.tuple #[]) ∧
   Blk w' pf 4 #[.bool false] ∧ Blk w' po 41 #[.int .i64 (min (fstI fst a lo) a), .int .i64 (max (fstI fst b hi) b)] ∧ Fr (fun k => k = pf ∨ k = po) w w' := by
 have hne2 : po ≠ pf := fun e => hne e.symm
 have lf := qf.lt
 have lo_ := qo.lt
 cases fst
 ·
  have f0 := qf.cell 0
  have o0 := qo.cell 0
  have o1 := qo.cell 1
  have ff := qf.frozen0
  have fo := qo.frozen0
  simp at f0 o0 o1
  have g0 : Fr (fun k => k = pf ∨ k = po) w w := Fr.refl _ _
  have y1 := qo
  have y2 := qf
  have hb1 := ex_alloc (Below.refl (w).heap.size (w)) (.cells #[.int .i64 a, .int .i64 b] 41)
  have q3 : Blk (w.alloc (.cells #[.int .i64 a, .int .i64 b] 41)) w.heap.size 41 #[.int .i64 a, .int .i64 b] := Blk.new' _ _ _ (by simp)
  replace y1 := y1.alloc (.cells #[.int .i64 a, .int .i64 b] 41)
  replace y2 := y2.alloc (.cells #[.int .i64 a, .int .i64 b] 41)
  replace g0 := g0.go hb1
  go_enter Tryz.func120, Tryz.ntmps120
  go_upto_region 3 with fail
  show Code.wp _ _ _ _ (w.alloc (.cells #[.int .i64 a, .int .i64 b] 41))
  clear hb1 f0 o0 o1 ff fo
  generalize w.alloc (.cells #[.int .i64 a, .int .i64 b] 41) = V at *
  have u0 : V.cell? ⟨po, 0, none⟩ = some ((.int .i64 lo)) := y1.cell 0
  have u1 : V.cell? ⟨po, 1, none⟩ = some ((.int .i64 hi)) := y1.cell 1
  have lu := y1.lt
  have r0 : V.cell? ⟨w.heap.size, 0, none⟩ = some (.int .i64 a) := q3.cell 0
  have r1 : V.cell? ⟨w.heap.size, 1, none⟩ = some (.int .i64 b) := q3.cell 1
  have lr := q3.lt
  go_wp2_with fail
  refine wp_region_ext_tq 13 (.quiet 0 (.quiet 1 (.quiet 2 (.quiet 3 (.quiet 6 (.quiet 7 (.quiet 8 (.quiet 9 (.fork 4 (.fork 5 (.loud 10 (.loud 11 (.quiet 12 .done))) 10 (.loud 5 (.loud 11 (.quiet 12 .done)))) 10 (.loud 4 (.loud 5 (.loud 11 (.quiet 12 .done))))))))))))) (by kernel_rfl) (by kernel_rfl) (by intro d _ _ _ _ h; cases d <;> exact h) ?_
  have D0 := (Below.refl V.heap.size V).drew
  repeat (refine tq_quiet rfl ?_; go_big_quiet_step (fail); refine wpQuiet_nil ?_)
  refine tq_fork rfl rfl ?_ ?_
  ·
   go_wp2_with fail
   have N1 := ex_alloc (Below.refl V.heap.size V) (.cells #[.int .i64 (lo), .int .i64 (a)] 3)
   have b1 : Blk (V.alloc (.cells #[.int .i64 (lo), .int .i64 (a)] 3)) (V.heap.size) 3 #[.int .i64 (lo), .int .i64 (a)] := Blk.new' _ _ _ (by simp)
   refine ⟨inEx N1.drew, ?_⟩
   repeat (refine tq_quiet rfl ?_; go_big_quiet_step (fail); refine wpQuiet_nil ?_)
   refine tq_fork rfl rfl ?_ ?_
   ·
    go_wp2_with fail
    refine (sm_least2 _ _ _ _ _ b1.drew).mono ?_
    rintro e w' ⟨rfl, rfl⟩
    go_wp2_with fail
    refine ⟨inEx N1.drew, ?_⟩
    repeat (refine tq_quiet rfl ?_; go_big_quiet_step (fail); refine wpQuiet_nil ?_)
    refine tq_loud rfl ?_
    go_wp2_with fail
    have N2 := ex_alloc N1 (.cells #[.int .i64 (hi), .int .i64 (b)] 3)
    have b2 : Blk ((V.alloc (.cells #[.int .i64 (lo), .int .i64 (a)] 3)).alloc (.cells #[.int .i64 (hi), .int .i64 (b)] 3)) (V.heap.size + 1) 3 #[.int .i64 (hi), .int .i64 (b)] := Blk.new' _ _ _ (by simp)
    replace b1 := b1.alloc (.cells #[.int .i64 (hi), .int .i64 (b)] 3)
    refine ⟨inEx N2.drew, ?_⟩
    repeat (refine tq_quiet rfl ?_; go_big_quiet_step (fail); refine wpQuiet_nil ?_)
    refine tq_loud rfl ?_
    go_wp2_with fail
    refine (sm_greatest2 _ _ _ _ _ b2.drew).mono ?_
    rintro e w' ⟨rfl, rfl⟩
    go_wp2_with fail
    refine ⟨inEx N2.drew, ?_⟩
    repeat (refine tq_quiet rfl ?_; go_big_quiet_step (fail); refine wpQuiet_nil ?_)
    refine tq_done (r := [_]) rfl ?_
    replace y1 := y1.below N2.drew y1.lt
    replace y2 := y2.below N2.drew y2.lt
    replace q3 := q3.below N2.drew q3.lt
    replace g0 := g0.go N2.drew
    clear u0 u1 lu
    clear r0 r1 lr
    clear D0 N2 b2 N1 b1
    generalize ((V.alloc (.cells #[.int .i64 (lo), .int .i64 (a)] 3)).alloc (.cells #[.int .i64 (hi), .int .i64 (b)] 3)).drew = V1 at *
    have m0 := y1.cell 0
    have m2 := y1.cell 1
    simp at m0 m2
    have mf := y1.frozen0
    have ml := y1.lt
    have m3 := (y1.set_ 0 (.int .i64 (min lo a))).set_ 1 (.int .i64 (max hi b))
    simp only [List.setIfInBounds_toArray, List.set_cons_zero, List.set_cons_succ] at m3
    have m4 := (y2.far (p := ⟨po, 0, none⟩) hne (.int .i64 (min lo a))).far (p := ⟨po, 1, none⟩) hne (.int .i64 (max hi b))
    have g1 := (g0.andSet (b := po) (i := 0) (v := .int .i64 (min lo a)) (.inr rfl)).andSet (b := po) (i := 1) (v := .int .i64 (max hi b)) (.inr rfl)
    go_wp2
    refine bodyPost_end (v := .tuple #[]) (results_none rfl _ _ _) rfl ?_
    exact ⟨rfl, m4, m3, g1⟩
   ·
    go_wp2_with fail
    have N2 := ex_alloc N1 (.cells #[.int .i64 (hi), .int .i64 (b)] 3)
    have b2 : Blk ((V.alloc (.cells #[.int .i64 (lo), .int .i64 (a)] 3)).alloc (.cells #[.int .i64 (hi), .int .i64 (b)] 3)) (V.heap.size + 1) 3 #[.int .i64 (hi), .int .i64 (b)] := Blk.new' _ _ _ (by simp)
    replace b1 := b1.alloc (.cells #[.int .i64 (hi), .int .i64 (b)] 3)
    refine ⟨inEx N2.drew, ?_⟩
    repeat (refine tq_quiet rfl ?_; go_big_quiet_step (fail); refine wpQuiet_nil ?_)
    refine tq_loud rfl ?_
    go_wp2_with fail
    refine (sm_least2 _ _ _ _ _ b1.drew).mono ?_
    rintro e w' ⟨rfl, rfl⟩
    go_wp2_with fail
    refine ⟨inEx N2.drew, ?_⟩
    repeat (refine tq_quiet rfl ?_; go_big_quiet_step (fail); refine wpQuiet_nil ?_)
    refine tq_loud rfl ?_
    go_wp2_with fail
    refine (sm_greatest2 _ _ _ _ _ b2.drew).mono ?_
    rintro e w' ⟨rfl, rfl⟩
    go_wp2_with fail
    refine ⟨inEx N2.drew, ?_⟩
    repeat (refine tq_quiet rfl ?_; go_big_quiet_step (fail); refine wpQuiet_nil ?_)
    refine tq_done (r := [_]) rfl ?_
    replace y1 := y1.below N2.drew y1.lt
    replace y2 := y2.below N2.drew y2.lt
    replace q3 := q3.below N2.drew q3.lt
    replace g0 := g0.go N2.drew
    clear u0 u1 lu
    clear r0 r1 lr
    clear D0 N2 b2 N1 b1
    generalize ((V.alloc (.cells #[.int .i64 (lo), .int .i64 (a)] 3)).alloc (.cells #[.int .i64 (hi), .int .i64 (b)] 3)).drew = V2 at *
    have m0 := y1.cell 0
    have m2 := y1.cell 1
    simp at m0 m2
    have mf := y1.frozen0
    have ml := y1.lt
    have m3 := (y1.set_ 0 (.int .i64 (min lo a))).set_ 1 (.int .i64 (max hi b))
    simp only [List.setIfInBounds_toArray, List.set_cons_zero, List.set_cons_succ] at m3
    have m4 := (y2.far (p := ⟨po, 0, none⟩) hne (.int .i64 (min lo a))).far (p := ⟨po, 1, none⟩) hne (.int .i64 (max hi b))
    have g1 := (g0.andSet (b := po) (i := 0) (v := .int .i64 (min lo a)) (.inr rfl)).andSet (b := po) (i := 1) (v := .int .i64 (max hi b)) (.inr rfl)
    go_wp2
    refine bodyPost_end (v := .tuple #[]) (results_none rfl _ _ _) rfl ?_
    exact ⟨rfl, m4, m3, g1⟩
  ·
   go_wp2_with fail
   have N2 := ex_alloc (Below.refl V.heap.size V) (.cells #[.int .i64 (hi), .int .i64 (b)] 3)
   have b2 : Blk (V.alloc (.cells #[.int .i64 (hi), .int .i64 (b)] 3)) (V.heap.size) 3 #[.int .i64 (hi), .int .i64 (b)] := Blk.new' _ _ _ (by simp)
   refine ⟨inEx N2.drew, ?_⟩
   repeat (refine tq_quiet rfl ?_; go_big_quiet_step (fail); refine wpQuiet_nil ?_)
   refine tq_loud rfl ?_
   go_wp2_with fail
   have N1 := ex_alloc N2 (.cells #[.int .i64 (lo), .int .i64 (a)] 3)
   have b1 : Blk ((V.alloc (.cells #[.int .i64 (hi), .int .i64 (b)] 3)).alloc (.cells #[.int .i64 (lo), .int .i64 (a)] 3)) (V.heap.size + 1) 3 #[.int .i64 (lo), .int .i64 (a)] := Blk.new' _ _ _ (by simp)
   replace b2 := b2.alloc (.cells #[.int .i64 (lo), .int .i64 (a)] 3)
   refine ⟨inEx N1.drew, ?_⟩
   repeat (refine tq_quiet rfl ?_; go_big_quiet_step (fail); refine wpQuiet_nil ?_)
   refine tq_loud rfl ?_
   go_wp2_with fail
   refine (sm_least2 _ _ _ _ _ b1.drew).mono ?_
   rintro e w' ⟨rfl, rfl⟩
   go_wp2_with fail
   refine ⟨inEx N1.drew, ?_⟩
   repeat (refine tq_quiet rfl ?_; go_big_quiet_step (fail); refine wpQuiet_nil ?_)
   refine tq_loud rfl ?_
   go_wp2_with fail
   refine (sm_greatest2 _ _ _ _ _ b2.drew).mono ?_
   rintro e w' ⟨rfl, rfl⟩
   go_wp2_with fail
   refine ⟨inEx N1.drew, ?_⟩
   repeat (refine tq_quiet rfl ?_; go_big_quiet_step (fail); refine wpQuiet_nil ?_)
   refine tq_done (r := [_]) rfl ?_
   replace y1 := y1.below N1.drew y1.lt
   replace y2 := y2.below N1.drew y2.lt
   replace q3 := q3.below N1.drew q3.lt
   replace g0 := g0.go N1.drew
   clear u0 u1 lu
   clear r0 r1 lr
   clear D0 N1 b1 N2 b2
   generalize ((V.alloc (.cells #[.int .i64 (hi), .int .i64 (b)] 3)).alloc (.cells #[.int .i64 (lo), .int .i64 (a)] 3)).drew = V3 at *
   have m0 := y1.cell 0
   have m2 := y1.cell 1
   simp at m0 m2
   have mf := y1.frozen0
   have ml := y1.lt
   have m3 := (y1.set_ 0 (.int .i64 (min lo a))).set_ 1 (.int .i64 (max hi b))
   simp only [List.setIfInBounds_toArray, List.set_cons_zero, List.set_cons_succ] at m3
   have m4 := (y2.far (p := ⟨po, 0, none⟩) hne (.int .i64 (min lo a))).far (p := ⟨po, 1, none⟩) hne (.int .i64 (max hi b))
   have g1 := (g0.andSet (b := po) (i := 0) (v := .int .i64 (min lo a)) (.inr rfl)).andSet (b := po) (i := 1) (v := .int .i64 (max hi b)) (.inr rfl)
   go_wp2
   refine bodyPost_end (v := .tuple #[]) (results_none rfl _ _ _) rfl ?_
   exact ⟨rfl, m4, m3, g1⟩
 ·
  have f0 := qf.cell 0
  have o0 := qo.cell 0
  have o1 := qo.cell 1
  have ff := qf.frozen0
  have fo := qo.frozen0
  simp at f0 o0 o1
  have g0 : Fr (fun k => k = pf ∨ k = po) w (((w.setCell ⟨po, 0, none⟩ (.int .i64 a)).setCell ⟨po, 1, none⟩ (.int .i64 b)).setCell ⟨pf, 0, none⟩ (.bool false)) := (((Fr.refl (fun k => k = pf ∨ k = po) w).andSet (.inr rfl)).andSet (.inr rfl)).andSet (.inl rfl)
  have y1 := (qo.set_ 0 (.int .i64 a)).set_ 1 (.int .i64 b)
  simp only [List.setIfInBounds_toArray, List.set_cons_zero, List.set_cons_succ] at y1
  replace y1 := y1.far (p := ⟨pf, 0, none⟩) hne2 (.bool false)
  have y2 := ((qf.far (p := ⟨po, 0, none⟩) hne (.int .i64 a)).far (p := ⟨po, 1, none⟩) hne (.int .i64 b)).set_ 0 (.bool false)
  simp only [List.setIfInBounds_toArray, List.set_cons_zero, List.set_cons_succ] at y2
  have hb1 := ex_alloc (Below.refl (((w.setCell ⟨po, 0, none⟩ (.int .i64 a)).setCell ⟨po, 1, none⟩ (.int .i64 b)).setCell ⟨pf, 0, none⟩ (.bool false)).heap.size (((w.setCell ⟨po, 0, none⟩ (.int .i64 a)).setCell ⟨po, 1, none⟩ (.int .i64 b)).setCell ⟨pf, 0, none⟩ (.bool false))) (.cells #[.int .i64 a, .int .i64 b] 41)
  have q3 : Blk ((((w.setCell ⟨po, 0, none⟩ (.int .i64 a)).setCell ⟨po, 1, none⟩ (.int .i64 b)).setCell ⟨pf, 0, none⟩ (.bool false)).alloc (.cells #[.int .i64 a, .int .i64 b] 41)) w.heap.size 41 #[.int .i64 a, .int .i64 b] := Blk.new' _ _ _ (by simp)
  replace y1 := y1.alloc (.cells #[.int .i64 a, .int .i64 b] 41)
  replace y2 := y2.alloc (.cells #[.int .i64 a, .int .i64 b] 41)
  replace g0 := g0.go hb1
  go_enter Tryz.func120, Tryz.ntmps120
  go_upto_region 3 with fail
  show Code.wp _ _ _ _ ((((w.setCell ⟨po, 0, none⟩ (.int .i64 a)).setCell ⟨po, 1, none⟩ (.int .i64 b)).setCell ⟨pf, 0, none⟩ (.bool false)).alloc (.cells #[.int .i64 a, .int .i64 b] 41))
  clear hb1 f0 o0 o1 ff fo
  generalize (((w.setCell ⟨po, 0, none⟩ (.int .i64 a)).setCell ⟨po, 1, none⟩ (.int .i64 b)).setCell ⟨pf, 0, none⟩ (.bool false)).alloc (.cells #[.int .i64 a, .int .i64 b] 41) = V at *
  have u0 : V.cell? ⟨po, 0, none⟩ = some ((.int .i64 a)) := y1.cell 0
  have u1 : V.cell? ⟨po, 1, none⟩ = some ((.int .i64 b)) := y1.cell 1
  have lu := y1.lt
  have r0 : V.cell? ⟨w.heap.size, 0, none⟩ = some (.int .i64 a) := q3.cell 0
  have r1 : V.cell? ⟨w.heap.size, 1, none⟩ = some (.int .i64 b) := q3.cell 1
  have lr := q3.lt
  go_wp2_with fail
  refine wp_region_ext_tq 13 (.quiet 0 (.quiet 1 (.quiet 2 (.quiet 3 (.quiet 6 (.quiet 7 (.quiet 8 (.quiet 9 (.fork 4 (.fork 5 (.loud 10 (.loud 11 (.quiet 12 .done))) 10 (.loud 5 (.loud 11 (.quiet 12 .done)))) 10 (.loud 4 (.loud 5 (.loud 11 (.quiet 12 .done))))))))))))) (by kernel_rfl) (by kernel_rfl) (by intro d _ _ _ _ h; cases d <;> exact h) ?_
  have D0 := (Below.refl V.heap.size V).drew
  repeat (refine tq_quiet rfl ?_; go_big_quiet_step (fail); refine wpQuiet_nil ?_)
  refine tq_fork rfl rfl ?_ ?_
  ·
   go_wp2_with fail
   have N1 := ex_alloc (Below.refl V.heap.size V) (.cells #[.int .i64 (a), .int .i64 (a)] 3)
   have b1 : Blk (V.alloc (.cells #[.int .i64 (a), .int .i64 (a)] 3)) (V.heap.size) 3 #[.int .i64 (a), .int .i64 (a)] := Blk.new' _ _ _ (by simp)
   refine ⟨inEx N1.drew, ?_⟩
   repeat (refine tq_quiet rfl ?_; go_big_quiet_step (fail); refine wpQuiet_nil ?_)
   refine tq_fork rfl rfl ?_ ?_
   ·
    go_wp2_with fail
    refine (sm_least2 _ _ _ _ _ b1.drew).mono ?_
    rintro e w' ⟨rfl, rfl⟩
    go_wp2_with fail
    refine ⟨inEx N1.drew, ?_⟩
    repeat (refine tq_quiet rfl ?_; go_big_quiet_step (fail); refine wpQuiet_nil ?_)
    refine tq_loud rfl ?_
    go_wp2_with fail
    have N2 := ex_alloc N1 (.cells #[.int .i64 (b), .int .i64 (b)] 3)
    have b2 : Blk ((V.alloc (.cells #[.int .i64 (a), .int .i64 (a)] 3)).alloc (.cells #[.int .i64 (b), .int .i64 (b)] 3)) (V.heap.size + 1) 3 #[.int .i64 (b), .int .i64 (b)] := Blk.new' _ _ _ (by simp)
    replace b1 := b1.alloc (.cells #[.int .i64 (b), .int .i64 (b)] 3)
    refine ⟨inEx N2.drew, ?_⟩
    repeat (refine tq_quiet rfl ?_; go_big_quiet_step (fail); refine wpQuiet_nil ?_)
    refine tq_loud rfl ?_
    go_wp2_with fail
    refine (sm_greatest2 _ _ _ _ _ b2.drew).mono ?_
    rintro e w' ⟨rfl, rfl⟩
    go_wp2_with fail
    refine ⟨inEx N2.drew, ?_⟩
    repeat (refine tq_quiet rfl ?_; go_big_quiet_step (fail); refine wpQuiet_nil ?_)
    refine tq_done (r := [_]) rfl ?_
    replace y1 := y1.below N2.drew y1.lt
    replace y2 := y2.below N2.drew y2.lt
    replace q3 := q3.below N2.drew q3.lt
    replace g0 := g0.go N2.drew
    clear u0 u1 lu
    clear r0 r1 lr
    clear D0 N2 b2 N1 b1
    generalize ((V.alloc (.cells #[.int .i64 (a), .int .i64 (a)] 3)).alloc (.cells #[.int .i64 (b), .int .i64 (b)] 3)).drew = V4 at *
    have m0 := y1.cell 0
    have m2 := y1.cell 1
    simp at m0 m2
    have mf := y1.frozen0
    have ml := y1.lt
    have m3 := (y1.set_ 0 (.int .i64 (min a a))).set_ 1 (.int .i64 (max b b))
    simp only [List.setIfInBounds_toArray, List.set_cons_zero, List.set_cons_succ] at m3
    have m4 := (y2.far (p := ⟨po, 0, none⟩) hne (.int .i64 (min a a))).far (p := ⟨po, 1, none⟩) hne (.int .i64 (max b b))
    have g1 := (g0.andSet (b := po) (i := 0) (v := .int .i64 (min a a)) (.inr rfl)).andSet (b := po) (i := 1) (v := .int .i64 (max b b)) (.inr rfl)
    simp only [Int.min_self, Int.max_self] at m3 m4 g1
    go_wp2
    refine bodyPost_end (v := .tuple #[]) (results_none rfl _ _ _) rfl ?_
    rw [show min (fstI true a lo) a = a from Int.min_self a, show max (fstI true b hi) b = b from Int.max_self b]
    exact ⟨rfl, m4, m3, g1⟩
   ·
    go_wp2_with fail
    have N2 := ex_alloc N1 (.cells #[.int .i64 (b), .int .i64 (b)] 3)
    have b2 : Blk ((V.alloc (.cells #[.int .i64 (a), .int .i64 (a)] 3)).alloc (.cells #[.int .i64 (b), .int .i64 (b)] 3)) (V.heap.size + 1) 3 #[.int .i64 (b), .int .i64 (b)] := Blk.new' _ _ _ (by simp)
    replace b1 := b1.alloc (.cells #[.int .i64 (b), .int .i64 (b)] 3)
    refine ⟨inEx N2.drew, ?_⟩
    repeat (refine tq_quiet rfl ?_; go_big_quiet_step (fail); refine wpQuiet_nil ?_)
    refine tq_loud rfl ?_
    go_wp2_with fail
    refine (sm_least2 _ _ _ _ _ b1.drew).mono ?_
    rintro e w' ⟨rfl, rfl⟩
    go_wp2_with fail
    refine ⟨inEx N2.drew, ?_⟩
    repeat (refine tq_quiet rfl ?_; go_big_quiet_step (fail); refine wpQuiet_nil ?_)
    refine tq_loud rfl ?_
    go_wp2_with fail
    refine (sm_greatest2 _ _ _ _ _ b2.drew).mono ?_
    rintro e w' ⟨rfl, rfl⟩
    go_wp2_with fail
    refine ⟨inEx N2.drew, ?_⟩
    repeat (refine tq_quiet rfl ?_; go_big_quiet_step (fail); refine wpQuiet_nil ?_)
    refine tq_done (r := [_]) rfl ?_
    replace y1 := y1.below N2.drew y1.lt
    replace y2 := y2.below N2.drew y2.lt
    replace q3 := q3.below N2.drew q3.lt
    replace g0 := g0.go N2.drew
    clear u0 u1 lu
    clear r0 r1 lr
    clear D0 N2 b2 N1 b1
    generalize ((V.alloc (.cells #[.int .i64 (a), .int .i64 (a)] 3)).alloc (.cells #[.int .i64 (b), .int .i64 (b)] 3)).drew = V5 at *
    have m0 := y1.cell 0
    have m2 := y1.cell 1
    simp at m0 m2
    have mf := y1.frozen0
    have ml := y1.lt
    have m3 := (y1.set_ 0 (.int .i64 (min a a))).set_ 1 (.int .i64 (max b b))
    simp only [List.setIfInBounds_toArray, List.set_cons_zero, List.set_cons_succ] at m3
    have m4 := (y2.far (p := ⟨po, 0, none⟩) hne (.int .i64 (min a a))).far (p := ⟨po, 1, none⟩) hne (.int .i64 (max b b))
    have g1 := (g0.andSet (b := po) (i := 0) (v := .int .i64 (min a a)) (.inr rfl)).andSet (b := po) (i := 1) (v := .int .i64 (max b b)) (.inr rfl)
    simp only [Int.min_self, Int.max_self] at m3 m4 g1
    go_wp2
    refine bodyPost_end (v := .tuple #[]) (results_none rfl _ _ _) rfl ?_
    rw [show min (fstI true a lo) a = a from Int.min_self a, show max (fstI true b hi) b = b from Int.max_self b]
    exact ⟨rfl, m4, m3, g1⟩
  ·
   go_wp2_with fail
   have N2 := ex_alloc (Below.refl V.heap.size V) (.cells #[.int .i64 (b), .int .i64 (b)] 3)
   have b2 : Blk (V.alloc (.cells #[.int .i64 (b), .int .i64 (b)] 3)) (V.heap.size) 3 #[.int .i64 (b), .int .i64 (b)] := Blk.new' _ _ _ (by simp)
   refine ⟨inEx N2.drew, ?_⟩
   repeat (refine tq_quiet rfl ?_; go_big_quiet_step (fail); refine wpQuiet_nil ?_)
   refine tq_loud rfl ?_
   go_wp2_with fail
   have N1 := ex_alloc N2 (.cells #[.int .i64 (a), .int .i64 (a)] 3)
   have b1 : Blk ((V.alloc (.cells #[.int .i64 (b), .int .i64 (b)] 3)).alloc (.cells #[.int .i64 (a), .int .i64 (a)] 3)) (V.heap.size + 1) 3 #[.int .i64 (a), .int .i64 (a)] := Blk.new' _ _ _ (by simp)
   replace b2 := b2.alloc (.cells #[.int .i64 (a), .int .i64 (a)] 3)
   refine ⟨inEx N1.drew, ?_⟩
   repeat (refine tq_quiet rfl ?_; go_big_quiet_step (fail); refine wpQuiet_nil ?_)
   refine tq_loud rfl ?_
   go_wp2_with fail
   refine (sm_least2 _ _ _ _ _ b1.drew).mono ?_
   rintro e w' ⟨rfl, rfl⟩
   go_wp2_with fail
   refine ⟨inEx N1.drew, ?_⟩
   repeat (refine tq_quiet rfl ?_; go_big_quiet_step (fail); refine wpQuiet_nil ?_)
   refine tq_loud rfl ?_
   go_wp2_with fail
   refine (sm_greatest2 _ _ _ _ _ b2.drew).mono ?_
   rintro e w' ⟨rfl, rfl⟩
   go_wp2_with fail
   refine ⟨inEx N1.drew, ?_⟩
   repeat (refine tq_quiet rfl ?_; go_big_quiet_step (fail); refine wpQuiet_nil ?_)
   refine tq_done (r := [_]) rfl ?_
   replace y1 := y1.below N1.drew y1.lt
   replace y2 := y2.below N1.drew y2.lt
   replace q3 := q3.below N1.drew q3.lt
   replace g0 := g0.go N1.drew
   clear u0 u1 lu
   clear r0 r1 lr
   clear D0 N1 b1 N2 b2
   generalize ((V.alloc (.cells #[.int .i64 (b), .int .i64 (b)] 3)).alloc (.cells #[.int .i64 (a), .int .i64 (a)] 3)).drew = V6 at *
   have m0 := y1.cell 0
   have m2 := y1.cell 1
   simp at m0 m2
   have mf := y1.frozen0
   have ml := y1.lt
   have m3 := (y1.set_ 0 (.int .i64 (min a a))).set_ 1 (.int .i64 (max b b))
   simp only [List.setIfInBounds_toArray, List.set_cons_zero, List.set_cons_succ] at m3
   have m4 := (y2.far (p := ⟨po, 0, none⟩) hne (.int .i64 (min a a))).far (p := ⟨po, 1, none⟩) hne (.int .i64 (max b b))
   have g1 := (g0.andSet (b := po) (i := 0) (v := .int .i64 (min a a)) (.inr rfl)).andSet (b := po) (i := 1) (v := .int .i64 (max b b)) (.inr rfl)
   simp only [Int.min_self, Int.max_self] at m3 m4 g1
   go_wp2
   refine bodyPost_end (v := .tuple #[]) (results_none rfl _ _ _) rfl ?_
   rw [show min (fstI true a lo) a = a from Int.min_self a, show max (fstI true b hi) b = b from Int.max_self b]
   exact ⟨rfl, m4, m3, g1⟩

end Go.Proofs.YtkaogjhnogkcdaaGreat
end

section
namespace Go.Proofs.YtkaogjhnogkcdaaGreat
open Go.RowKit
attribute [local go_sem] Ex.cell? Ex.frozen?

def MapAt (W : World) (q : Nat) (M : Nat → Nat → Nat → Bool) : Prop :=
  ∃ cs, Blk W q 128 cs ∧ cs.size = 27404 ∧ ∀ d r s, d < 17 → r < 52 → s < 31 → cs[d * 1612 + r * 31 + s]? = some (.bool (M d r s))
def upd (M : Nat → Nat → Nat → Bool) (d r s : Nat) : Nat → Nat → Nat → Bool := fun d' r' s' => if d' = d ∧ r' = r ∧ s' = s then true else M d' r' s'
theorem upd_self {M : Nat → Nat → Nat → Bool} {d r s : Nat} : upd M d r s d r s = true := by simp [upd]
theorem upd_mono {M : Nat → Nat → Nat → Bool} {d r s d' r' s' : Nat} (h : M d' r' s' = true) : upd M d r s d' r' s' = true := by
  unfold upd; split
  · rfl
  · exact h
theorem upd_iff {M : Nat → Nat → Nat → Bool} {d r s d' r' s' : Nat} : upd M d r s d' r' s' = true ↔ (d' = d ∧ r' = r ∧ s' = s) ∨ M d' r' s' = true := by
  unfold upd
  split
  · rename_i h; exact ⟨fun _ => .inl h, fun _ => rfl⟩
  · rename_i h; exact ⟨fun k => .inr k, fun k => k.resolve_left h⟩
section
variable {W W' : World} {q : Nat} {M : Nat → Nat → Nat → Bool}
theorem MapAt.lt (h : MapAt W q M) : q < W.heap.size := by obtain ⟨_, h1, _⟩ := h; exact h1.lt
theorem MapAt.cell (h : MapAt W q M) {d r s : Nat} (hd : d < 17) (hr : r < 52) (hs : s < 31) : W.cell? ⟨q, d * 1612 + r * 31 + s, none⟩ = some (.bool (M d r s)) := by
  obtain ⟨cs, h1, _, h2⟩ := h
  rw [h1.cell]; exact h2 d r s hd hr hs
theorem MapAt.frozen (h : MapAt W q M) (i : Nat) : W.frozen? ⟨q, i, none⟩ = false := by obtain ⟨_, h1, _⟩ := h; exact h1.frozen i
theorem MapAt.below (h : MapAt W q M) (hb : Below W.heap.size W W') : MapAt W' q M := by
  obtain ⟨cs, h1, h2⟩ := h
  exact ⟨cs, h1.below hb h1.lt, h2⟩
theorem MapAt.set (h : MapAt W q M) {d r s : Nat} (hd : d < 17) (hr : r < 52) (hs : s < 31) : MapAt (W.setCell ⟨q, d * 1612 + r * 31 + s, none⟩ (.bool true)) q (upd M d r s) := by
  obtain ⟨cs, h1, h2, h3⟩ := h
  refine ⟨cs.setIfInBounds (d * 1612 + r * 31 + s) (.bool true), h1.set_ _ _, by simpa using h2, fun d' r' s' hd' hr' hs' => ?_⟩
  rw [Array.getElem?_setIfInBounds]
  by_cases he : d' = d ∧ r' = r ∧ s' = s
  · obtain ⟨rfl, rfl, rfl⟩ := he
    rw [if_pos rfl, if_pos (by omega), upd_self]
  · rw [if_neg (by omega), h3 d' r' s' hd' hr' hs']
    simp [upd, he]
theorem MapAt.new {oc : Array Value} (W : World) (h1 : oc.size = 27404) (h2 : ∀ k, k < 27404 → oc[k]? = some (.bool false)) : MapAt (W.alloc (.cells oc 128)) W.heap.size (fun _ _ _ => false) :=
  ⟨oc, Blk.new _ _ _, h1, fun d r s hd hr hs => h2 _ (by omega)⟩
end

def Known (g : Gl) (h : List Rg) (l : List Ic) (o : Nat → Bool) (M : Nat → Nat → Nat → Bool) (d : Nat) : Prop := ∀ e r s : Nat, e ≤ d → r < 52 → s < 31 → (M e r s = true ↔ Can g h l o e ((r : Int), (s : Int)))
def Blank (M : Nat → Nat → Nat → Bool) (d : Nat) : Prop := ∀ e r s : Nat, d < e → M e r s = false
def Got (g : Gl) (l : List Ic) (o : Nat → Bool) (D : List Int) (d r s : Nat) (c b : Int) (k : Nat) (M : Nat → Nat → Nat → Bool) : Prop :=
  fitsB l o (d : Int) (g.base + ((r : Int) + c) - mx3 ((s : Int) - b) 0 (gI D k)) = true → M (d + 1) ((r : Int) + c).toNat (mx3 ((s : Int) - b) 0 (gI D k)).toNat = true
theorem Got.mono {g : Gl} {l : List Ic} {o : Nat → Bool} {D : List Int} {d r s : Nat} {c b : Int} {k : Nat} {M M' : Nat → Nat → Nat → Bool} (h : Got g l o D d r s c b k M) (hm : ∀ x y, M (d + 1) x y = true → M' (d + 1) x y = true) : Got g l o D d r s c b k M' := fun hf => hm _ _ (h hf)
theorem known0 {g : Gl} {h : List Rg} {l : List Ic} {o : Nat → Bool} : Known g h l o (upd (fun _ _ _ => false) 0 0 0) 0 := fun e r s he hr hs => by
  obtain rfl : e = 0 := by omega
  rw [upd_iff]
  constructor
  · rintro (⟨_, rfl, rfl⟩ | h)
    · rfl
    · cases h
  · intro h
    have h' : (((r : Nat) : Int), ((s : Nat) : Int)) = ((0 : Int), (0 : Int)) := h
    simp only [Prod.mk.injEq] at h'
    exact .inl ⟨rfl, by omega, by omega⟩
theorem known_succ {g : Gl} {h : List Rg} {l : List Ic} {o : Nat → Bool} (hok : Ok g h) {D : List Int} {d : Nat} (hd : d < h.length) {M : Nat → Nat → Nat → Bool} (hD : ∀ y : Int, (∃ k, k < D.length ∧ gI D k = y) ↔ ∃ x, ((gR h d).lo ≤ x ∧ x ≤ (gR h d).hi) ∧ y = sinks g x)
    (hk : Known g h l o M d) (hs : ∀ r s : Nat, M (d + 1) r s = true → Can g h l o (d + 1) ((r : Int), (s : Int)))
    (hc : ∀ r s : Nat, r < 49 → s < 31 → M d r s = true → ∀ c b : Int, (creep g d).lo ≤ c → c ≤ (creep g d).hi → g.blo ≤ b → b ≤ g.bhi → ∀ k, k < D.length → Got g l o D d r s c b k M) : Known g h l o M (d + 1) := by
  intro e r s he hr hs'
  rcases Nat.eq_or_lt_of_le he with rfl | hlt
  rotate_left
  · exact hk e r s (by omega) hr hs'
  refine ⟨hs r s, fun hcan => ?_⟩
  obtain ⟨⟨a1, a2⟩, h1, h2, h3⟩ := hcan
  obtain ⟨σ, p, _, e1⟩ := (can_iff hok (by omega)).1 h1
  have hb := path_bd hok p (d := d) (Nat.le_refl _)
  rw [e1] at hb
  simp only at hb
  obtain ⟨x, b, c, hx, hb', hc', ht⟩ := (mem_nextL hok hd).1 h2
  have hnh := hok.nh
  obtain ⟨k, hk1, hk2⟩ := (hD _).2 ⟨x, hx, rfl⟩
  have hm : M d a1.toNat a2.toNat = true := (hk d a1.toNat a2.toNat (Nat.le_refl _) (by omega) (by omega)).2 (by rw [Int.toNat_of_nonneg (by omega), Int.toNat_of_nonneg (by omega)]; exact h1)
  have hg := hc a1.toNat a2.toNat (by omega) (by omega) hm c b hc'.1 hc'.2 hb'.1 hb'.2 k hk1
  unfold Got at hg
  rw [Int.toNat_of_nonneg (by omega), Int.toNat_of_nonneg (by omega), hk2] at hg
  simp only [Prod.mk.injEq] at ht
  obtain ⟨t1, t2⟩ := ht
  rw [← t1, ← t2] at hg
  have := hg (by
    have e2 : g.base + (r : Int) - (s : Int) = zero g ((r : Int), (s : Int)) := rfl
    rw [e2]; exact h3)
  simpa using this
theorem item_can {g : Gl} {h : List Rg} {l : List Ic} {o : Nat → Bool} (hok : Ok g h) {D : List Int} {d : Nat} (hd : d < h.length) {M : Nat → Nat → Nat → Bool} (hD : ∀ y : Int, (∃ k, k < D.length ∧ gI D k = y) ↔ ∃ x, ((gR h d).lo ≤ x ∧ x ≤ (gR h d).hi) ∧ y = sinks g x)
    (hk : Known g h l o M d) {r s : Nat} (hr : r < 52) (hs : s < 31) (hm : M d r s = true) {c b : Int} (hc : (creep g d).lo ≤ c ∧ c ≤ (creep g d).hi) (hb : g.blo ≤ b ∧ b ≤ g.bhi) {k : Nat} (hkD : k < D.length)
    (hf : fitsB l o (d : Int) (g.base + ((r : Int) + c) - mx3 ((s : Int) - b) 0 (gI D k)) = true) : Can g h l o (d + 1) ((r : Int) + c, mx3 ((s : Int) - b) 0 (gI D k)) := by
  obtain ⟨x, hx, hy⟩ := (hD _).1 ⟨k, hkD, rfl⟩
  exact ⟨((r : Int), (s : Int)), (hk d r s (Nat.le_refl _) hr hs).1 hm, (mem_nextL hok hd).2 ⟨x, b, c, hx, hb, hc, by rw [hy]⟩, hf⟩
end Go.Proofs.YtkaogjhnogkcdaaGreat
end

section
namespace Go.Proofs.YtkaogjhnogkcdaaGreat

section
variable (g : Gl) (h : List Rg) (l : List Ic) (o : Nat → Bool) (D : List Int) (d : Nat)
structure PP (n m : Nat) (c b : Int) (k : Nat) (M : Nat → Nat → Nat → Bool) : Prop where
  known : Known g h l o M d
  blank : Blank M (d + 1)
  sound : ∀ r s : Nat, M (d + 1) r s = true → Can g h l o (d + 1) ((r : Int), (s : Int))
  p2 : ∀ r s : Nat, r < n → s < 31 → M d r s = true → ∀ c b : Int, (creep g d).lo ≤ c → c ≤ (creep g d).hi → g.blo ≤ b → b ≤ g.bhi → ∀ k, k < D.length → Got g l o D d r s c b k M
  p3 : ∀ s : Nat, s < m → M d n s = true → ∀ c b : Int, (creep g d).lo ≤ c → c ≤ (creep g d).hi → g.blo ≤ b → b ≤ g.bhi → ∀ k, k < D.length → Got g l o D d n s c b k M
  p4 : ∀ c' b : Int, (creep g d).lo ≤ c' → c' < c → g.blo ≤ b → b ≤ g.bhi → ∀ k, k < D.length → Got g l o D d n m c' b k M
  p5 : ∀ b' : Int, g.blo ≤ b' → b' < b → ∀ k, k < D.length → Got g l o D d n m c b' k M
  p6 : ∀ k', k' < k → Got g l o D d n m c b k' M
end
section
variable {g : Gl} {h : List Rg} {l : List Ic} {o : Nat → Bool} {D : List Int} {d n m k : Nat} {c b : Int} {M : Nat → Nat → Nat → Bool}
theorem PP.start (hk : Known g h l o M d) (hb : Blank M d) : PP g h l o D d 0 0 (creep g d).lo g.blo 0 M :=
  ⟨hk, fun e r s he => hb e r s (by omega), fun r s hm => by rw [hb (d + 1) r s (by omega)] at hm; exact absurd hm (by simp), fun r s hr => by omega, fun s hs => by omega, fun c' b h1 h2 => by omega, fun b' h1 h2 => by omega, fun k' hk' => by omega⟩
theorem PP.no (p : PP g h l o D d n m c b k M) (hf : fitsB l o (d : Int) (g.base + ((n : Int) + c) - mx3 ((m : Int) - b) 0 (gI D k)) = false) : PP g h l o D d n m c b (k + 1) M :=
  ⟨p.known, p.blank, p.sound, p.p2, p.p3, p.p4, p.p5, fun k' hk' => by
    rcases Nat.lt_succ_iff_lt_or_eq.1 hk' with h1 | h1
    · exact p.p6 k' h1
    · subst h1; intro hf'; rw [hf] at hf'; cases hf'⟩
theorem PP.yes (p : PP g h l o D d n m c b k M) {x y : Nat} (hx : x = ((n : Int) + c).toNat) (hy : y = (mx3 ((m : Int) - b) 0 (gI D k)).toNat) (hcan : Can g h l o (d + 1) ((x : Int), (y : Int))) : PP g h l o D d n m c b (k + 1) (upd M (d + 1) x y) := by
  have hm : ∀ r s, M (d + 1) r s = true → upd M (d + 1) x y (d + 1) r s = true := fun r s h => upd_mono h
  have hd : ∀ e r s, e ≠ d + 1 → upd M (d + 1) x y e r s = M e r s := fun e r s he => by unfold upd; rw [if_neg (fun h => he h.1)]
  refine ⟨fun e r s he hr hs => by rw [hd e r s (by omega)]; exact p.known e r s he hr hs, fun e r s he => by rw [hd e r s (by omega)]; exact p.blank e r s he, fun r s h => ?_, fun r s hr hs hM => ?_, fun s hs hM => ?_, fun c' b' h1 h2 h3 h4 k' hk' => (p.p4 c' b' h1 h2 h3 h4 k' hk').mono hm, fun b' h1 h2 k' hk' => (p.p5 b' h1 h2 k' hk').mono hm, fun k' hk' => ?_⟩
  · rw [upd_iff] at h
    rcases h with ⟨_, rfl, rfl⟩ | h
    · exact hcan
    · exact p.sound r s h
  · rw [hd d r s (by omega)] at hM
    exact fun c' b' h1 h2 h3 h4 k' hk' => (p.p2 r s hr hs hM c' b' h1 h2 h3 h4 k' hk').mono hm
  · rw [hd d n s (by omega)] at hM
    exact fun c' b' h1 h2 h3 h4 k' hk' => (p.p3 s hs hM c' b' h1 h2 h3 h4 k' hk').mono hm
  · rcases Nat.lt_succ_iff_lt_or_eq.1 hk' with h1 | h1
    · exact (p.p6 k' h1).mono hm
    · subst h1; intro _; rw [← hx, ← hy]; exact upd_self
theorem PP.back (p : PP g h l o D d n m c b D.length M) : PP g h l o D d n m c (b + 1) 0 M :=
  ⟨p.known, p.blank, p.sound, p.p2, p.p3, p.p4, fun b' h1 h2 k hk => by
    rcases Int.lt_or_eq_of_le (show b' ≤ b by omega) with h3 | h3
    · exact p.p5 b' h1 h3 k hk
    · subst h3; exact p.p6 k hk, fun k hk => by omega⟩
theorem PP.creep (p : PP g h l o D d n m c b 0 M) (hb : g.bhi < b) : PP g h l o D d n m (c + 1) g.blo 0 M :=
  ⟨p.known, p.blank, p.sound, p.p2, p.p3, fun c' b' h1 h2 h3 h4 k hk => by
    rcases Int.lt_or_eq_of_le (show c' ≤ c by omega) with h5 | h5
    · exact p.p4 c' b' h1 h5 h3 h4 k hk
    · subst h5; exact p.p5 b' h3 (by omega) k hk, fun b' h1 h2 => by omega, fun k hk => by omega⟩
theorem PP.sink (p : PP g h l o D d n m c g.blo 0 M) (hc : (Go.Proofs.YtkaogjhnogkcdaaGreat.creep g d).hi < c ∨ M d n m = false) : PP g h l o D d n (m + 1) (Go.Proofs.YtkaogjhnogkcdaaGreat.creep g d).lo g.blo 0 M :=
  ⟨p.known, p.blank, p.sound, p.p2, fun s hs hM c' b' h1 h2 h3 h4 k hk => by
    rcases Nat.lt_succ_iff_lt_or_eq.1 hs with h5 | h5
    · exact p.p3 s h5 hM c' b' h1 h2 h3 h4 k hk
    · subst h5
      rcases hc with hc | hc
      · exact p.p4 c' b' h1 (by omega) h3 h4 k hk
      · rw [hc] at hM; exact absurd hM (by simp), fun c' b' h1 h2 => by omega, fun b' h1 h2 => by omega, fun k hk => by omega⟩
theorem PP.rise (p : PP g h l o D d n 31 c b 0 M) : PP g h l o D d (n + 1) 0 (Go.Proofs.YtkaogjhnogkcdaaGreat.creep g d).lo g.blo 0 M :=
  ⟨p.known, p.blank, p.sound, fun r s hr hs hM => by
    rcases Nat.lt_succ_iff_lt_or_eq.1 hr with h5 | h5
    · exact p.p2 r s h5 hs hM
    · subst h5; exact p.p3 s hs hM, fun s hs => by omega, fun c' b' h1 h2 => by omega, fun b' h1 h2 => by omega, fun k hk => by omega⟩
theorem PP.day (hok : Ok g h) (hd : d < h.length) (hD : ∀ y : Int, (∃ k, k < D.length ∧ gI D k = y) ↔ ∃ x, ((gR h d).lo ≤ x ∧ x ≤ (gR h d).hi) ∧ y = sinks g x) (p : PP g h l o D d 49 0 c b k M) : Known g h l o M (d + 1) ∧ Blank M (d + 1) :=
  ⟨known_succ hok hd hD p.known p.sound (fun r s hr hs hM => p.p2 r s hr hs hM), p.blank⟩
end
end Go.Proofs.YtkaogjhnogkcdaaGreat
end
