/- Stem: readings of arguments: tubes, readings, lists of readings. · Stem's reference: wide, Play, IsTruth (walks). · Stem's reference: Bare (walk). · Stem's reference: Says (walk). · Stem's reference: Without (walk). · Stem's reference: Stale, Refused, Correct (walks). · Stem: says, bath (walks). · Stem: bath (walk). · Stem's reference: Same (walk). -/
import Derived.Test.YtkaogjhnogkcdaaGreatH13
import Derived.Test.YtkaogjhnogkcdaaGreatH19
import Derived.Test.YtkaogjhnogkcdaaGreatH22
import Derived.Test.YtkaogjhnogkcdaaGreatH15
import Derived.Test.YtkaogjhnogkcdaaGreatH10
import Derived.Test.YtkaogjhnogkcdaaGreatH16
import Derived.Test.YtkaogjhnogkcdaaGreatH17
import Derived.Test.YtkaogjhnogkcdaaGreatH18
import Derived.Test.YtkaogjhnogkcdaaGreatH23
import Derived.Test.YtkaogjhnogkcdaaGreatH20
set_option linter.unusedVariables false
set_option linter.unusedSimpArgs false
set_option linter.unusedSectionVars false
section
namespace Go.Proofs.YtkaogjhnogkcdaaGreat
open Go.RowKit Go.ChangeShapes Go.WideShapes Go.ChangeAt
section
variable {H : Type} {enc : TypeId × Value → H} {w : World} {base : Nat} {spare : Nat → Bool} {held : Bool} {r : Reach} {b0 : Nat}
theorem tr_boo {fuel : Nat} {t : TypeId} {cs : List Value} {x : DataW H × List MemPlace} (ht : Tryz.prog.underlying t = some .bool) (h : DataW.trod enc Tryz.prog w base spare held fuel t cs = some x) : ∃ b : Bool, cs = [.bool b] := by
 obtain ⟨b, h1, _⟩ := DataW.trod_bool ht h
 exact ⟨b, h1⟩
theorem list10 {α : Type} {l : List α} (h : l.length = 10) : ∃ x0 x1 x2 x3 x4 x5 x6 x7 x8 x9, l = [x0, x1, x2, x3, x4, x5, x6, x7, x8, x9] := by
 match l, h with
 | [x0, x1, x2, x3, x4, x5, x6, x7, x8, x9], _ => exact ⟨x0, x1, x2, x3, x4, x5, x6, x7, x8, x9, rfl⟩
theorem list12 {α : Type} {l : List α} (h : l.length = 12) : ∃ x0 x1 x2 x3 x4 x5 x6 x7 x8 x9 x10 x11, l = [x0, x1, x2, x3, x4, x5, x6, x7, x8, x9, x10, x11] := by
 match l, h with
 | [x0, x1, x2, x3, x4, x5, x6, x7, x8, x9, x10, x11], _ => exact ⟨x0, x1, x2, x3, x4, x5, x6, x7, x8, x9, x10, x11, rfl⟩
set_option maxRecDepth 100000 in
theorem tr_gl {fuel : Nat} {cs : List Value} {x : DataW H × List MemPlace} (h : DataW.trod enc Tryz.prog w base spare held fuel 27 cs = some x) :
  ∃ (g : Gl) (Ab Ad : Option Addr) (cb cd : Nat), cs = [.int .i64 g.base, .slice Ab g.bands.length cb, .slice Ad g.depths.length cd, .int .i64 g.blo, .int .i64 g.bhi] ∧ GlIn w w.heap.size g Ab Ad := by
 obtain ⟨xs, n, _, _, hc, hxl, hf⟩ := DataW.trod_struct Tryz.underlying27 h
 obtain ⟨c0, c1, c2, c3, c4, rfl⟩ := list5 (hc.trans (by kernel_rfl))
 have hl : xs.length = 4 := hxl.trans rfl
 obtain ⟨y0, e0⟩ := some_of (l := xs) (i := 0) (by omega)
 obtain ⟨y1, e1⟩ := some_of (l := xs) (i := 1) (by omega)
 obtain ⟨y2, e2⟩ := some_of (l := xs) (i := 2) (by omega)
 obtain ⟨y3, e3⟩ := some_of (l := xs) (i := 3) (by omega)
 have h0 := fld hf (i := 0) 3 0 1 rfl rfl rfl (by kernel_rfl) e0
 have h1 := fld hf (i := 1) 22 1 1 rfl rfl rfl (by kernel_rfl) e1
 have h2 := fld hf (i := 2) 23 2 1 rfl rfl rfl (by kernel_rfl) e2
 have h3 := fld hf (i := 3) 25 3 2 rfl rfl rfl (by kernel_rfl) e3
 simp only [List.drop_zero, List.drop_succ_cons, List.take_succ_cons, List.take_zero] at h0 h1 h2 h3
 obtain ⟨u, hu, _⟩ := tr_int Tryz.underlying3 h0
 obtain ⟨Ab, lb, cb, hb1, hb2, hb3, hb4⟩ := tr_sl (sz := 3) (c := cB) Tryz.underlying22 (by omega) (by kernel_rfl) (fun h => tr_bd h) (fun _ => rfl) h1
 obtain ⟨Ad, ld, cd, hd1, hd2, hd3, hd4⟩ := tr_sl (sz := 2) (c := cD) Tryz.underlying23 (by omega) (by kernel_rfl) (fun h => tr_dp h) (fun _ => rfl) h2
 obtain ⟨q, hq⟩ := tr_rg h3
 unfold cR at hq
 injection hu with hu _
 injection hb1 with hb1 _
 injection hd1 with hd1 _
 injection hq with hq1 hq2
 injection hq2 with hq2 _
 refine ⟨⟨u, lb, ld, q.lo, q.hi⟩, Ab, Ad, cb, cd, by rw [hu, hb1, hd1, hq1, hq2], ⟨hb4 _ (fun k hk j hj => ?_), hd4 _ (fun k hk j hj => ?_)⟩⟩
 ·
  have e := gB_at hk
  match j, hj with
  | 0, _ => simp [cB, fB, e]
  | 1, _ => simp [cB, fB, e]
  | 2, _ => simp [cB, fB, e]
 ·
  have e := gD_at hk
  match j, hj with
  | 0, _ => simp [cD, fD, e]
  | 1, _ => simp [cD, fD, e]
set_option maxRecDepth 100000 in
theorem tr_tube {fuel : Nat} {cs : List Value} {x : DataW H × List MemPlace} (h : DataW.trod enc Tryz.prog w base spare held fuel 29 cs = some x) :
  ∃ (t : Tb) (Ab Ad : Option Addr) (cb cd : Nat), cs = [.int .i64 t.g.base, .slice Ab t.g.bands.length cb, .slice Ad t.g.depths.length cd, .int .i64 t.g.blo, .int .i64 t.g.bhi, .int .i64 t.k.lo, .int .i64 t.k.hi, .int .i64 t.lag.lo, .int .i64 t.lag.hi, .int .i64 t.sq.lo, .int .i64 t.sq.hi, .int .i64 t.term] ∧ GlIn w w.heap.size t.g Ab Ad := by
 obtain ⟨xs, n, _, _, hc, hxl, hf⟩ := DataW.trod_struct Tryz.underlying29 h
 obtain ⟨x0, x1, x2, x3, x4, x5, x6, x7, x8, x9, x10, x11, rfl⟩ := list12 (hc.trans (by kernel_rfl))
 have hl : xs.length = 5 := hxl.trans rfl
 obtain ⟨y0, e0⟩ := some_of (l := xs) (i := 0) (by omega)
 have h0 := fld hf (i := 0) 27 0 5 rfl rfl rfl (by kernel_rfl) e0
 obtain ⟨y1, e1⟩ := some_of (l := xs) (i := 1) (by omega)
 have h1 := fld hf (i := 1) 25 5 2 rfl rfl rfl (by kernel_rfl) e1
 obtain ⟨y2, e2⟩ := some_of (l := xs) (i := 2) (by omega)
 have h2 := fld hf (i := 2) 25 7 2 rfl rfl rfl (by kernel_rfl) e2
 obtain ⟨y3, e3⟩ := some_of (l := xs) (i := 3) (by omega)
 have h3 := fld hf (i := 3) 25 9 2 rfl rfl rfl (by kernel_rfl) e3
 obtain ⟨y4, e4⟩ := some_of (l := xs) (i := 4) (by omega)
 have h4 := fld hf (i := 4) 3 11 1 rfl rfl rfl (by kernel_rfl) e4
 simp only [List.drop_zero, List.drop_succ_cons, List.take_succ_cons, List.take_zero] at h0 h1 h2 h3 h4
 obtain ⟨g, Ab, Ad, cb, cd, hg0, hg⟩ := tr_gl h0
 injection hg0 with g0 hg0
 injection hg0 with g1 hg0
 injection hg0 with g2 hg0
 injection hg0 with g3 hg0
 injection hg0 with g4 _
 obtain ⟨k, hq1⟩ := tr_rg h1
 unfold cR at hq1
 injection hq1 with a1 hq1'
 injection hq1' with b1 _
 obtain ⟨l, hq2⟩ := tr_rg h2
 unfold cR at hq2
 injection hq2 with a2 hq2'
 injection hq2' with b2 _
 obtain ⟨q, hq3⟩ := tr_rg h3
 unfold cR at hq3
 injection hq3 with a3 hq3'
 injection hq3' with b3 _
 obtain ⟨m, hu4, _⟩ := tr_int Tryz.underlying3 h4
 injection hu4 with u4 _
 exact ⟨⟨g, k, l, q, m⟩, Ab, Ad, cb, cd, by rw [g0, g1, g2, g3, g4, a1, b1, a2, b2, a3, b3, u4], hg⟩
def cRd (r : Rd) : List Value := [.int .i64 r.day, .int .i64 r.shown, .int .i64 r.err, .int .i64 r.bare, .int .i64 r.air.lo, .int .i64 r.air.hi, .int .i64 r.rate.lo, .int .i64 r.rate.hi, .int .i64 r.deep, .bool r.broken]
set_option maxRecDepth 100000 in
theorem tr_rd {fuel : Nat} {cs : List Value} {x : DataW H × List MemPlace} (h : DataW.trod enc Tryz.prog w base spare held fuel 33 cs = some x) :
  ∃ q : Rd, cs = cRd q := by
 obtain ⟨xs, n, _, _, hc, hxl, hf⟩ := DataW.trod_struct Tryz.underlying33 h
 obtain ⟨x0, x1, x2, x3, x4, x5, x6, x7, x8, x9, rfl⟩ := list10 (hc.trans (by kernel_rfl))
 have hl : xs.length = 8 := hxl.trans rfl
 obtain ⟨y0, e0⟩ := some_of (l := xs) (i := 0) (by omega)
 have h0 := fld hf (i := 0) 3 0 1 rfl rfl rfl (by kernel_rfl) e0
 obtain ⟨y1, e1⟩ := some_of (l := xs) (i := 1) (by omega)
 have h1 := fld hf (i := 1) 3 1 1 rfl rfl rfl (by kernel_rfl) e1
 obtain ⟨y2, e2⟩ := some_of (l := xs) (i := 2) (by omega)
 have h2 := fld hf (i := 2) 3 2 1 rfl rfl rfl (by kernel_rfl) e2
 obtain ⟨y3, e3⟩ := some_of (l := xs) (i := 3) (by omega)
 have h3 := fld hf (i := 3) 3 3 1 rfl rfl rfl (by kernel_rfl) e3
 obtain ⟨y4, e4⟩ := some_of (l := xs) (i := 4) (by omega)
 have h4 := fld hf (i := 4) 25 4 2 rfl rfl rfl (by kernel_rfl) e4
 obtain ⟨y5, e5⟩ := some_of (l := xs) (i := 5) (by omega)
 have h5 := fld hf (i := 5) 25 6 2 rfl rfl rfl (by kernel_rfl) e5
 obtain ⟨y6, e6⟩ := some_of (l := xs) (i := 6) (by omega)
 have h6 := fld hf (i := 6) 3 8 1 rfl rfl rfl (by kernel_rfl) e6
 obtain ⟨y7, e7⟩ := some_of (l := xs) (i := 7) (by omega)
 have h7 := fld hf (i := 7) 4 9 1 rfl rfl rfl (by kernel_rfl) e7
 simp only [List.drop_zero, List.drop_succ_cons, List.take_succ_cons, List.take_zero] at h0 h1 h2 h3 h4 h5 h6 h7
 obtain ⟨d, hu0, _⟩ := tr_int Tryz.underlying3 h0
 injection hu0 with u0 _
 obtain ⟨s, hu1, _⟩ := tr_int Tryz.underlying3 h1
 injection hu1 with u1 _
 obtain ⟨e, hu2, _⟩ := tr_int Tryz.underlying3 h2
 injection hu2 with u2 _
 obtain ⟨b, hu3, _⟩ := tr_int Tryz.underlying3 h3
 injection hu3 with u3 _
 obtain ⟨a, hq4⟩ := tr_rg h4
 unfold cR at hq4
 injection hq4 with a4 hq4'
 injection hq4' with b4 _
 obtain ⟨v, hq5⟩ := tr_rg h5
 unfold cR at hq5
 injection hq5 with a5 hq5'
 injection hq5' with b5 _
 obtain ⟨p, hu6, _⟩ := tr_int Tryz.underlying3 h6
 injection hu6 with u6 _
 obtain ⟨bb, hbb⟩ := tr_boo Tryz.underlying4 h7
 injection hbb with ub _
 exact ⟨⟨d, s, e, b, a, v, p, bb⟩, by rw [u0, u1, u2, u3, a4, b4, a5, b5, u6, ub]; rfl⟩
set_option maxRecDepth 100000 in
theorem open_tube {v : Value} {d : DataW H} {p : List MemPlace} (hv : Value.okWide Tryz.prog w r b0 29 v) (h : DataW.Trod enc Tryz.prog w base spare held 29 v d p) :
  ∃ (t : Tb) (Ab Ad : Option Addr) (cb cd : Nat), v = .agg #[.int .i64 t.g.base, .slice Ab t.g.bands.length cb, .slice Ad t.g.depths.length cd, .int .i64 t.g.blo, .int .i64 t.g.bhi, .int .i64 t.k.lo, .int .i64 t.k.hi, .int .i64 t.lag.lo, .int .i64 t.lag.hi, .int .i64 t.sq.lo, .int .i64 t.sq.hi, .int .i64 t.term] ∧ GlIn w w.heap.size t.g Ab Ad := by
 obtain ⟨cs, rfl, hsz⟩ := okWide_struct Tryz.underlying29 hv
 obtain ⟨l⟩ := cs
 obtain ⟨fuel, hf⟩ := h
 obtain ⟨t, Ab, Ad, cb, cd, hc, hg⟩ := tr_tube hf
 exact ⟨t, Ab, Ad, cb, cd, congrArg (fun l => Value.agg (List.toArray l)) hc, hg⟩
instance : Inhabited Rd := ⟨⟨0, 0, 0, 0, ⟨0, 0⟩, ⟨0, 0⟩, 0, false⟩⟩
theorem gE_at {l : List Rd} {k : Nat} (hk : k < l.length) : gE l k = l[k] := by simp [gE, hk]
set_option maxRecDepth 100000 in
theorem open_rds {v : Value} {d : DataW H} {p : List MemPlace} (hv : Value.okWide Tryz.prog w r b0 60 v) (h : DataW.Trod enc Tryz.prog w base spare held 60 v d p) :
  ∃ A l cp, v = .slice A (l : List Rd).length cp ∧ l.length ≤ cp ∧ cp ≤ maxLen ∧ SlAt w w.heap.size 10 A l.length (fE l) := by
 obtain ⟨a, len, cap, rfl⟩ := okWide_slice Tryz.underlying60 hv
 obtain ⟨fuel, hf⟩ := h
 obtain ⟨A, l, cp, h1, h2, h3, h4⟩ := tr_sl (sz := 10) (c := cRd) Tryz.underlying60 (by omega) (by kernel_rfl) (fun h => tr_rd h) (fun _ => rfl) hf
 refine ⟨A, l, cp, by injection h1, h2, h3, h4 _ (fun k hk j hj => ?_)⟩
 have e := gE_at hk
 match j, hj with
 | 0, _ => simp [cRd, fE, cE, e]
 | 1, _ => simp [cRd, fE, cE, e]
 | 2, _ => simp [cRd, fE, cE, e]
 | 3, _ => simp [cRd, fE, cE, e]
 | 4, _ => simp [cRd, fE, cE, e]
 | 5, _ => simp [cRd, fE, cE, e]
 | 6, _ => simp [cRd, fE, cE, e]
 | 7, _ => simp [cRd, fE, cE, e]
 | 8, _ => simp [cRd, fE, cE, e]
 | 9, _ => simp [cRd, fE, cE, e]
end
end Go.Proofs.YtkaogjhnogkcdaaGreat
end

section
namespace Go.Proofs.YtkaogjhnogkcdaaGreat
open Go.RowKit
attribute [local go_sem] Ex.cell? Ex.frozen?

theorem agg_two {a b a' b' : Int} (h : a = a') (k : b = b') : (Ending.returned (.agg #[.int .i64 a, .int .i64 b]) : Ending) = .returned (.agg #[.int .i64 a', .int .i64 b']) := by rw [h, k]
set_option maxRecDepth 100000 in
set_option maxHeartbeats 1600000 in
theorem sr_wide (R : Rg) (n : Int) (w : World) :
  Calls Tryz.prog 75 #[.agg #[.int .i64 R.lo, .int .i64 R.hi], .int .i64 n] w fun e w' => e = .returned (.agg #[.int .i64 (min R.lo n), .int .i64 (max R.hi n)]) ∧ Below w.heap.size w w' := by
 go_enter Tryz.func75, Tryz.ntmps75
 go_upto_region 1 with fail
 show Code.wp _ _ _ _ _
 refine box2 (K := fun V => Code.wp _ _ _ _ V) ?_
 intro V hb1 q1 q3
 obtain ⟨pq1, hpq1⟩ : ∃ p, w.heap.size = p := ⟨_, rfl⟩
 obtain ⟨pq3, hpq3⟩ : ∃ p, w.heap.size + 1 = p := ⟨_, rfl⟩
 rw [hpq3] at q3 ⊢
 rw [hpq1] at q1 ⊢
 have hp1 : w.heap.size ≤ pq1 := by omega
 have hp3 : w.heap.size ≤ pq3 := by omega
 clear hpq1 hpq3
 have a0 : V.cell? ⟨pq1, 0, none⟩ = some (.int .i64 R.lo) := q1.cell 0
 have a1 : V.cell? ⟨pq1, 1, none⟩ = some (.int .i64 R.hi) := q1.cell 1
 have la := q1.lt
 have c0 : V.cell? ⟨pq3, 0, none⟩ = some (.int .i64 0) := q3.cell 0
 have c1 : V.cell? ⟨pq3, 1, none⟩ = some (.int .i64 0) := q3.cell 1
 have lc := q3.lt
 have fr := q3.frozen0
 have m3 := (q3.set_ 0 (.int .i64 (min R.lo n))).set_ 1 (.int .i64 (max R.hi n))
 simp only [List.setIfInBounds_toArray, List.set_cons_zero, List.set_cons_succ] at m3
 go_wp2
 refine bodyPost_ret (results_cell_row rfl _ _ _ 25 #[.int .i64 (min R.lo n), .int .i64 (max R.hi n)] (0, 0) _ rfl m3 rfl rfl rfl) rfl ?_
 exact ⟨rfl, ex_set (p := ⟨pq3, 1, none⟩) (ex_set (p := ⟨pq3, 0, none⟩) (hb1) hp3 _) hp3 _⟩

end Go.Proofs.YtkaogjhnogkcdaaGreat
end

section
namespace Go.Proofs.YtkaogjhnogkcdaaGreat
open Go.RowKit
attribute [local go_sem] Ex.cell? Ex.frozen?

abbrev stF (r : Rd) (k : Int) (i : Nat) : Int := stemP r k (r.air.lo + (i : Int))
abbrev slF (r : Rd) (lag : Int) (i : Nat) : Int := (r.rate.lo + (i : Int)) * lag
def stW (r : Rd) (k : Int) (n : Nat) : Rg := wdTo (fun i => stemP r k (r.air.lo + (i : Int))) n
def slW (r : Rd) (lag : Int) (n : Nat) : Rg := wdTo (fun i => (r.rate.lo + (i : Int)) * lag) n
set_option maxRecDepth 100000 in
set_option maxHeartbeats 6400000 in
theorem sr_bare (r : Rd) (q : Ki) (w : World) (hr : RdBd r) (hq : KiBd q) :
  Calls Tryz.prog 73 #[.agg #[.int .i64 r.day, .int .i64 r.shown, .int .i64 r.err, .int .i64 r.bare, .int .i64 r.air.lo, .int .i64 r.air.hi, .int .i64 r.rate.lo, .int .i64 r.rate.hi, .int .i64 r.deep, .bool r.broken], .int .i64 q.k, .int .i64 q.lag, .int .i64 q.sq] w fun e w' => e = .returned (.agg #[.int .i64 (bareP r q).lo, .int .i64 (bareP r q).hi]) ∧ Below w.heap.size w w' := by
 have HE := Lib.hid (bare_eq hq hr)
 have h1 := hr.air
 have h2 := hr.rate
 have hk := hq.k
 have hlag := hq.lag
 go_enter Tryz.func73, Tryz.ntmps73
 go_upto_region 1 with fail
 show Code.wp _ _ _ _ _
 refine box2 (K := fun V => Code.wp _ _ _ _ V) ?_
 intro V hb1 q1 q3
 obtain ⟨pq1, hpq1⟩ : ∃ p, w.heap.size = p := ⟨_, rfl⟩
 obtain ⟨pq3, hpq3⟩ : ∃ p, w.heap.size + 1 = p := ⟨_, rfl⟩
 rw [hpq3] at q3 ⊢
 rw [hpq1] at q1 ⊢
 have hp1 : w.heap.size ≤ pq1 := by omega
 have hp3 : w.heap.size ≤ pq3 := by omega
 clear hpq1 hpq3
 have hlt1 := q1.lt
 have hlt3 := q3.lt
 have NG := ex_alloc (Below.refl V.heap.size V) (.cells #[.int .i64 1073741824, .int .i64 (-1073741824)] 25)
 have q9 : Blk (V.alloc (.cells #[.int .i64 1073741824, .int .i64 (-1073741824)] 25)) V.heap.size 25 #[.int .i64 1073741824, .int .i64 (-1073741824)] := Blk.new _ _ _
 have a4 := q1.cell 4
 have la := q1.lt
 simp at a4
 have a4' := q1.alloc (.cells #[.int .i64 1073741824, .int .i64 (-1073741824)] 25)
 have a5 := a4'.cell 4
 have la' := a4'.lt
 simp at a5
 go_upto_region 3 with fail
 clear a4 la a4' a5 la'
 obtain ⟨p9, hp9'⟩ : ∃ p, V.heap.size = p := ⟨_, rfl⟩
 rw [hp9'] at hlt1 hlt3
 rw [hp9'] at q9 ⊢
 have hp9 : w.heap.size ≤ p9 := by have := hb1.size; omega
 clear hp9'
 replace q1 := q1.below NG q1.lt
 replace q3 := q3.below NG q3.lt
 have B_V1 := ex_trans hb1 NG
 clear NG
 generalize V.alloc (.cells #[.int .i64 1073741824, .int .i64 (-1073741824)] 25) = V1 at *
 skip
 obtain ⟨n1, hn1⟩ : ∃ n, (r.air.hi - r.air.lo + 1).toNat = n := ⟨_, rfl⟩
 obtain ⟨n2, hn2⟩ : ∃ n, (r.rate.hi - r.rate.lo + 1).toNat = n := ⟨_, rfl⟩
 rw [hn1, hn2] at HE
 have en1 : r.air.hi = r.air.lo + (n1 : Int) - 1 := by omega
 have en2 : r.rate.hi = r.rate.lo + (n2 : Int) - 1 := by omega
 have HN1 := Lib.hid en1
 have HN2 := Lib.hid en2
 clear en1 en2 hn1 hn2
 have n39 : pq3 ≠ p9 := by omega
 have n19 : pq1 ≠ p9 := by omega
 clear hlt1 hlt3
 go_loopw [10] (fun i wr => ∃ k : Nat, k ≤ n1 ∧ i = .int .i64 (r.air.lo + (k : Int)) ∧ Below w.heap.size w wr ∧ Blk wr pq1 33 #[.int .i64 r.day, .int .i64 r.shown, .int .i64 r.err, .int .i64 r.bare, .int .i64 r.air.lo, .int .i64 r.air.hi, .int .i64 r.rate.lo, .int .i64 r.rate.hi, .int .i64 r.deep, .bool r.broken] ∧ Blk wr pq3 25 #[.int .i64 0, .int .i64 0] ∧ Blk wr p9 25 #[.int .i64 (stW r q.k k).lo, .int .i64 (stW r q.k k).hi])
  (fun i _ => n1 - (intOf i - r.air.lo).toNat)
 case atStart => exact ⟨0, by omega, by simp, B_V1, q1, q3, q9⟩
 case round =>
  clear q1 q3 q9 B_V1
  obtain ⟨k, hk1, rfl, hbl, q1, q3, q9⟩ := hrel
  have hn5 : n1 ≤ 201 := by have := HN1.out; omega
  by_cases hlt : k < n1
  ·
   have e1 : decide (r.air.lo + (k : Int) ≤ r.air.hi) = true := decide_eq_true (by have := HN1.out; omega)
   have hka : -100 ≤ r.air.lo + (k : Int) ∧ r.air.lo + (k : Int) ≤ 100 := by have := HN1.out; omega
   have a0 : wr.cell? ⟨pq1, 0, none⟩ = some (.int .i64 r.day) := q1.cell 0
   have a1 : wr.cell? ⟨pq1, 1, none⟩ = some (.int .i64 r.shown) := q1.cell 1
   have a2 : wr.cell? ⟨pq1, 2, none⟩ = some (.int .i64 r.err) := q1.cell 2
   have a3 : wr.cell? ⟨pq1, 3, none⟩ = some (.int .i64 r.bare) := q1.cell 3
   have a4 : wr.cell? ⟨pq1, 4, none⟩ = some (.int .i64 r.air.lo) := q1.cell 4
   have a5 : wr.cell? ⟨pq1, 5, none⟩ = some (.int .i64 r.air.hi) := q1.cell 5
   have a6 : wr.cell? ⟨pq1, 6, none⟩ = some (.int .i64 r.rate.lo) := q1.cell 6
   have a7 : wr.cell? ⟨pq1, 7, none⟩ = some (.int .i64 r.rate.hi) := q1.cell 7
   have a8 : wr.cell? ⟨pq1, 8, none⟩ = some (.int .i64 r.deep) := q1.cell 8
   have a9 : wr.cell? ⟨pq1, 9, none⟩ = some (.bool r.broken) := q1.cell 9
   have la := q1.lt
   have y0 := q9.cell 0
   have y1 := q9.cell 1
   have ly := q9.lt
   simp at y0 y1
   have HW : Hid (stW r q.k (k + 1) = ⟨min (stW r q.k k).lo (stemP r q.k (r.air.lo + (k : Int))), max (stW r q.k k).hi (stemP r q.k (r.air.lo + (k : Int)))⟩) := Lib.hid rfl
   generalize stW r q.k k = sw at *
   go_wp2_with fail
   refine wp_region_ext_tq 6 (.quiet 0 (.quiet 1 (.quiet 2 (.quiet 3 (.loud 4 (.loud 5 .done)))))) (by kernel_rfl) (by kernel_rfl) (by intro d _ _ _ _ h; cases d <;> exact h) ?_
   have D0 := (Below.refl wr.heap.size wr).drew
   repeat (refine tq_quiet rfl ?_; go_big_quiet_step (fail); refine wpQuiet_nil ?_)
   refine tq_loud rfl ?_
   go_wp2_with fail
   refine (sr_stem r q.k _ _ hr hk hka).mono ?_
   rintro e V2 ⟨rfl, hV2⟩
   have N4 := ex_trans ((Below.refl wr.heap.size wr)).drew hV2
   go_wp2_with fail
   refine ⟨inEx N4, ?_⟩
   refine tq_loud rfl ?_
   go_wp2_with fail
   refine (sr_wide sw _ _).mono ?_
   rintro e V3 ⟨rfl, hV3⟩
   have N5 := ex_trans N4 hV3
   go_wp2_with fail
   refine ⟨inEx N5, ?_⟩
   refine tq_done (r := [_]) rfl ?_
   have XX := N5
   have XS := XX.size
   replace q1 := q1.below XX q1.lt
   replace q3 := q3.below XX q3.lt
   replace q9 := q9.below XX q9.lt
   have B_V4 := ex_trans hbl XX
   clear a0 a1 a2 a3 a4 a5 a6 a7 a8 a9 la
   clear D0 XX XS hV3 N5 hV2 N4 
   generalize V3 = V4 at *
   have u0 := q9.cell 0
   have u1 := q9.cell 1
   have fu := q9.frozen0
   have lu := q9.lt
   simp at u0 u1
   clear y0 y1 ly
   have m9 := (q9.set_ 0 (.int .i64 (min sw.lo (stemP r q.k (r.air.lo + (k : Int)))))).set_ 1 (.int .i64 (max sw.hi (stemP r q.k (r.air.lo + (k : Int)))))
   simp only [List.setIfInBounds_toArray, List.set_cons_zero, List.set_cons_succ] at m9
   have m1 := (q1.far (p := ⟨p9, 0, none⟩) n19 (.int .i64 (min sw.lo (stemP r q.k (r.air.lo + (k : Int)))))).far (p := ⟨p9, 1, none⟩) n19 (.int .i64 (max sw.hi (stemP r q.k (r.air.lo + (k : Int)))))
   have m3 := (q3.far (p := ⟨p9, 0, none⟩) n39 (.int .i64 (min sw.lo (stemP r q.k (r.air.lo + (k : Int)))))).far (p := ⟨p9, 1, none⟩) n39 (.int .i64 (max sw.hi (stemP r q.k (r.air.lo + (k : Int)))))
   have mB := ex_set (p := ⟨p9, 1, none⟩) (ex_set (p := ⟨p9, 0, none⟩) B_V4 hp9 (.int .i64 (min sw.lo (stemP r q.k (r.air.lo + (k : Int)))))) hp9 (.int .i64 (max sw.hi (stemP r q.k (r.air.lo + (k : Int)))))
   go_wp2
   go_roundw
   case rel => exact ⟨k + 1, by omega, by go_num, mB, m1, m3, by rw [HW.out]; exact m9⟩
   case measure => simp [intOf]; omega
  ·
   have HK : Hid (k = n1) := Lib.hid (by omega)
   have e1 : decide (r.air.lo + (k : Int) ≤ r.air.hi) = false := decide_eq_false (by have := HN1.out; omega)
   have hsb : ((-1000000 ≤ (stW r q.k k).lo ∧ (stW r q.k k).lo ≤ 1073741824) ∧ (-1073741824 ≤ (stW r q.k k).hi ∧ (stW r q.k k).hi ≤ 1000000)) := wdTo_bd (fun i hi => by have := (stem_bd hr hk (air := r.air.lo + (i : Int)) (by have := HN1.out; omega)).2.2; omega)
   have HSW : Hid (stW r q.k n1 = stW r q.k k) := Lib.hid (by rw [HK.out])
   generalize stW r q.k k = sa at *
   clear hlt
   have hlt1 := q1.lt
   have hlt3 := q3.lt
   have hlt9 := q9.lt
   have NG := ex_alloc (Below.refl wr.heap.size wr) (.cells #[.int .i64 1073741824, .int .i64 (-1073741824)] 25)
   have qs : Blk (wr.alloc (.cells #[.int .i64 1073741824, .int .i64 (-1073741824)] 25)) wr.heap.size 25 #[.int .i64 1073741824, .int .i64 (-1073741824)] := Blk.new _ _ _
   have a5 := q1.cell 5
   have la := q1.lt
   simp at a5
   have q1' := q1.alloc (.cells #[.int .i64 1073741824, .int .i64 (-1073741824)] 25)
   have b6 := q1'.cell 6
   have lb := q1'.lt
   simp at b6
   go_upto_region 8 with fail
   clear a5 la q1' b6 lb e1
   obtain ⟨ps, hps'⟩ : ∃ p, wr.heap.size = p := ⟨_, rfl⟩
   rw [hps'] at hlt1 hlt3 hlt9
   rw [hps'] at qs ⊢
   have hps : w.heap.size ≤ ps := by have := hbl.size; omega
   clear hps'
   replace q1 := q1.below NG q1.lt
   replace q3 := q3.below NG q3.lt
   replace q9 := q9.below NG q9.lt
   have B_V5 := ex_trans hbl NG
   clear NG
   generalize wr.alloc (.cells #[.int .i64 1073741824, .int .i64 (-1073741824)] 25) = V5 at *
   have n1s : pq1 ≠ ps := by intro e; subst e; have h1 := (q1 : _ = _).symm.trans (qs : _ = _); simp at h1
   skip
   skip
   have n1s : pq1 ≠ ps := by have := hlt1; omega
   have n3s : pq3 ≠ ps := by have := hlt3; omega
   have n9s : p9 ≠ ps := by have := hlt9; omega
   go_loopw [12] (fun i wr => ∃ k2 : Nat, k2 ≤ n2 ∧ i = .int .i64 (r.rate.lo + (k2 : Int)) ∧ Below w.heap.size w wr ∧ Blk wr pq1 33 #[.int .i64 r.day, .int .i64 r.shown, .int .i64 r.err, .int .i64 r.bare, .int .i64 r.air.lo, .int .i64 r.air.hi, .int .i64 r.rate.lo, .int .i64 r.rate.hi, .int .i64 r.deep, .bool r.broken] ∧ Blk wr pq3 25 #[.int .i64 0, .int .i64 0] ∧ Blk wr p9 25 #[.int .i64 sa.lo, .int .i64 sa.hi] ∧ Blk wr ps 25 #[.int .i64 (slW r q.lag k2).lo, .int .i64 (slW r q.lag k2).hi])
    (fun i _ => n2 - (intOf i - r.rate.lo).toNat)
   case atStart => exact ⟨0, by omega, by simp, B_V5, q1, q3, q9, qs⟩
   case round =>
    clear q1 q3 q9 qs B_V5
    obtain ⟨k2, hk2, rfl, hbl2, q1, q3, q9, qs⟩ := hrel
    have hn6 : n2 ≤ 41 := by have := HN2.out; omega
    by_cases hlt : k2 < n2
    ·
     have e1 : decide (r.rate.lo + (k2 : Int) ≤ r.rate.hi) = true := decide_eq_true (by have := HN2.out; omega)
     have hka : -20 ≤ r.rate.lo + (k2 : Int) ∧ r.rate.lo + (k2 : Int) ≤ 20 := by have := HN2.out; omega
     have hmb := late_bd hq hka
     have a7 := q1.cell 7
     have la := q1.lt
     have y0 := qs.cell 0
     have y1 := qs.cell 1
     have ly := qs.lt
     simp at a7 y0 y1
     have HW : Hid (slW r q.lag (k2 + 1) = ⟨min (slW r q.lag k2).lo ((r.rate.lo + (k2 : Int)) * q.lag), max (slW r q.lag k2).hi ((r.rate.lo + (k2 : Int)) * q.lag)⟩) := Lib.hid rfl
     generalize slW r q.lag k2 = sw at *
     go_wp2_with fail
     refine (sr_wide sw _ _).mono ?_
     rintro e V6 ⟨rfl, hV6⟩
     replace q1 := q1.below hV6 q1.lt
     replace q3 := q3.below hV6 q3.lt
     replace q9 := q9.below hV6 q9.lt
     replace qs := qs.below hV6 qs.lt
     have B_V6 := ex_trans hbl2 hV6
     clear y0 y1 ly a7 la
     have u0 := qs.cell 0
     have u1 := qs.cell 1
     have fu := qs.frozen0
     have lu := qs.lt
     simp at u0 u1
     have ms := (qs.set_ 0 (.int .i64 (min sw.lo ((r.rate.lo + (k2 : Int)) * q.lag)))).set_ 1 (.int .i64 (max sw.hi ((r.rate.lo + (k2 : Int)) * q.lag)))
     simp only [List.setIfInBounds_toArray, List.set_cons_zero, List.set_cons_succ] at ms
     have mq1 := (q1.far (p := ⟨ps, 0, none⟩) n1s (.int .i64 (min sw.lo ((r.rate.lo + (k2 : Int)) * q.lag)))).far (p := ⟨ps, 1, none⟩) n1s (.int .i64 (max sw.hi ((r.rate.lo + (k2 : Int)) * q.lag)))
     have mq3 := (q3.far (p := ⟨ps, 0, none⟩) n3s (.int .i64 (min sw.lo ((r.rate.lo + (k2 : Int)) * q.lag)))).far (p := ⟨ps, 1, none⟩) n3s (.int .i64 (max sw.hi ((r.rate.lo + (k2 : Int)) * q.lag)))
     have mq9 := (q9.far (p := ⟨ps, 0, none⟩) n9s (.int .i64 (min sw.lo ((r.rate.lo + (k2 : Int)) * q.lag)))).far (p := ⟨ps, 1, none⟩) n9s (.int .i64 (max sw.hi ((r.rate.lo + (k2 : Int)) * q.lag)))
     have mB := ex_set (p := ⟨ps, 1, none⟩) (ex_set (p := ⟨ps, 0, none⟩) B_V6 hps (.int .i64 (min sw.lo ((r.rate.lo + (k2 : Int)) * q.lag)))) hps (.int .i64 (max sw.hi ((r.rate.lo + (k2 : Int)) * q.lag)))
     go_wp2
     go_roundw
     case rel => exact ⟨k2 + 1, by omega, by go_num, mB, mq1, mq3, mq9, by rw [HW.out]; exact ms⟩
     case measure => simp [intOf]; omega
    ·
     have HK2 : Hid (k2 = n2) := Lib.hid (by omega)
     have e1 : decide (r.rate.lo + (k2 : Int) ≤ r.rate.hi) = false := decide_eq_false (by have := HN2.out; omega)
     have hlb : ((-1000000 ≤ (slW r q.lag k2).lo ∧ (slW r q.lag k2).lo ≤ 1073741824) ∧ (-1073741824 ≤ (slW r q.lag k2).hi ∧ (slW r q.lag k2).hi ≤ 1000000)) := wdTo_bd (fun i hi => by have := late_bd hq (rate := r.rate.lo + (i : Int)) (by have := HN2.out; omega); omega)
     have HE2 : Hid (bareP r q = ⟨r.shown - q.sq * r.deep - r.err + sa.lo + (slW r q.lag k2).lo, r.shown - q.sq * r.deep + r.err + sa.hi + (slW r q.lag k2).hi⟩) := Lib.hid (by rw [HK2.out, ← HSW.out]; exact HE.out)
     generalize slW r q.lag k2 = sl at *
     clear hlt
     have hdp := deep_bd hq hr
     have hsh := hr.shown
     have her := hr.err
     skip
     have a0 : wr.cell? ⟨pq1, 0, none⟩ = some (.int .i64 r.day) := q1.cell 0
     have a1 : wr.cell? ⟨pq1, 1, none⟩ = some (.int .i64 r.shown) := q1.cell 1
     have a2 : wr.cell? ⟨pq1, 2, none⟩ = some (.int .i64 r.err) := q1.cell 2
     have a3 : wr.cell? ⟨pq1, 3, none⟩ = some (.int .i64 r.bare) := q1.cell 3
     have a4 : wr.cell? ⟨pq1, 4, none⟩ = some (.int .i64 r.air.lo) := q1.cell 4
     have a5 : wr.cell? ⟨pq1, 5, none⟩ = some (.int .i64 r.air.hi) := q1.cell 5
     have a6 : wr.cell? ⟨pq1, 6, none⟩ = some (.int .i64 r.rate.lo) := q1.cell 6
     have a7 : wr.cell? ⟨pq1, 7, none⟩ = some (.int .i64 r.rate.hi) := q1.cell 7
     have a8 : wr.cell? ⟨pq1, 8, none⟩ = some (.int .i64 r.deep) := q1.cell 8
     have a9 : wr.cell? ⟨pq1, 9, none⟩ = some (.bool r.broken) := q1.cell 9
     have la := q1.lt
     have x0 := q9.cell 0
     have x1 := q9.cell 1
     have lx := q9.lt
     have y0 := qs.cell 0
     have y1 := qs.cell 1
     have ly := qs.lt
     simp at x0 x1 y0 y1
     have r0 := q3.cell 0
     have r1 := q3.cell 1
     have fr := q3.frozen0
     have lr := q3.lt
     simp at r0 r1
     have m3 := (q3.set_ 0 (.int .i64 (r.shown - q.sq * r.deep - r.err + sa.lo + sl.lo))).set_ 1 (.int .i64 (r.shown - q.sq * r.deep + r.err + sa.hi + sl.hi))
     simp only [List.setIfInBounds_toArray, List.set_cons_zero, List.set_cons_succ] at m3
     go_wp2
     refine bodyPost_ret (results_cell_row rfl _ _ _ 25 #[.int .i64 (r.shown - q.sq * r.deep - r.err + sa.lo + sl.lo), .int .i64 (r.shown - q.sq * r.deep + r.err + sa.hi + sl.hi)] (0, 0) _ rfl m3 rfl rfl rfl) rfl ?_
     exact ⟨agg_two (by rw [HE2.out]) (by rw [HE2.out]), ex_set (p := ⟨pq3, 1, none⟩) (ex_set (p := ⟨pq3, 0, none⟩) hbl2 hp3 _) hp3 _⟩


end Go.Proofs.YtkaogjhnogkcdaaGreat
end

section
namespace Go.Proofs.YtkaogjhnogkcdaaGreat
open Go.RowKit
attribute [local go_sem] Ex.cell? Ex.frozen?

set_option maxRecDepth 100000 in
set_option maxHeartbeats 6400000 in
theorem sr_says (r : Rd) (q : Ki) (n : Int) (w : World) (hr : RdBd r) (hq : KiBd q) (hn : -1000000 ≤ n ∧ n ≤ 1000000) :
    Calls Tryz.prog 74 #[.agg #[.int .i64 r.day, .int .i64 r.shown, .int .i64 r.err, .int .i64 r.bare, .int .i64 r.air.lo, .int .i64 r.air.hi, .int .i64 r.rate.lo, .int .i64 r.rate.hi, .int .i64 r.deep, .bool r.broken], .int .i64 q.k, .int .i64 q.lag, .int .i64 q.sq, .int .i64 n] w fun e w' => e = .returned (.bool (saysB r q n)) ∧ Below w.heap.size w w' := by
  have hra := hr.rate
  go_enter Tryz.func74, Tryz.ntmps74
  go_upto_region 1 with fail
  show Code.wp _ _ _ _ _
  refine box1 (K := fun V => Code.wp _ _ _ _ V) ?_
  intro V hb1 q1
  obtain ⟨pq1, hpq1⟩ : ∃ p, w.heap.size = p := ⟨_, rfl⟩
  rw [hpq1] at q1 ⊢
  have hp1 : w.heap.size ≤ pq1 := by omega
  clear hpq1
  go_wp2_with (refine pause_at 14 rfl ?_)
  refine Paused.mk ?_
  refine wpList_load_row rfl 33 _ rfl _ rfl 33 _ (0, 0) _ (q1) Tryz.underlying33 rfl (by kernel_rfl) ?_
  have NA := ex_alloc (Below.refl V.heap.size V) (.cells #[.int .i64 0, .int .i64 0, .int .i64 0, .int .i64 0, .int .i64 0, .int .i64 0, .int .i64 0, .int .i64 0, .int .i64 0, .bool false] 33)
  have q4 : Blk (V.alloc (.cells #[.int .i64 0, .int .i64 0, .int .i64 0, .int .i64 0, .int .i64 0, .int .i64 0, .int .i64 0, .int .i64 0, .int .i64 0, .bool false] 33)) V.heap.size 33 #[.int .i64 0, .int .i64 0, .int .i64 0, .int .i64 0, .int .i64 0, .int .i64 0, .int .i64 0, .int .i64 0, .int .i64 0, .bool false] := Blk.new _ _ _
  have lt1 := q1.lt
  obtain ⟨p4, hp4'⟩ : ∃ p, V.heap.size = p := ⟨_, rfl⟩
  rw [hp4'] at q4
  have n14 : pq1 ≠ p4 := by omega
  go_wp2_with (refine pause_store 33 rfl ?_)
  refine Paused.mk ?_
  refine wpList_store_row rfl 33 _ _ rfl _ #[.int .i64 r.day, .int .i64 r.shown, .int .i64 r.err, .int .i64 r.bare, .int .i64 r.air.lo, .int .i64 r.air.hi, .int .i64 r.rate.lo, .int .i64 r.rate.hi, .int .i64 r.deep, .bool r.broken] (by kernel_rfl) (by kernel_rfl) 33 _ q4 (by kernel_rfl) (by kernel_rfl) (by kernel_rfl) ?_
  replace q4 := q4.setRow #[.int .i64 r.day, .int .i64 r.shown, .int .i64 r.err, .int .i64 r.bare, .int .i64 r.air.lo, .int .i64 r.air.hi, .int .i64 r.rate.lo, .int .i64 r.rate.hi, .int .i64 r.deep, .bool r.broken]
  have XZ : Below V.heap.size V ((V.alloc (.cells #[.int .i64 0, .int .i64 0, .int .i64 0, .int .i64 0, .int .i64 0, .int .i64 0, .int .i64 0, .int .i64 0, .int .i64 0, .bool false] 33)).setRow p4 #[.int .i64 r.day, .int .i64 r.shown, .int .i64 r.err, .int .i64 r.bare, .int .i64 r.air.lo, .int .i64 r.air.hi, .int .i64 r.rate.lo, .int .i64 r.rate.hi, .int .i64 r.deep, .bool r.broken]) := ex_row NA (Nat.le_of_eq hp4') #[.int .i64 r.day, .int .i64 r.shown, .int .i64 r.err, .int .i64 r.bare, .int .i64 r.air.lo, .int .i64 r.air.hi, .int .i64 r.rate.lo, .int .i64 r.rate.hi, .int .i64 r.deep, .bool r.broken]
  have hp4 : w.heap.size ≤ p4 := by have := hb1.size; omega
  clear NA hp4'
  replace q1 := q1.below XZ q1.lt
  have B_V1 := ex_trans hb1 XZ
  clear XZ
  generalize (V.alloc (.cells #[.int .i64 0, .int .i64 0, .int .i64 0, .int .i64 0, .int .i64 0, .int .i64 0, .int .i64 0, .int .i64 0, .int .i64 0, .bool false] 33)).setRow p4 #[.int .i64 r.day, .int .i64 r.shown, .int .i64 r.err, .int .i64 r.bare, .int .i64 r.air.lo, .int .i64 r.air.hi, .int .i64 r.rate.lo, .int .i64 r.rate.hi, .int .i64 r.deep, .bool r.broken] = V1 at *
  skip
  have u6 := q4.cell 6
  have u7 := q4.cell 7
  have fu := q4.frozen0
  have lu := q4.lt
  simp at u6 u7
  have q1' := q1
  go_wp2_with (refine pause_at 17 rfl ?_)
  clear fu lu u6 u7
  replace q4 := (q4.set_ 6 (.int .i64 0)).set_ 7 (.int .i64 0)
  simp only [List.setIfInBounds_toArray, List.set_cons_zero, List.set_cons_succ] at q4
  replace q1 := (q1.far (p := ⟨p4, 6, none⟩) n14 (.int .i64 0)).far (p := ⟨p4, 7, none⟩) n14 (.int .i64 0)
  clear q1'
  have B_V2 := ex_set (p := ⟨p4, 7, none⟩) (ex_set (p := ⟨p4, 6, none⟩) B_V1 hp4 (.int .i64 0)) hp4 (.int .i64 0)
  generalize (V1.setCell ⟨p4, 6, none⟩ (.int .i64 0)).setCell ⟨p4, 7, none⟩ (.int .i64 0) = V2 at *
  refine Paused.mk ?_
  refine wpList_load_row rfl 33 _ rfl _ rfl 33 _ (0, 0) _ (q4) Tryz.underlying33 rfl (by kernel_rfl) ?_
  go_wp2_with fail
  refine (sr_bare (stillR r) q _ (still_bd hr) hq).mono ?_
  rintro e V3 ⟨rfl, hV3⟩
  replace q1 := q1.below hV3 q1.lt
  replace q4 := q4.below hV3 q4.lt
  have B_V3 := ex_trans B_V2 hV3
  have HS : Hid (∀ rate, inB (n - rate * q.lag) (bareP (stillR r) q).lo (bareP (stillR r) q).hi = sayAt r q n rate) := Lib.hid (fun rate => still_says hq hr n rate)
  generalize bareP (stillR r) q = b at *
  have NG := ex_alloc (Below.refl V3.heap.size V3) (.cells #[.int .i64 b.lo, .int .i64 b.hi] 25)
  have q5 : Blk (V3.alloc (.cells #[.int .i64 b.lo, .int .i64 b.hi] 25)) V3.heap.size 25 #[.int .i64 b.lo, .int .i64 b.hi] := Blk.new _ _ _
  have lt_q1 := q1.lt
  have lt_q4 := q4.lt
  have a6 := (q1.alloc (.cells #[.int .i64 b.lo, .int .i64 b.hi] 25)).cell 6
  have la := (q1.alloc (.cells #[.int .i64 b.lo, .int .i64 b.hi] 25)).lt
  simp at a6
  go_upto_region 5 with fail
  clear a6 la
  obtain ⟨p5, hp5'⟩ : ∃ p, V3.heap.size = p := ⟨_, rfl⟩
  rw [hp5'] at q5 lt_q1 lt_q4 ⊢
  have zp5 : w.heap.size ≤ p5 := by have := B_V3.size; omega
  clear hp5'
  have nq1_p5 : pq1 ≠ p5 := by omega
  clear lt_q1
  have nq4_p5 : p4 ≠ p5 := by omega
  clear lt_q4
  replace q1 := q1.below NG q1.lt
  replace q4 := q4.below NG q4.lt
  have B_V4 := ex_trans B_V3 NG
  clear NG
  generalize V3.alloc (.cells #[.int .i64 b.lo, .int .i64 b.hi] 25) = V4 at *
  obtain ⟨N, hN⟩ : ∃ N : Nat, (N : Int) = r.rate.hi - r.rate.lo + 1 := ⟨(r.rate.hi - r.rate.lo + 1).toNat, by omega⟩
  have HN := Lib.hid hN
  have hNb : N ≤ 41 := by omega
  clear hN
  go_loopw [13] (fun i wr => ∃ k : Nat, k ≤ N ∧ i = .int .i64 (r.rate.lo + (k : Int)) ∧ Hid (∀ j : Nat, j < k → sayAt r q n (r.rate.lo + (j : Int)) = false) ∧ Below w.heap.size w wr ∧ Blk wr pq1 33 #[.int .i64 r.day, .int .i64 r.shown, .int .i64 r.err, .int .i64 r.bare, .int .i64 r.air.lo, .int .i64 r.air.hi, .int .i64 r.rate.lo, .int .i64 r.rate.hi, .int .i64 r.deep, .bool r.broken] ∧ Blk wr p5 25 #[.int .i64 b.lo, .int .i64 b.hi])
    (fun i _ => N - (intOf i - r.rate.lo).toNat)
  case atStart => exact ⟨0, by omega, by simp, Lib.hid (fun j h => by omega), B_V4, q1, q5⟩
  case round =>
    clear q1 q4 q5 B_V4
    obtain ⟨k, hk, rfl, HF, hbl, q1, q5⟩ := hrel
    have a7 := q1.cell 7
    have la := q1.lt
    simp at a7
    by_cases hlt : k < N
    · have e1 : decide (r.rate.lo + (k : Int) ≤ r.rate.hi) = true := decide_eq_true (by have := HN.out; omega)
      have hka : -20 ≤ r.rate.lo + (k : Int) ∧ r.rate.lo + (k : Int) ≤ 20 := by have := HN.out; omega
      have hmb := late_bd hq hka
      have y0 := q5.cell 0
      have y1 := q5.cell 1
      have ly := q5.lt
      simp at y0 y1
      go_wp2_with fail
      refine (In_any _ _ _ _).mono ?_
      rintro e w' ⟨rfl, rfl⟩
      rw [HS.out]
      clear hmb
      cases hs : sayAt r q n (r.rate.lo + (k : Int))
      · have HF2 : Hid (∀ j : Nat, j < k + 1 → sayAt r q n (r.rate.lo + (j : Int)) = false) := Lib.hid (fun j hj => by
          rcases Nat.lt_succ_iff_lt_or_eq.1 hj with h | h
          · exact HF.out j h
          · rw [h]; exact hs)
        clear hs
        go_wp2
        go_roundw
        case rel => exact ⟨k + 1, by omega, by go_num, HF2, hbl, q1, q5⟩
        case measure => simp [intOf]; omega
      · have HR : Hid (saysB r q n = true) := Lib.hid (says_iff.2 ⟨_, by have := HN.out; omega, inB_iff.1 hs⟩)
        clear hs
        go_wp2
        go_ret
        exact ⟨ret_bool HR.out.symm, hbl⟩
    · have e1 : decide (r.rate.lo + (k : Int) ≤ r.rate.hi) = false := decide_eq_false (by have := HN.out; omega)
      have HR : Hid (saysB r q n = false) := Lib.hid (someTo_false.2 fun j hj => HF.out j (by have := HN.out; omega))
      go_wp2
      go_ret
      exact ⟨ret_bool HR.out.symm, hbl⟩


end Go.Proofs.YtkaogjhnogkcdaaGreat
end

section
namespace Go.Proofs.YtkaogjhnogkcdaaGreat
open Go.RowKit
attribute [local go_sem] Ex.cell? Ex.frozen?

end Go.Proofs.YtkaogjhnogkcdaaGreat
end

section
namespace Go.Proofs.YtkaogjhnogkcdaaGreat
open Go.RowKit
attribute [local go_sem] Ex.cell? Ex.frozen?

set_option maxRecDepth 100000 in
set_option maxHeartbeats 3200000 in
theorem sr_stale (t : Tb) (Ab Ad : Option Addr) (cb cd : Nat) (Ai : Option Addr) (ci : Nat) (l : List Ic) (r : Rd) (w : World) (hi : SlAt w w.heap.size 3 Ai l.length (fC l)) (hl : l.length ≤ 1000000) (hd : 0 ≤ r.day ∧ r.day ≤ 1000000) :
  Calls Tryz.prog 34 #[.agg #[.int .i64 t.g.base, .slice Ab t.g.bands.length cb, .slice Ad t.g.depths.length cd, .int .i64 t.g.blo, .int .i64 t.g.bhi, .int .i64 t.k.lo, .int .i64 t.k.hi, .int .i64 t.lag.lo, .int .i64 t.lag.hi, .int .i64 t.sq.lo, .int .i64 t.sq.hi, .int .i64 t.term], .slice Ai l.length ci, .agg #[.int .i64 r.day, .int .i64 r.shown, .int .i64 r.err, .int .i64 r.bare, .int .i64 r.air.lo, .int .i64 r.air.hi, .int .i64 r.rate.lo, .int .i64 r.rate.hi, .int .i64 r.deep, .bool r.broken]] w fun e w' => e = .returned (.bool (staleB t l r.day)) ∧ Below w.heap.size w w' := by
 go_enter Tryz.func34, Tryz.ntmps34
 go_upto_region 1 with fail
 show Code.wp _ _ _ _ _
 refine box2 (K := fun V => Code.wp _ _ _ _ V) ?_
 intro V hb1 q1 q2
 replace hi := (hi.below hb1).up hb1.size
 obtain ⟨pq1, hpq1⟩ : ∃ p, w.heap.size = p := ⟨_, rfl⟩
 obtain ⟨pq2, hpq2⟩ : ∃ p, w.heap.size + 1 = p := ⟨_, rfl⟩
 rw [hpq2] at q2 ⊢
 rw [hpq1] at q1 ⊢
 have hp1 : w.heap.size ≤ pq1 := by omega
 have hp2 : w.heap.size ≤ pq2 := by omega
 clear hpq1 hpq2
 go_wp2_with fail
 go_loopw [7, 8] (fun last i wr => ∃ k : Nat, k ≤ l.length ∧ i = .int .i64 (k : Int) ∧ last = .int .i64 (lastTo l r.day k) ∧ Below w.heap.size w wr ∧ SlAt wr wr.heap.size 3 Ai l.length (fC l) ∧ Blk wr pq1 29 #[.int .i64 t.g.base, .slice Ab t.g.bands.length cb, .slice Ad t.g.depths.length cd, .int .i64 t.g.blo, .int .i64 t.g.bhi, .int .i64 t.k.lo, .int .i64 t.k.hi, .int .i64 t.lag.lo, .int .i64 t.lag.hi, .int .i64 t.sq.lo, .int .i64 t.sq.hi, .int .i64 t.term] ∧ Blk wr pq2 33 #[.int .i64 r.day, .int .i64 r.shown, .int .i64 r.err, .int .i64 r.bare, .int .i64 r.air.lo, .int .i64 r.air.hi, .int .i64 r.rate.lo, .int .i64 r.rate.hi, .int .i64 r.deep, .bool r.broken])
  (fun _ i _ => l.length - (intOf i).toNat)
 case atStart => exact ⟨0, by omega, rfl, rfl, hb1, hi, q1, q2⟩
 case round =>
  clear hi q1 q2 hb1
  obtain ⟨k, hk, rfl, rfl, hbl, hi, q1, q2⟩ := hrel
  have hlb := lastTo_bd (l := l) hd.1 (k := k)
  by_cases hlt : k < l.length
  ·
   obtain ⟨b, off, rfl, hbB, h0, h1, h2⟩ := IsIcs.at_ hi hlt
   have HL := Lib.hid (show lastTo l r.day (k + 1) = if (gC l k).day ≤ r.day then max (lastTo l r.day k) (gC l k).day else lastTo l r.day k from rfl)
   obtain ⟨⟨x, y, z⟩, hx⟩ : ∃ x, gC l k = x := ⟨_, rfl⟩
   rw [hx] at h0 h1 h2
   have HL2 : Hid (lastTo l r.day (k + 1) = if x ≤ r.day then max (lastTo l r.day k) x else lastTo l r.day k) := Lib.hid (by rw [HL.out, hx])
   clear HL hx
   dsimp only at h0 h1 h2
   generalize hg : lastTo l r.day k = last at *
   clear hg
   have b0 := q2.cell 0
   have lb := q2.lt
   simp at b0
   go_wp2_with fail
   refine wp_region_ext (by kernel_rfl) (by kernel_rfl) ?_
   repeat (go_big_quiet_step (fail))
   refine wpQuiet_nil ?_; intro _ hw'; obtain ⟨X, rfl⟩ := hw'
   by_cases hxd : x ≤ r.day
   ·
    rw [if_pos hxd] at HL2
    have hxd' : decide (x ≤ r.day) = true := decide_eq_true hxd
    go_wp2
    go_roundw
    case rel => exact ⟨k + 1, by omega, by go_num, by rw [HL2.out], ex_trans hbl X.h, hi.go X.h, q1.below X.h q1.lt, q2.below X.h q2.lt⟩
    case measure => simp [intOf]; omega
   ·
    rw [if_neg hxd] at HL2
    have hxd' : decide (x ≤ r.day) = false := decide_eq_false hxd
    go_wp2
    go_roundw
    case rel => exact ⟨k + 1, by omega, by go_num, by rw [HL2.out], ex_trans hbl X.h, hi.go X.h, q1.below X.h q1.lt, q2.below X.h q2.lt⟩
    case measure => simp [intOf]; omega
  ·
   have HK : Hid (k = l.length) := Lib.hid (by omega)
   have HR : Hid (staleB t l r.day = decide (t.term < r.day - lastTo l r.day k)) := Lib.hid (by rw [HK.out]; rfl)
   have a11 := q1.cell 11
   have la := q1.lt
   have b0 := q2.cell 0
   have lb := q2.lt
   simp at a11 b0
   go_wp2
   go_ret
   exact ⟨ret_bool HR.out.symm, hbl⟩

theorem sr_agree (g : Gl) (Ab Ad Ah Ai : Option Addr) (cb cd ch ci : Nat) (h : List Rg) (l : List Ic) (w : World) (hg : GlIn w w.heap.size g Ab Ad) (hh : SlAt w w.heap.size 2 Ah h.length (fR h)) (hi : SlAt w w.heap.size 3 Ai l.length (fC l)) (hok : Ok g h) (hbd : IcesBd l) (hl : l.length ≤ 1000000) :
  Calls Tryz.prog 62 #[.agg #[.int .i64 g.base, .slice Ab g.bands.length cb, .slice Ad g.depths.length cd, .int .i64 g.blo, .int .i64 g.bhi], .slice Ah h.length ch, .slice Ai l.length ci, .slice none 0 0] w fun e w' => e = .returned (.bool (agreeB g h l off0)) ∧ Below w.heap.size w w' :=
 AgreeR_any g Ab Ad Ah Ai none cb cd ch ci 0 h l [] w hg hh hi (fun h => absurd h (by simp)) hok hbd hl (by simp)
theorem sr_zeros (g : Gl) (Ab Ad Ah Ai : Option Addr) (cb cd ch ci : Nat) (h : List Rg) (l : List Ic) (w : World) (hg : GlIn w w.heap.size g Ab Ad) (hh : SlAt w w.heap.size 2 Ah h.length (fR h)) (hi : SlAt w w.heap.size 3 Ai l.length (fC l)) (hok : Ok g h) (hbd : IcesBd l) (hl : l.length ≤ 1000000) (ha : agreeB g h l off0 = true) :
  Calls Tryz.prog 24 #[.agg #[.int .i64 g.base, .slice Ab g.bands.length cb, .slice Ad g.depths.length cd, .int .i64 g.blo, .int .i64 g.bhi], .slice Ah h.length ch, .slice Ai l.length ci, .slice none 0 0] w fun e w' => (∃ A zs, e = .returned (.tuple #[.slice A h.length h.length, .bool true]) ∧ Hid (ZsOf g h l zs) ∧ SlAt w' w'.heap.size 2 A h.length (fR zs)) ∧ Below w.heap.size w w' := by
 refine (ZerosR_any g Ab Ad Ah Ai none cb cd ch ci 0 h l [] w hg hh hi (fun h => absurd h (by simp)) hok hbd hl (by simp)).mono ?_
 rintro e w' ⟨⟨A, zs, is, rfl, hz, hs⟩, hb⟩
 have hz' : ZrV g h l off0 zs is := hz.out
 have e : is = true := by rw [hz'.1, ha]
 subst e
 exact ⟨⟨A, zs, rfl, Lib.hid ⟨hz'.2.1, hz'.2.2 ha⟩, hs⟩, hb⟩
set_option maxRecDepth 100000 in
set_option maxHeartbeats 3200000 in
theorem sr_refused (t : Tb) (Ab Ad : Option Addr) (cb cd : Nat) (Ah Ai : Option Addr) (ch ci : Nat) (h : List Rg) (l : List Ic) (r : Rd) (w : World) (hg : GlIn w w.heap.size t.g Ab Ad) (hh : SlAt w w.heap.size 2 Ah h.length (fR h)) (hi : SlAt w w.heap.size 3 Ai l.length (fC l)) (hok : Ok t.g h) (hbd : IcesBd l) (hl : l.length ≤ 1000000) (hd : 0 ≤ r.day ∧ r.day ≤ 1000000) :
  Calls Tryz.prog 23 #[.agg #[.int .i64 t.g.base, .slice Ab t.g.bands.length cb, .slice Ad t.g.depths.length cd, .int .i64 t.g.blo, .int .i64 t.g.bhi, .int .i64 t.k.lo, .int .i64 t.k.hi, .int .i64 t.lag.lo, .int .i64 t.lag.hi, .int .i64 t.sq.lo, .int .i64 t.sq.hi, .int .i64 t.term], .slice Ah h.length ch, .slice Ai l.length ci, .agg #[.int .i64 r.day, .int .i64 r.shown, .int .i64 r.err, .int .i64 r.bare, .int .i64 r.air.lo, .int .i64 r.air.hi, .int .i64 r.rate.lo, .int .i64 r.rate.hi, .int .i64 r.deep, .bool r.broken]] w fun e w' => e = .returned (.int .i64 (refE t l r (agreeB t.g h l off0))) ∧ Below w.heap.size w w' := by
 rcases Bool.eq_false_or_eq_true r.broken with tb | tb
 rotate_left
 ·
  cases ts : staleB t l r.day
  ·
   have HR := Lib.hid (ref_3 tb ts (agreeB t.g h l off0))
   have TS := Lib.hid ts
   clear ts
   have TB := Lib.hid tb
   clear tb
   go_enter Tryz.func23, Tryz.ntmps23
   go_upto_region 1 with fail
   show Code.wp _ _ _ _ _
   refine box2 (K := fun V => Code.wp _ _ _ _ V) ?_
   intro V hb1 q1 q2
   replace hg := hg.go hb1
   replace hh := (hh.below hb1).up hb1.size
   replace hi := (hi.below hb1).up hb1.size
   obtain ⟨pq1, hpq1⟩ : ∃ p, w.heap.size = p := ⟨_, rfl⟩
   obtain ⟨pq2, hpq2⟩ : ∃ p, w.heap.size + 1 = p := ⟨_, rfl⟩
   rw [hpq2] at q2 ⊢
   rw [hpq1] at q1 ⊢
   have hp1 : w.heap.size ≤ pq1 := by omega
   have hp2 : w.heap.size ≤ pq2 := by omega
   clear hpq1 hpq2
   have b9 := q2.cell 9
   have lb := q2.lt
   simp at b9
   rw [TB.out] at b9
   go_wp2_with (refine pause_at 11 rfl ?_)
   refine Paused.mk ?_
   refine wpList_load_row rfl 29 _ rfl _ rfl 29 _ (0, 0) _ (q1) Tryz.underlying29 rfl (by kernel_rfl) ?_
   go_wp2_with (refine pause_at 13 rfl ?_)
   refine Paused.mk ?_
   refine wpList_load_row rfl 33 _ rfl _ rfl 33 _ (0, 0) _ (q2) Tryz.underlying33 rfl (by kernel_rfl) ?_
   clear b9 lb
   go_wp2_with fail
   refine (sr_stale t Ab Ad cb cd _ _ l r _ hi hl hd).mono ?_
   rintro e V1 ⟨rfl, hV1⟩
   replace q1 := q1.below hV1 q1.lt
   replace q2 := q2.below hV1 q2.lt
   replace hg := hg.go hV1
   replace hh := (hh.below hV1).up hV1.size
   replace hi := (hi.below hV1).up hV1.size
   have B_V1 := ex_trans hb1 hV1
   rw [TS.out]
   have a0 := q1.cell 0
   have a1 := q1.cell 1
   have a2 := q1.cell 2
   have a3 := q1.cell 3
   have a4 := q1.cell 4
   have la := q1.lt
   simp at a0 a1 a2 a3 a4
   go_wp2_with fail
   refine (sr_agree t.g _ _ _ _ _ _ _ _ h l _ hg hh hi hok hbd hl).mono ?_
   rintro e V2 ⟨rfl, hV2⟩
   replace q1 := q1.below hV2 q1.lt
   replace q2 := q2.below hV2 q2.lt
   replace hg := hg.go hV2
   replace hh := (hh.below hV2).up hV2.size
   replace hi := (hi.below hV2).up hV2.size
   have B_V2 := ex_trans B_V1 hV2
   obtain ⟨ag, hag⟩ : ∃ ag, agreeB t.g h l off0 = ag := ⟨_, rfl⟩
   rw [hag]
   have HG := Lib.hid hag
   clear hag
   cases ag
   ·
    go_wp2
    go_ret
    exact ⟨ret_int (by rw [HR.out, HG.out]; rfl), B_V2⟩
   ·
    go_wp2
    go_ret
    exact ⟨ret_int (by rw [HR.out, HG.out]; rfl), B_V2⟩
  ·
   have HR := Lib.hid (ref_2 (ag := agreeB t.g h l off0) tb ts)
   have TS := Lib.hid ts
   clear ts
   have TB := Lib.hid tb
   clear tb
   go_enter Tryz.func23, Tryz.ntmps23
   go_upto_region 1 with fail
   show Code.wp _ _ _ _ _
   refine box2 (K := fun V => Code.wp _ _ _ _ V) ?_
   intro V hb1 q1 q2
   replace hg := hg.go hb1
   replace hh := (hh.below hb1).up hb1.size
   replace hi := (hi.below hb1).up hb1.size
   obtain ⟨pq1, hpq1⟩ : ∃ p, w.heap.size = p := ⟨_, rfl⟩
   obtain ⟨pq2, hpq2⟩ : ∃ p, w.heap.size + 1 = p := ⟨_, rfl⟩
   rw [hpq2] at q2 ⊢
   rw [hpq1] at q1 ⊢
   have hp1 : w.heap.size ≤ pq1 := by omega
   have hp2 : w.heap.size ≤ pq2 := by omega
   clear hpq1 hpq2
   have b9 := q2.cell 9
   have lb := q2.lt
   simp at b9
   rw [TB.out] at b9
   go_wp2_with (refine pause_at 11 rfl ?_)
   refine Paused.mk ?_
   refine wpList_load_row rfl 29 _ rfl _ rfl 29 _ (0, 0) _ (q1) Tryz.underlying29 rfl (by kernel_rfl) ?_
   go_wp2_with (refine pause_at 13 rfl ?_)
   refine Paused.mk ?_
   refine wpList_load_row rfl 33 _ rfl _ rfl 33 _ (0, 0) _ (q2) Tryz.underlying33 rfl (by kernel_rfl) ?_
   clear b9 lb
   go_wp2_with fail
   refine (sr_stale t Ab Ad cb cd _ _ l r _ hi hl hd).mono ?_
   rintro e V3 ⟨rfl, hV3⟩
   replace q1 := q1.below hV3 q1.lt
   replace q2 := q2.below hV3 q2.lt
   replace hg := hg.go hV3
   replace hh := (hh.below hV3).up hV3.size
   replace hi := (hi.below hV3).up hV3.size
   have B_V3 := ex_trans hb1 hV3
   rw [TS.out]
   go_wp2
   go_ret
   exact ⟨ret_int HR.out.symm, B_V3⟩
 ·
  have HR := Lib.hid (ref_1 (t := t) (l := l) (ag := agreeB t.g h l off0) tb)
  have TB := Lib.hid tb
  clear tb
  go_enter Tryz.func23, Tryz.ntmps23
  go_upto_region 1 with fail
  show Code.wp _ _ _ _ _
  refine box2 (K := fun V => Code.wp _ _ _ _ V) ?_
  intro V hb1 q1 q2
  replace hg := hg.go hb1
  replace hh := (hh.below hb1).up hb1.size
  replace hi := (hi.below hb1).up hb1.size
  obtain ⟨pq1, hpq1⟩ : ∃ p, w.heap.size = p := ⟨_, rfl⟩
  obtain ⟨pq2, hpq2⟩ : ∃ p, w.heap.size + 1 = p := ⟨_, rfl⟩
  rw [hpq2] at q2 ⊢
  rw [hpq1] at q1 ⊢
  have hp1 : w.heap.size ≤ pq1 := by omega
  have hp2 : w.heap.size ≤ pq2 := by omega
  clear hpq1 hpq2
  have b9 := q2.cell 9
  have lb := q2.lt
  simp at b9
  rw [TB.out] at b9
  go_wp2
  go_ret
  exact ⟨ret_int HR.out.symm, hb1⟩

end Go.Proofs.YtkaogjhnogkcdaaGreat
end

section
namespace Go.Proofs.YtkaogjhnogkcdaaGreat
open Go.RowKit
attribute [local go_sem] Ex.cell? Ex.frozen?

set_option maxRecDepth 100000 in
set_option maxHeartbeats 3200000 in
theorem sm_says (t : Tb) (Ab Ad : Option Addr) (cb cd : Nat) (r : Rd) (q : Ki) (n : Int) (w : World) (hr : RdBd r) (hq : KiBd q) :
    Calls Tryz.prog 101 #[.agg #[.int .i64 t.g.base, .slice Ab t.g.bands.length cb, .slice Ad t.g.depths.length cd, .int .i64 t.g.blo, .int .i64 t.g.bhi, .int .i64 t.k.lo, .int .i64 t.k.hi, .int .i64 t.lag.lo, .int .i64 t.lag.hi, .int .i64 t.sq.lo, .int .i64 t.sq.hi, .int .i64 t.term, .int .i64 r.day, .int .i64 r.shown, .int .i64 r.err, .int .i64 r.bare, .int .i64 r.air.lo, .int .i64 r.air.hi, .int .i64 r.rate.lo, .int .i64 r.rate.hi, .int .i64 r.deep, .bool r.broken], .agg #[.int .i64 q.k, .int .i64 q.lag, .int .i64 q.sq], .int .i64 n] w fun e w' => e = .returned (.bool (saysB r q n)) ∧ Below w.heap.size w w' := by
  go_enter Tryz.func101, Tryz.ntmps101
  go_upto_region 1 with fail
  show Code.wp _ _ _ _ _
  refine box2 (K := fun V => Code.wp _ _ _ _ V) ?_
  intro V hb1 q1 q2
  obtain ⟨pq1, hpq1⟩ : ∃ p, w.heap.size = p := ⟨_, rfl⟩
  obtain ⟨pq2, hpq2⟩ : ∃ p, w.heap.size + 1 = p := ⟨_, rfl⟩
  rw [hpq2] at q2 ⊢
  rw [hpq1] at q1 ⊢
  have hp1 : w.heap.size ≤ pq1 := by omega
  have hp2 : w.heap.size ≤ pq2 := by omega
  clear hpq1 hpq2
  have hrt := hr.rate
  obtain ⟨N, hN⟩ : ∃ N, (r.rate.hi - r.rate.lo + 1).toNat = N := ⟨_, rfl⟩
  have HN := Lib.hid hN
  have hNN : (r.rate.hi - r.rate.lo + 1) = (N : Int) := by omega
  clear hN
  have a18 : V.cell? ⟨pq1, 18, none⟩ = some (.int .i64 r.rate.lo) := q1.cell 18
  have la := q1.lt
  go_wp2_with fail
  clear a18 la
  go_loopw [7] (fun i wr => ∃ k : Nat, k ≤ N ∧ i = .int .i64 (r.rate.lo + (k : Int)) ∧ Hid (∀ j, j < k → sayAt r q n (r.rate.lo + (j : Int)) = false) ∧ Below w.heap.size w wr ∧ Blk wr pq1 170 #[.int .i64 t.g.base, .slice Ab t.g.bands.length cb, .slice Ad t.g.depths.length cd, .int .i64 t.g.blo, .int .i64 t.g.bhi, .int .i64 t.k.lo, .int .i64 t.k.hi, .int .i64 t.lag.lo, .int .i64 t.lag.hi, .int .i64 t.sq.lo, .int .i64 t.sq.hi, .int .i64 t.term, .int .i64 r.day, .int .i64 r.shown, .int .i64 r.err, .int .i64 r.bare, .int .i64 r.air.lo, .int .i64 r.air.hi, .int .i64 r.rate.lo, .int .i64 r.rate.hi, .int .i64 r.deep, .bool r.broken] ∧ Blk wr pq2 137 #[.int .i64 q.k, .int .i64 q.lag, .int .i64 q.sq])
    (fun i _ => (r.rate.lo + (N : Int) - intOf i).toNat)
  case atStart => exact ⟨0, by omega, by simp, Lib.hid (fun j hj => by omega), hb1, q1, q2⟩
  case round =>
    clear q1 q2 hb1
    obtain ⟨k, hk, rfl, HF, hbl, q1, q2⟩ := hrel
    have a19 : wr.cell? ⟨pq1, 19, none⟩ = some (.int .i64 r.rate.hi) := q1.cell 19
    have la := q1.lt
    by_cases hlt : k < N
    · have b0 : wr.cell? ⟨pq2, 0, none⟩ = some (.int .i64 q.k) := q2.cell 0
      have b1 : wr.cell? ⟨pq2, 1, none⟩ = some (.int .i64 q.lag) := q2.cell 1
      have b2 : wr.cell? ⟨pq2, 2, none⟩ = some (.int .i64 q.sq) := q2.cell 2
      have lb := q2.lt
      have hle : r.rate.lo + (k : Int) ≤ r.rate.hi := by omega
      go_wp2_with (refine pause_at 20 rfl ?_)
      refine Paused.mk ?_
      refine wpList_load_row rfl 170 _ rfl _ rfl 170 _ (0, 0) _ (q1) Tryz.underlying170 rfl (by kernel_rfl) ?_
      go_wp2_with fail
      refine (sm_span t Ab Ad cb cd r q (r.rate.lo + (k : Int)) _ hr hq (by omega)).mono ?_
      rintro e V21 ⟨rfl, hV21⟩
      replace q1 := q1.below hV21 q1.lt
      replace q2 := q2.below hV21 q2.lt
      have B_V21 := ex_trans hbl hV21
      clear a19 la
      clear b0 b1 b2 lb
      go_wp2_with fail
      refine (sm_has _ _ _ _).mono ?_
      rintro e V22 ⟨rfl, hV22⟩
      replace q1 := q1.below hV22 q1.lt
      replace q2 := q2.below hV22 q2.lt
      have B_V22 := ex_trans B_V21 hV22
      have HS := Lib.hid (show sayAt r q n (r.rate.lo + (k : Int)) = inB n (spanP r q (r.rate.lo + (k : Int))).lo (spanP r q (r.rate.lo + (k : Int))).hi from rfl)
      rw [← HS.out]
      cases hs : sayAt r q n (r.rate.lo + (k : Int))
      · have HF2 : Hid (∀ j, j < k + 1 → sayAt r q n (r.rate.lo + (j : Int)) = false) := Lib.hid (fun j hj => by
          rcases Nat.lt_succ_iff_lt_or_eq.1 hj with h1 | h1
          · exact HF.out j h1
          · rw [h1]; exact hs)
        clear hs HS
        go_wp2
        go_roundw
        case rel => exact ⟨k + 1, by omega, by first | go_num | (congr 1; omega), HF2, B_V22, q1, q2⟩
        case measure => simp [intOf]; omega
      · have HR : Hid (saysB r q n = true) := Lib.hid (by unfold saysB; rw [HN.out]; exact someTo_iff.2 ⟨k, hlt, hs⟩)
        clear hs HS
        go_wp2
        go_ret
        exact ⟨ret_bool HR.out.symm, B_V22⟩
    · have HR : Hid (saysB r q n = false) := Lib.hid (by unfold saysB; rw [HN.out]; exact someTo_false.2 (fun j hj => HF.out j (by omega)))
      have hle : ¬ r.rate.lo + (k : Int) ≤ r.rate.hi := by omega
      go_wp2
      go_ret
      exact ⟨ret_bool HR.out.symm, hbl⟩
theorem sm_rd (d : Int) (r : Rd) {b : Bool} (w : World) (hd : -1000000 ≤ d ∧ d ≤ 1000000) (hb : rdOk d r = b) : Calls Tryz.prog 85 #[.int .i64 d, .agg #[.int .i64 r.day, .int .i64 r.shown, .int .i64 r.err, .int .i64 r.bare, .int .i64 r.air.lo, .int .i64 r.air.hi, .int .i64 r.rate.lo, .int .i64 r.rate.hi, .int .i64 r.deep, .bool r.broken]] w fun e w' => e = .returned (.bool b) ∧ Below w.heap.size w w' := hb ▸ reading_any d r w hd
def dayB (nh : Int) (d : Int) (r : Rd) : Bool := rdOk nh r && decide (r.day = d)
set_option maxRecDepth 100000 in
set_option maxHeartbeats 3200000 in
theorem sm_bath1 (t : Tb) (Ab Ad Ah Ai Az : Option Addr) (cb cd ch ci cz nz : Nat) (h : List Rg) (l : List Ic) (rs : List Rd) (r : Rd) (Ar : Option Addr) (cr pu pl : Nat) (w : World) (qu : Blk w pu 116 #[.int .i64 t.g.base, .slice Ab t.g.bands.length cb, .slice Ad t.g.depths.length cd, .int .i64 t.g.blo, .int .i64 t.g.bhi, .int .i64 t.k.lo, .int .i64 t.k.hi, .int .i64 t.lag.lo, .int .i64 t.lag.hi, .int .i64 t.sq.lo, .int .i64 t.sq.hi, .int .i64 t.term, .slice Ah h.length ch, .slice Ai l.length ci, .slice Az nz cz]) (ql : Blk w pl 63 #[.slice Ar rs.length cr]) (hs : SlAt w w.heap.size 10 Ar rs.length (fE rs)) (hrl : 0 < rs.length) (hhl : h.length ≤ 1000000) :
    Calls Tryz.prog 96 #[.agg #[.int .i64 r.day, .int .i64 r.shown, .int .i64 r.err, .int .i64 r.bare, .int .i64 r.air.lo, .int .i64 r.air.hi, .int .i64 r.rate.lo, .int .i64 r.rate.hi, .int .i64 r.deep, .bool r.broken], .pointer (some ⟨pu, 0, none⟩), .pointer (some ⟨pl, 0, none⟩)] w fun e w' => e = .returned (.bool (dayB h.length (gE rs 0).day r)) ∧ Below w.heap.size w w' := by
  have hb1 := ex_alloc (Below.refl w.heap.size w) (.cells #[.int .i64 r.day, .int .i64 r.shown, .int .i64 r.err, .int .i64 r.bare, .int .i64 r.air.lo, .int .i64 r.air.hi, .int .i64 r.rate.lo, .int .i64 r.rate.hi, .int .i64 r.deep, .bool r.broken] 52)
  have q1 : Blk (w.alloc (.cells #[.int .i64 r.day, .int .i64 r.shown, .int .i64 r.err, .int .i64 r.bare, .int .i64 r.air.lo, .int .i64 r.air.hi, .int .i64 r.rate.lo, .int .i64 r.rate.hi, .int .i64 r.deep, .bool r.broken] 52)) w.heap.size 52 #[.int .i64 r.day, .int .i64 r.shown, .int .i64 r.err, .int .i64 r.bare, .int .i64 r.air.lo, .int .i64 r.air.hi, .int .i64 r.rate.lo, .int .i64 r.rate.hi, .int .i64 r.deep, .bool r.broken] := Blk.new _ _ _
  replace qu := qu.below hb1 qu.lt
  replace ql := ql.below hb1 ql.lt
  replace hs := hs.go hb1
  obtain ⟨bi, oi, rfl, hbi, g0, g1, g2, g3, g4, g5, g6, g7, g8, g9⟩ := IsRds.at10 hs hrl
  clear g1 g2 g3 g4 g5 g6 g7 g8 g9
  rw [Nat.zero_mul, Nat.add_zero] at g0
  obtain ⟨d0, hd0⟩ : ∃ d, (gE rs 0).day = d := ⟨_, rfl⟩
  rw [hd0] at g0 ⊢
  clear hd0
  cases hrd : rdOk h.length r
  · have HR : Hid (dayB h.length d0 r = false) := Lib.hid (by unfold dayB; rw [hrd]; rfl)
    have HRD := Lib.hid hrd
    clear hrd
    go_enter Tryz.func96, Tryz.ntmps96
    go_upto_region 1 with fail
    obtain ⟨p1, hp1⟩ : ∃ p, w.heap.size = p := ⟨_, rfl⟩
    rw [hp1] at q1 ⊢
    clear hp1
    generalize w.alloc (.cells #[.int .i64 r.day, .int .i64 r.shown, .int .i64 r.err, .int .i64 r.bare, .int .i64 r.air.lo, .int .i64 r.air.hi, .int .i64 r.rate.lo, .int .i64 r.rate.hi, .int .i64 r.deep, .bool r.broken] 52) = V at *
    have a12 : V.cell? ⟨pu, 12, none⟩ = some (.slice Ah h.length ch) := qu.cell 12
    have la := qu.lt
    have b0 : V.cell? ⟨pl, 0, none⟩ = some (.slice (some ⟨bi, oi, none⟩) rs.length cr) := ql.cell 0
    have lb := ql.lt
    have c0 : V.cell? ⟨p1, 0, none⟩ = some (.int .i64 r.day) := q1.cell 0
    have lc := q1.lt
    have hrl' : (0 : Int) < (rs.length : Int) := by omega
    go_wp2_with fail
    refine wp_region_ext (by kernel_rfl) (by kernel_rfl) ?_
    repeat (go_big_quiet_step ((go_at_call 85; exact Calls.ext_of (sm_rd h.length r _ (by omega) HRD.out))))
    refine wpQuiet_load_row rfl 52 _ rfl _ rfl 52 _ (0, 0) _ q1.ex Tryz.underlying52 rfl (by kernel_rfl) ?_
    simp only [Act.put, List.setIfInBounds_toArray, List.set_cons_zero, List.set_cons_succ]
    repeat (go_big_quiet_step ((go_at_call 85; exact Calls.ext_of (sm_rd h.length r _ (by omega) HRD.out))))
    refine wpQuiet_nil ?_; intro _ hw'; obtain ⟨X, rfl⟩ := hw'
    go_wp2
    go_ret
    exact ⟨ret_bool HR.out.symm, ex_trans hb1 X.h⟩
  · have HR : Hid (dayB h.length d0 r = decide (r.day = d0)) := Lib.hid (by unfold dayB; rw [hrd]; rfl)
    have hdd : decide (r.day = d0) = (r.day == d0) := by rw [Bool.eq_iff_iff]; simp
    rw [hdd] at HR
    have HRD := Lib.hid hrd
    clear hrd
    go_enter Tryz.func96, Tryz.ntmps96
    go_upto_region 1 with fail
    obtain ⟨p1, hp1⟩ : ∃ p, w.heap.size = p := ⟨_, rfl⟩
    rw [hp1] at q1 ⊢
    clear hp1
    generalize w.alloc (.cells #[.int .i64 r.day, .int .i64 r.shown, .int .i64 r.err, .int .i64 r.bare, .int .i64 r.air.lo, .int .i64 r.air.hi, .int .i64 r.rate.lo, .int .i64 r.rate.hi, .int .i64 r.deep, .bool r.broken] 52) = V at *
    have a12 : V.cell? ⟨pu, 12, none⟩ = some (.slice Ah h.length ch) := qu.cell 12
    have la := qu.lt
    have b0 : V.cell? ⟨pl, 0, none⟩ = some (.slice (some ⟨bi, oi, none⟩) rs.length cr) := ql.cell 0
    have lb := ql.lt
    have c0 : V.cell? ⟨p1, 0, none⟩ = some (.int .i64 r.day) := q1.cell 0
    have lc := q1.lt
    have hrl' : (0 : Int) < (rs.length : Int) := by omega
    go_wp2_with fail
    refine wp_region_ext (by kernel_rfl) (by kernel_rfl) ?_
    repeat (go_big_quiet_step ((go_at_call 85; exact Calls.ext_of (sm_rd h.length r _ (by omega) HRD.out))))
    refine wpQuiet_load_row rfl 52 _ rfl _ rfl 52 _ (0, 0) _ q1.ex Tryz.underlying52 rfl (by kernel_rfl) ?_
    simp only [Act.put, List.setIfInBounds_toArray, List.set_cons_zero, List.set_cons_succ]
    repeat (go_big_quiet_step ((go_at_call 85; exact Calls.ext_of (sm_rd h.length r _ (by omega) HRD.out))))
    refine wpQuiet_nil ?_; intro _ hw'; obtain ⟨X, rfl⟩ := hw'
    go_wp2
    go_ret
    exact ⟨ret_bool HR.out.symm, ex_trans hb1 X.h⟩
set_option maxRecDepth 100000 in
set_option maxHeartbeats 800000 in
theorem sm_bath2 (r : Rd) (w : World) : Calls Tryz.prog 98 #[.agg #[.int .i64 r.day, .int .i64 r.shown, .int .i64 r.err, .int .i64 r.bare, .int .i64 r.air.lo, .int .i64 r.air.hi, .int .i64 r.rate.lo, .int .i64 r.rate.hi, .int .i64 r.deep, .bool r.broken]] w fun e w' => e = .returned (.bool (!r.broken)) ∧ Below w.heap.size w w' := by
  have hb1 := ex_alloc (Below.refl w.heap.size w) (.cells #[.int .i64 r.day, .int .i64 r.shown, .int .i64 r.err, .int .i64 r.bare, .int .i64 r.air.lo, .int .i64 r.air.hi, .int .i64 r.rate.lo, .int .i64 r.rate.hi, .int .i64 r.deep, .bool r.broken] 52)
  go_enter Tryz.func98, Tryz.ntmps98
  go_wp2
  go_ret
  exact ⟨rfl, hb1⟩

end Go.Proofs.YtkaogjhnogkcdaaGreat
end

section
namespace Go.Proofs.YtkaogjhnogkcdaaGreat
open Go.RowKit
attribute [local go_sem] Ex.cell? Ex.frozen?

def bathE (t : Tb) (l : List Ic) (nh : Int) (rs : List Rd) (ag : Bool) : Int := if 5 < rs.length then 3 else if rs.length = 0 ∨ allTo (fun k => dayB nh (gE rs 0).day (gE rs k)) rs.length = false then 2 else if allTo (fun k => !(gE rs k).broken) rs.length = false then 8 else refE t l (gE rs 0) ag
section
variable {t : Tb} {l : List Ic} {nh : Int} {rs : List Rd} {ag : Bool}
theorem bath_1 (h : 5 < rs.length) : bathE t l nh rs ag = 3 := if_pos h
theorem bath_2 (h : ¬ 5 < rs.length) (h2 : rs.length = 0 ∨ allTo (fun k => dayB nh (gE rs 0).day (gE rs k)) rs.length = false) : bathE t l nh rs ag = 2 := by unfold bathE; rw [if_neg h, if_pos h2]
theorem bath_3 (h : ¬ 5 < rs.length) (h0 : rs.length ≠ 0) (h2 : allTo (fun k => dayB nh (gE rs 0).day (gE rs k)) rs.length = true) (h3 : allTo (fun k => !(gE rs k).broken) rs.length = false) : bathE t l nh rs ag = 8 := by
 unfold bathE; rw [if_neg h, if_neg (by rintro (e | e); exact h0 e; rw [h2] at e; cases e), if_pos h3]
theorem bath_4 (h : ¬ 5 < rs.length) (h0 : rs.length ≠ 0) (h2 : allTo (fun k => dayB nh (gE rs 0).day (gE rs k)) rs.length = true) (h3 : allTo (fun k => !(gE rs k).broken) rs.length = true) : bathE t l nh rs ag = refE t l (gE rs 0) ag := by
 unfold bathE; rw [if_neg h, if_neg (by rintro (e | e); exact h0 e; rw [h2] at e; cases e), if_neg (by simp [h3])]
theorem dayB_iff {d : Int} {r : Rd} : dayB nh d r = true ↔ rdOk nh r = true ∧ r.day = d := by simp [dayB]
end
set_option maxRecDepth 100000 in
set_option maxHeartbeats 6400000 in
theorem sm_bath (t : Tb) (Ab Ad Ah Ai Az : Option Addr) (cb cd ch ci cz nz : Nat) (h : List Rg) (l : List Ic) (rs : List Rd) (Ar : Option Addr) (cr : Nat) (w : World) (hi : SlAt w w.heap.size 3 Ai l.length (fC l)) (hs : SlAt w w.heap.size 10 Ar rs.length (fE rs)) (hl : l.length ≤ 1000000) (hhl : h.length ≤ 1000000) (hz : nz ≤ 1000000) (hrl : rs.length ≤ 1000000) :
  Calls Tryz.prog 68 #[.agg #[.int .i64 t.g.base, .slice Ab t.g.bands.length cb, .slice Ad t.g.depths.length cd, .int .i64 t.g.blo, .int .i64 t.g.bhi, .int .i64 t.k.lo, .int .i64 t.k.hi, .int .i64 t.lag.lo, .int .i64 t.lag.hi, .int .i64 t.sq.lo, .int .i64 t.sq.hi, .int .i64 t.term, .slice Ah h.length ch, .slice Ai l.length ci, .slice Az nz cz], .slice Ar rs.length cr] w fun e w' => e = .returned (.int .i64 (bathE t l h.length rs (decide (0 < nz)))) ∧ Below w.heap.size w w' := by
 by_cases h5 : 5 < rs.length
 ·
  have HR := Lib.hid (bath_1 (t := t) (l := l) (nh := h.length) (ag := decide (0 < nz)) h5)
  have e1 : decide ((5 : Int) < (rs.length : Int)) = true := decide_eq_true (by omega)
  have e1' : decide (5 < rs.length) = true := decide_eq_true h5
  go_enter Tryz.func68, Tryz.ntmps68
  go_upto_region 1 with fail
  show Code.wp _ _ _ _ _
  refine box2 (K := fun V => Code.wp _ _ _ _ V) ?_
  intro V hb1 q1 q2
  replace hi := (hi.below hb1).up hb1.size
  replace hs := (hs.below hb1).up hb1.size
  obtain ⟨pq1, hpq1⟩ : ∃ p, w.heap.size = p := ⟨_, rfl⟩
  obtain ⟨pq2, hpq2⟩ : ∃ p, w.heap.size + 1 = p := ⟨_, rfl⟩
  rw [hpq2] at q2 ⊢
  rw [hpq1] at q1 ⊢
  have hp1 : w.heap.size ≤ pq1 := by omega
  have hp2 : w.heap.size ≤ pq2 := by omega
  clear hpq1 hpq2
  have b0 : V.cell? ⟨pq2, 0, none⟩ = some (.slice Ar rs.length cr) := q2.cell 0
  have lb := q2.lt
  go_wp2
  go_ret
  exact ⟨ret_int HR.out.symm, hb1⟩
 ·
  have e1 : decide ((5 : Int) < (rs.length : Int)) = false := decide_eq_false (by omega)
  have e1' : decide (5 < rs.length) = false := decide_eq_false h5
  by_cases h0 : rs.length = 0
  ·
   have HR := Lib.hid (bath_2 (t := t) (l := l) (nh := h.length) (ag := decide (0 < nz)) h5 (.inl h0))
   have e2 : ((rs.length : Int) == 0) = true := by simp [h0]
   have e2' : (rs.length == 0) = true := by simp [h0]
   have H0 := Lib.hid h0
   clear h0
   go_enter Tryz.func68, Tryz.ntmps68
   go_upto_region 1 with fail
   show Code.wp _ _ _ _ _
   refine box2 (K := fun V => Code.wp _ _ _ _ V) ?_
   intro V hb1 q1 q2
   replace hi := (hi.below hb1).up hb1.size
   replace hs := (hs.below hb1).up hb1.size
   obtain ⟨pq1, hpq1⟩ : ∃ p, w.heap.size = p := ⟨_, rfl⟩
   obtain ⟨pq2, hpq2⟩ : ∃ p, w.heap.size + 1 = p := ⟨_, rfl⟩
   rw [hpq2] at q2 ⊢
   rw [hpq1] at q1 ⊢
   have hp1 : w.heap.size ≤ pq1 := by omega
   have hp2 : w.heap.size ≤ pq2 := by omega
   clear hpq1 hpq2
   have b0 : V.cell? ⟨pq2, 0, none⟩ = some (.slice Ar rs.length cr) := q2.cell 0
   have lb := q2.lt
   go_wp2
   go_ret
   exact ⟨ret_int HR.out.symm, hb1⟩
  ·
   have e2 : ((rs.length : Int) == 0) = false := by rw [beq_eq_false_iff_ne]; omega
   have e2' : (rs.length == 0) = false := by rw [beq_eq_false_iff_ne]; exact h0
   cases t1 : allTo (fun k => dayB h.length (gE rs 0).day (gE rs k)) rs.length
   ·
    have HR := Lib.hid (bath_2 (t := t) (l := l) (nh := h.length) (ag := decide (0 < nz)) h5 (.inr t1))
    have HT1 := Lib.hid t1
    clear t1
    go_enter Tryz.func68, Tryz.ntmps68
    go_upto_region 1 with fail
    show Code.wp _ _ _ _ _
    refine box2 (K := fun V => Code.wp _ _ _ _ V) ?_
    intro V hb1 q1 q2
    replace hi := (hi.below hb1).up hb1.size
    replace hs := (hs.below hb1).up hb1.size
    obtain ⟨pq1, hpq1⟩ : ∃ p, w.heap.size = p := ⟨_, rfl⟩
    obtain ⟨pq2, hpq2⟩ : ∃ p, w.heap.size + 1 = p := ⟨_, rfl⟩
    rw [hpq2] at q2 ⊢
    rw [hpq1] at q1 ⊢
    have hp1 : w.heap.size ≤ pq1 := by omega
    have hp2 : w.heap.size ≤ pq2 := by omega
    clear hpq1 hpq2
    have b0 : V.cell? ⟨pq2, 0, none⟩ = some (.slice Ar rs.length cr) := q2.cell 0
    have lb := q2.lt
    go_wp2_with fail
    refine (all_day pq1 pq2 (fun k => dayB h.length (gE rs 0).day (gE rs k)) rs rs.length _ _ _ hs hrl (fun k W hk hW => sm_bath1 t Ab Ad Ah Ai Az cb cd ch ci cz nz h l rs (gE rs k) Ar cr pq1 pq2 W (q1.below hW q1.lt) (q2.below hW q2.lt) (hs.go hW) (by omega) hhl)).mono ?_
    rintro e V1 ⟨rfl, hV1⟩
    clear b0 lb
    replace q1 := q1.below hV1 q1.lt
    replace q2 := q2.below hV1 q2.lt
    replace hi := (hi.below hV1).up hV1.size
    replace hs := (hs.below hV1).up hV1.size
    have B_V1 := ex_trans hb1 hV1
    rw [HT1.out]
    have b0 : V1.cell? ⟨pq2, 0, none⟩ = some (.slice Ar rs.length cr) := q2.cell 0
    have lb := q2.lt
    go_wp2
    go_ret
    exact ⟨ret_int HR.out.symm, B_V1⟩
   ·
    cases t2 : allTo (fun k => !(gE rs k).broken) rs.length
    ·
     have HR := Lib.hid (bath_3 (t := t) (l := l) (ag := decide (0 < nz)) h5 h0 t1 t2)
     have HT1 := Lib.hid t1
     have HT2 := Lib.hid t2
     clear t1 t2
     go_enter Tryz.func68, Tryz.ntmps68
     go_upto_region 1 with fail
     show Code.wp _ _ _ _ _
     refine box2 (K := fun V => Code.wp _ _ _ _ V) ?_
     intro V hb1 q1 q2
     replace hi := (hi.below hb1).up hb1.size
     replace hs := (hs.below hb1).up hb1.size
     obtain ⟨pq1, hpq1⟩ : ∃ p, w.heap.size = p := ⟨_, rfl⟩
     obtain ⟨pq2, hpq2⟩ : ∃ p, w.heap.size + 1 = p := ⟨_, rfl⟩
     rw [hpq2] at q2 ⊢
     rw [hpq1] at q1 ⊢
     have hp1 : w.heap.size ≤ pq1 := by omega
     have hp2 : w.heap.size ≤ pq2 := by omega
     clear hpq1 hpq2
     have b0 : V.cell? ⟨pq2, 0, none⟩ = some (.slice Ar rs.length cr) := q2.cell 0
     have lb := q2.lt
     go_wp2_with fail
     refine (all_day pq1 pq2 (fun k => dayB h.length (gE rs 0).day (gE rs k)) rs rs.length _ _ _ hs hrl (fun k W hk hW => sm_bath1 t Ab Ad Ah Ai Az cb cd ch ci cz nz h l rs (gE rs k) Ar cr pq1 pq2 W (q1.below hW q1.lt) (q2.below hW q2.lt) (hs.go hW) (by omega) hhl)).mono ?_
     rintro e V2 ⟨rfl, hV2⟩
     clear b0 lb
     replace q1 := q1.below hV2 q1.lt
     replace q2 := q2.below hV2 q2.lt
     replace hi := (hi.below hV2).up hV2.size
     replace hs := (hs.below hV2).up hV2.size
     have B_V2 := ex_trans hb1 hV2
     rw [HT1.out]
     have b0 : V2.cell? ⟨pq2, 0, none⟩ = some (.slice Ar rs.length cr) := q2.cell 0
     have lb := q2.lt
     go_wp2_with fail
     refine (all_whole (fun k => !(gE rs k).broken) rs rs.length _ _ _ hs hrl (fun k W hk hW => sm_bath2 (gE rs k) W)).mono ?_
     rintro e V3 ⟨rfl, hV3⟩
     clear b0 lb
     replace q1 := q1.below hV3 q1.lt
     replace q2 := q2.below hV3 q2.lt
     replace hi := (hi.below hV3).up hV3.size
     replace hs := (hs.below hV3).up hV3.size
     have B_V3 := ex_trans B_V2 hV3
     rw [HT2.out]
     have b0 : V3.cell? ⟨pq2, 0, none⟩ = some (.slice Ar rs.length cr) := q2.cell 0
     have lb := q2.lt
     go_wp2
     go_ret
     exact ⟨ret_int HR.out.symm, B_V3⟩
    ·
     have HR := Lib.hid (bath_4 (t := t) (l := l) (ag := decide (0 < nz)) h5 h0 t1 t2)
     have HD := Lib.hid (rdOk_iff.1 (dayB_iff.1 (allTo_iff.1 t1 0 (by omega))).1).1
     have HT1 := Lib.hid t1
     have HT2 := Lib.hid t2
     clear t1 t2
     go_enter Tryz.func68, Tryz.ntmps68
     go_upto_region 1 with fail
     show Code.wp _ _ _ _ _
     refine box2 (K := fun V => Code.wp _ _ _ _ V) ?_
     intro V hb1 q1 q2
     replace hi := (hi.below hb1).up hb1.size
     replace hs := (hs.below hb1).up hb1.size
     obtain ⟨pq1, hpq1⟩ : ∃ p, w.heap.size = p := ⟨_, rfl⟩
     obtain ⟨pq2, hpq2⟩ : ∃ p, w.heap.size + 1 = p := ⟨_, rfl⟩
     rw [hpq2] at q2 ⊢
     rw [hpq1] at q1 ⊢
     have hp1 : w.heap.size ≤ pq1 := by omega
     have hp2 : w.heap.size ≤ pq2 := by omega
     clear hpq1 hpq2
     have b0 : V.cell? ⟨pq2, 0, none⟩ = some (.slice Ar rs.length cr) := q2.cell 0
     have lb := q2.lt
     go_wp2_with fail
     refine (all_day pq1 pq2 (fun k => dayB h.length (gE rs 0).day (gE rs k)) rs rs.length _ _ _ hs hrl (fun k W hk hW => sm_bath1 t Ab Ad Ah Ai Az cb cd ch ci cz nz h l rs (gE rs k) Ar cr pq1 pq2 W (q1.below hW q1.lt) (q2.below hW q2.lt) (hs.go hW) (by omega) hhl)).mono ?_
     rintro e V4 ⟨rfl, hV4⟩
     clear b0 lb
     replace q1 := q1.below hV4 q1.lt
     replace q2 := q2.below hV4 q2.lt
     replace hi := (hi.below hV4).up hV4.size
     replace hs := (hs.below hV4).up hV4.size
     have B_V4 := ex_trans hb1 hV4
     rw [HT1.out]
     have b0 : V4.cell? ⟨pq2, 0, none⟩ = some (.slice Ar rs.length cr) := q2.cell 0
     have lb := q2.lt
     go_wp2_with fail
     refine (all_whole (fun k => !(gE rs k).broken) rs rs.length _ _ _ hs hrl (fun k W hk hW => sm_bath2 (gE rs k) W)).mono ?_
     rintro e V5 ⟨rfl, hV5⟩
     clear b0 lb
     replace q1 := q1.below hV5 q1.lt
     replace q2 := q2.below hV5 q2.lt
     replace hi := (hi.below hV5).up hV5.size
     replace hs := (hs.below hV5).up hV5.size
     have B_V5 := ex_trans B_V4 hV5
     rw [HT2.out]
     have b0 : V5.cell? ⟨pq2, 0, none⟩ = some (.slice Ar rs.length cr) := q2.cell 0
     have lb := q2.lt
     have hd : 0 ≤ (gE rs 0).day ∧ (gE rs 0).day ≤ 1000000 := by have := HD.out; omega
     have hr0 : (0 : Int) < (rs.length : Int) := by omega
     go_wp2_with fail
     have hs2 := hs
     obtain ⟨bi, oi, rfl, hbi, g0, g1, g2, g3, g4, g5, g6, g7, g8, g9⟩ := IsRds.at10 hs2 (show 0 < rs.length by omega)
     rw [Nat.zero_mul, Nat.add_zero] at g0 g1 g2 g3 g4 g5 g6 g7 g8 g9
     refine wp_region_ext (by kernel_rfl) (by kernel_rfl) ?_
     refine wpQuiet_load_row rfl 116 _ rfl _ rfl 116 _ (0, 0) _ q1.ex Tryz.underlying116 rfl (by kernel_rfl) ?_
     simp only [Act.put, List.setIfInBounds_toArray, List.set_cons_zero, List.set_cons_succ]
     repeat (go_big_quiet_step ((go_at_call 81; exact Calls.ext_of (sm_refused t Ab Ad Ah Ai Az cb cd ch ci cz nz h l (gE rs 0) _ (hi.go (Ex.h _)) hl hd hz))))
     refine wpQuiet_nil ?_; intro _ hw'; obtain ⟨X, rfl⟩ := hw'
     go_wp2
     go_ret
     exact ⟨ret_int HR.out.symm, ex_trans B_V5 X.h⟩

end Go.Proofs.YtkaogjhnogkcdaaGreat
end

section
namespace Go.Proofs.YtkaogjhnogkcdaaGreat
open Go.RowKit
attribute [local go_sem] Ex.cell? Ex.frozen?

def sayTo (l : List Rd) (q : Ki) (n : Int) (k : Nat) : Bool := allTo (fun j => saysB (gE l j) q n) k
structure SmRes (t : Tb) (l : List Rd) (z : Rg) (e : Ending) : Prop where
 out : ∃ o b, e = .returned (.tuple #[.agg #[.int .i64 (o : Rg).lo, .int .i64 o.hi], .bool b]) ∧ SmEnd t l z o b
theorem zs_le {t : Tb} {h : List Rg} {l : List Ic} {zs : List Rg} {k : Nat} (hok : Ok t.g h) (hz : ZsOf t.g h l zs) (hk : k < h.length) : (gR zs k).lo ≤ (gR zs k).hi :=
 ((((zs_iff hok).1 hz).2 k hk).2.2 _ (((zs_iff hok).1 hz).2 k hk).1).2
set_option maxRecDepth 100000 in
set_option maxHeartbeats 12800000 in
theorem sr_same (t : Tb) (Ab Ad : Option Addr) (cb cd : Nat) (Ah Ai Ar : Option Addr) (ch ci cr : Nat) (h : List Rg) (l : List Ic) (rs : List Rd) (zs : List Rg) (d : Nat) (w : World) (hg : GlIn w w.heap.size t.g Ab Ad) (hh : SlAt w w.heap.size 2 Ah h.length (fR h)) (hi : SlAt w w.heap.size 3 Ai l.length (fC l)) (hs : SlAt w w.heap.size 10 Ar rs.length (fE rs)) (ht : TbBd t) (hr : RdsBd rs) (h0 : 0 < rs.length) (h5 : rs.length ≤ 1000) (hok : Ok t.g h) (hbd : IcesBd l) (hl : l.length ≤ 1000000) (hz : ZsOf t.g h l zs) (hag : agreeB t.g h l off0 = true) (hd : (gE rs 0).day = (d : Int)) (hdl : d < h.length) :
  Calls Tryz.prog 30 #[.agg #[.int .i64 t.g.base, .slice Ab t.g.bands.length cb, .slice Ad t.g.depths.length cd, .int .i64 t.g.blo, .int .i64 t.g.bhi, .int .i64 t.k.lo, .int .i64 t.k.hi, .int .i64 t.lag.lo, .int .i64 t.lag.hi, .int .i64 t.sq.lo, .int .i64 t.sq.hi, .int .i64 t.term], .slice Ah h.length ch, .slice Ai l.length ci, .slice Ar rs.length cr] w fun e w' => Hid (SmRes t rs (gR zs d) e) ∧ Below w.heap.size w w' := by
 have hs_w := hs
 have HZ := Lib.hid hz
 have hzb := zs_bd hok hz d hdl
 have hzz := zs_le hok hz hdl
 have HD := Lib.hid hd
 clear hd
 have h1 := ht.k
 have h2 := ht.lag
 have h3 := ht.sq
 go_enter Tryz.func30, Tryz.ntmps30
 go_upto_region 1 with fail
 show Code.wp _ _ _ _ _
 refine box2 (K := fun V => Code.wp _ _ _ _ V) ?_
 intro V hb1 q1 q3
 replace hg := hg.go hb1
 replace hh := (hh.below hb1).up hb1.size
 replace hi := (hi.below hb1).up hb1.size
 replace hs := (hs.below hb1).up hb1.size
 obtain ⟨pq1, hpq1⟩ : ∃ p, w.heap.size = p := ⟨_, rfl⟩
 obtain ⟨pq3, hpq3⟩ : ∃ p, w.heap.size + 1 = p := ⟨_, rfl⟩
 rw [hpq3] at q3 ⊢
 rw [hpq1] at q1 ⊢
 have hp1 : w.heap.size ≤ pq1 := by omega
 have hp3 : w.heap.size ≤ pq3 := by omega
 clear hpq1 hpq3
 have a0 : V.cell? ⟨pq1, 0, none⟩ = some (.int .i64 t.g.base) := q1.cell 0
 have a1 : V.cell? ⟨pq1, 1, none⟩ = some (.slice Ab t.g.bands.length cb) := q1.cell 1
 have a2 : V.cell? ⟨pq1, 2, none⟩ = some (.slice Ad t.g.depths.length cd) := q1.cell 2
 have a3 : V.cell? ⟨pq1, 3, none⟩ = some (.int .i64 t.g.blo) := q1.cell 3
 have a4 : V.cell? ⟨pq1, 4, none⟩ = some (.int .i64 t.g.bhi) := q1.cell 4
 have la := q1.lt
 go_wp2_with fail
 refine (sr_zeros t.g _ _ _ _ _ _ _ _ h l _ hg hh hi hok hbd hl hag).mono ?_
 rintro e V1 ⟨⟨Az, zs', rfl, hz', hsz⟩, hV1⟩
 replace q1 := q1.below hV1 q1.lt
 replace q3 := q3.below hV1 q3.lt
 replace hg := hg.go hV1
 replace hh := (hh.below hV1).up hV1.size
 replace hi := (hi.below hV1).up hV1.size
 replace hs := (hs.below hV1).up hV1.size
 have B_V1 := ex_trans hb1 hV1
 clear a0 a1 a2 a3 a4 la
 obtain rfl := ZsOf.uniq HZ.out hz'.out
 clear hz'
 clear hg
 clear hh
 clear hi
 obtain ⟨bi, oi, hAr, hbi, g0, _, _, _, _, _, _, _, _, _⟩ := IsRds.at10 hs h0
 rw [Nat.zero_mul, Nat.add_zero, HD.out] at g0
 have HAR := Lib.hid hAr
 rw [hAr]
 clear hAr
 obtain ⟨bz, oz, hAz, hbz, z0, z1⟩ := IsRgs.at_ hsz hdl
 subst hAz
 generalize hzk : gR zs d = z at *
 have HZK := Lib.hid hzk
 clear hzk hz
 have NG := ex_alloc (Below.refl V1.heap.size V1) (.cells #[.int .i64 z.lo, .int .i64 z.hi] 25)
 have q2 : Blk (V1.alloc (.cells #[.int .i64 z.lo, .int .i64 z.hi] 25)) V1.heap.size 25 #[.int .i64 z.lo, .int .i64 z.hi] := Blk.new _ _ _
 have lt_q1 := q1.lt
 have lt_q3 := q3.lt
 go_upto_region 3 with fail
 clear g0 z0 z1 hsz
 obtain ⟨p2, hp2'⟩ : ∃ p, V1.heap.size = p := ⟨_, rfl⟩
 rw [hp2'] at q2 lt_q1 lt_q3 ⊢
 have zp2 : w.heap.size ≤ p2 := by have := B_V1.size; omega
 clear hp2'
 have nq1_p2 : pq1 ≠ p2 := by omega
 clear lt_q1
 have nq3_p2 : pq3 ≠ p2 := by omega
 clear lt_q3
 replace q1 := q1.below NG q1.lt
 replace q3 := q3.below NG q3.lt
 replace hs := hs.go NG
 have B_V2 := ex_trans B_V1 NG
 clear NG
 generalize V1.alloc (.cells #[.int .i64 z.lo, .int .i64 z.hi] 25) = V2 at *
 have a5 := (q1.alloc (.cells #[.int .i64 1073741824, .int .i64 (-1073741824)] 25)).cell 5
 have la := (q1.alloc (.cells #[.int .i64 1073741824, .int .i64 (-1073741824)] 25)).lt
 simp at a5
 have NG := ex_alloc (Below.refl V2.heap.size V2) (.cells #[.int .i64 1073741824, .int .i64 (-1073741824)] 25)
 have q4 : Blk (V2.alloc (.cells #[.int .i64 1073741824, .int .i64 (-1073741824)] 25)) V2.heap.size 25 #[.int .i64 1073741824, .int .i64 (-1073741824)] := Blk.new _ _ _
 have lt_q1 := q1.lt
 have lt_q3 := q3.lt
 have lt_q2 := q2.lt
 go_wp2_with fail
 clear a5 la
 obtain ⟨p4, hp4'⟩ : ∃ p, V2.heap.size = p := ⟨_, rfl⟩
 rw [hp4'] at q4 lt_q1 lt_q3 lt_q2 ⊢
 have zp4 : w.heap.size ≤ p4 := by have := B_V2.size; omega
 clear hp4'
 have nq1_p4 : pq1 ≠ p4 := by omega
 clear lt_q1
 have nq3_p4 : pq3 ≠ p4 := by omega
 clear lt_q3
 have nq2_p4 : p2 ≠ p4 := by omega
 clear lt_q2
 replace q1 := q1.below NG q1.lt
 replace q3 := q3.below NG q3.lt
 replace hs := hs.go NG
 replace q2 := q2.below NG q2.lt
 have B_V3 := ex_trans B_V2 NG
 clear NG
 generalize V2.alloc (.cells #[.int .i64 1073741824, .int .i64 (-1073741824)] 25) = V3 at *
 skip
 have n14 := nq1_p4
 have n24 := nq2_p4
 have n34 := nq3_p4
 refine wp_loop (fun a wr => Rel (fun a wr => ∃ K : Int, (t.k.lo ≤ K ∧ K ≤ t.k.hi + 1) ∧ ∃ (o : Rg) (b : Nat), Hid (SmP (SameQ t rs z K t.lag.lo t.sq.lo) o (bN b)) ∧ Below w.heap.size w wr ∧ Blk wr pq1 29 #[.int .i64 t.g.base, .slice Ab t.g.bands.length cb, .slice Ad t.g.depths.length cd, .int .i64 t.g.blo, .int .i64 t.g.bhi, .int .i64 t.k.lo, .int .i64 t.k.hi, .int .i64 t.lag.lo, .int .i64 t.lag.hi, .int .i64 t.sq.lo, .int .i64 t.sq.hi, .int .i64 t.term] ∧ Blk wr p2 25 #[.int .i64 z.lo, .int .i64 z.hi] ∧ Blk wr pq3 25 #[.int .i64 0, .int .i64 0] ∧ Blk wr p4 25 #[.int .i64 (o : Rg).lo, .int .i64 o.hi] ∧ ∃ u : Nat → Value, a = ⟨List.toArray (u 0 :: u 1 :: u 2 :: .slice (some ⟨bi, oi, none⟩) rs.length cr :: .pointer (some ⟨pq1, 0, none⟩) :: u 5 :: u 6 :: u 7 :: .pointer (some ⟨pq3, 0, none⟩) :: u 9 :: u 10 :: u 11 :: .pointer (some ⟨p2, 0, none⟩) :: .pointer (some ⟨p4, 0, none⟩) :: .bool (bN b) :: .int .i64 K :: u 16 :: u 17 :: u 18 :: u 19 :: u 20 :: u 21 :: u 22 :: u 23 :: u 24 :: u 25 :: u 26 :: u 27 :: u 28 :: u 29 :: u 30 :: u 31 :: u 32 :: u 33 :: u 34 :: u 35 :: u 36 :: u 37 :: u 38 :: u 39 :: u 40 :: u 41 :: u 42 :: u 43 :: u 44 :: u 45 :: u 46 :: u 47 :: u 48 :: u 49 :: u 50 :: u 51 :: u 52 :: u 53 :: u 54 :: u 55 :: u 56 :: u 57 :: u 58 :: u 59 :: u 60 :: u 61 :: u 62 :: u 63 :: u 64 :: u 65 :: u 66 :: u 67 :: u 68 :: u 69 :: u 70 :: u 71 :: u 72 :: u 73 :: u 74 :: u 75 :: u 76 :: u 77 :: u 78 :: u 79 :: u 80 :: u 81 :: u 82 :: u 83 :: u 84 :: u 85 :: u 86 :: u 87 :: u 88 :: u 89 :: u 90 :: u 91 :: u 92 :: u 93 :: u 94 :: u 95 :: u 96 :: u 97 :: u 98 :: u 99 :: u 100 :: u 101 :: u 102 :: u 103 :: u 104 :: u 105 :: u 106 :: u 107 :: u 108 :: u 109 :: u 110 :: u 111 :: u 112 :: u 113 :: u 114 :: u 115 :: u 116 :: u 117 :: u 118 :: u 119 :: u 120 :: u 121 :: u 122 :: u 123 :: u 124 :: u 125 :: u 126 :: u 127 :: u 128 :: u 129 :: u 130 :: u 131 :: u 132 :: u 133 :: u 134 :: u 135 :: []), []⟩) a wr) (fun a _ => (t.k.hi + 1 - intOf (a.tmps.getD 15 undef)).toNat) ⟨⟨t.k.lo, by omega, ⟨1073741824, -1073741824⟩, 0, Lib.hid smp_none, B_V3, q1, q2, q3, q4, exFrame (by kernel_rfl)⟩⟩ ?_
 clear q1 q2 q3 q4 B_V3
 rintro a wr ⟨⟨K, hK, o, b, HP, hbl, q1, q2, q3, q4, u, rfl⟩⟩
 by_cases hle : K ≤ t.k.hi
 ·
  have eK : decide (K ≤ t.k.hi) = true := decide_eq_true hle
  have a6 := q1.cell 6
  have a7 := q1.cell 7
  have la := q1.lt
  simp at a6 a7
  have hKle := hle
  clear hle
  go_wp2_with fail
  clear la a6 a7
  clear eK
  refine wp_loop (fun a wr => Rel (fun a wr => ∃ L : Int, (t.lag.lo ≤ L ∧ L ≤ t.lag.hi + 1) ∧ ∃ (o : Rg) (b : Nat), Hid (SmP (SameQ t rs z K L t.sq.lo) o (bN b)) ∧ Below w.heap.size w wr ∧ Blk wr pq1 29 #[.int .i64 t.g.base, .slice Ab t.g.bands.length cb, .slice Ad t.g.depths.length cd, .int .i64 t.g.blo, .int .i64 t.g.bhi, .int .i64 t.k.lo, .int .i64 t.k.hi, .int .i64 t.lag.lo, .int .i64 t.lag.hi, .int .i64 t.sq.lo, .int .i64 t.sq.hi, .int .i64 t.term] ∧ Blk wr p2 25 #[.int .i64 z.lo, .int .i64 z.hi] ∧ Blk wr pq3 25 #[.int .i64 0, .int .i64 0] ∧ Blk wr p4 25 #[.int .i64 (o : Rg).lo, .int .i64 o.hi] ∧ ∃ u : Nat → Value, a = ⟨List.toArray (u 0 :: u 1 :: u 2 :: .slice (some ⟨bi, oi, none⟩) rs.length cr :: .pointer (some ⟨pq1, 0, none⟩) :: u 5 :: u 6 :: u 7 :: .pointer (some ⟨pq3, 0, none⟩) :: u 9 :: u 10 :: u 11 :: .pointer (some ⟨p2, 0, none⟩) :: .pointer (some ⟨p4, 0, none⟩) :: .bool (bN b) :: .int .i64 K :: .int .i64 L :: u 17 :: u 18 :: u 19 :: u 20 :: u 21 :: u 22 :: u 23 :: u 24 :: u 25 :: u 26 :: u 27 :: u 28 :: u 29 :: u 30 :: u 31 :: u 32 :: u 33 :: u 34 :: u 35 :: u 36 :: u 37 :: u 38 :: u 39 :: u 40 :: u 41 :: u 42 :: u 43 :: u 44 :: u 45 :: u 46 :: u 47 :: u 48 :: u 49 :: u 50 :: u 51 :: u 52 :: u 53 :: u 54 :: u 55 :: u 56 :: u 57 :: u 58 :: u 59 :: u 60 :: u 61 :: u 62 :: u 63 :: u 64 :: u 65 :: u 66 :: u 67 :: u 68 :: u 69 :: u 70 :: u 71 :: u 72 :: u 73 :: u 74 :: u 75 :: u 76 :: u 77 :: u 78 :: u 79 :: u 80 :: u 81 :: u 82 :: u 83 :: u 84 :: u 85 :: u 86 :: u 87 :: u 88 :: u 89 :: u 90 :: u 91 :: u 92 :: u 93 :: u 94 :: u 95 :: u 96 :: u 97 :: u 98 :: u 99 :: u 100 :: u 101 :: u 102 :: u 103 :: u 104 :: u 105 :: u 106 :: u 107 :: u 108 :: u 109 :: u 110 :: u 111 :: u 112 :: u 113 :: u 114 :: u 115 :: u 116 :: u 117 :: u 118 :: u 119 :: u 120 :: u 121 :: u 122 :: u 123 :: u 124 :: u 125 :: u 126 :: u 127 :: u 128 :: u 129 :: u 130 :: u 131 :: u 132 :: u 133 :: u 134 :: u 135 :: []), []⟩) a wr) (fun a _ => (t.lag.hi + 1 - intOf (a.tmps.getD 16 undef)).toNat) ⟨⟨t.lag.lo, by omega, o, b, HP, hbl, q1, q2, q3, q4, exFrame (by kernel_rfl)⟩⟩ ?_
  clear q1 q2 q3 q4 hbl
  rintro a wr ⟨⟨L, hL, o, b, HP, hbl, q1, q2, q3, q4, u, rfl⟩⟩
  by_cases hle : L ≤ t.lag.hi
  ·
   have eL : decide (L ≤ t.lag.hi) = true := decide_eq_true hle
   have a8 := q1.cell 8
   have a9 := q1.cell 9
   have la := q1.lt
   simp at a8 a9
   have hLle := hle
   clear hle
   go_wp2_with fail
   clear la a8 a9
   clear eL
   refine wp_loop (fun a wr => Rel (fun a wr => ∃ S : Int, (t.sq.lo ≤ S ∧ S ≤ t.sq.hi + 1) ∧ ∃ (o : Rg) (b : Nat), Hid (SmP (SameQ t rs z K L S) o (bN b)) ∧ Below w.heap.size w wr ∧ Blk wr pq1 29 #[.int .i64 t.g.base, .slice Ab t.g.bands.length cb, .slice Ad t.g.depths.length cd, .int .i64 t.g.blo, .int .i64 t.g.bhi, .int .i64 t.k.lo, .int .i64 t.k.hi, .int .i64 t.lag.lo, .int .i64 t.lag.hi, .int .i64 t.sq.lo, .int .i64 t.sq.hi, .int .i64 t.term] ∧ Blk wr p2 25 #[.int .i64 z.lo, .int .i64 z.hi] ∧ Blk wr pq3 25 #[.int .i64 0, .int .i64 0] ∧ Blk wr p4 25 #[.int .i64 (o : Rg).lo, .int .i64 o.hi] ∧ ∃ u : Nat → Value, a = ⟨List.toArray (u 0 :: u 1 :: u 2 :: .slice (some ⟨bi, oi, none⟩) rs.length cr :: .pointer (some ⟨pq1, 0, none⟩) :: u 5 :: u 6 :: u 7 :: .pointer (some ⟨pq3, 0, none⟩) :: u 9 :: u 10 :: u 11 :: .pointer (some ⟨p2, 0, none⟩) :: .pointer (some ⟨p4, 0, none⟩) :: .bool (bN b) :: .int .i64 K :: .int .i64 L :: .int .i64 S :: u 18 :: u 19 :: u 20 :: u 21 :: u 22 :: u 23 :: u 24 :: u 25 :: u 26 :: u 27 :: u 28 :: u 29 :: u 30 :: u 31 :: u 32 :: u 33 :: u 34 :: u 35 :: u 36 :: u 37 :: u 38 :: u 39 :: u 40 :: u 41 :: u 42 :: u 43 :: u 44 :: u 45 :: u 46 :: u 47 :: u 48 :: u 49 :: u 50 :: u 51 :: u 52 :: u 53 :: u 54 :: u 55 :: u 56 :: u 57 :: u 58 :: u 59 :: u 60 :: u 61 :: u 62 :: u 63 :: u 64 :: u 65 :: u 66 :: u 67 :: u 68 :: u 69 :: u 70 :: u 71 :: u 72 :: u 73 :: u 74 :: u 75 :: u 76 :: u 77 :: u 78 :: u 79 :: u 80 :: u 81 :: u 82 :: u 83 :: u 84 :: u 85 :: u 86 :: u 87 :: u 88 :: u 89 :: u 90 :: u 91 :: u 92 :: u 93 :: u 94 :: u 95 :: u 96 :: u 97 :: u 98 :: u 99 :: u 100 :: u 101 :: u 102 :: u 103 :: u 104 :: u 105 :: u 106 :: u 107 :: u 108 :: u 109 :: u 110 :: u 111 :: u 112 :: u 113 :: u 114 :: u 115 :: u 116 :: u 117 :: u 118 :: u 119 :: u 120 :: u 121 :: u 122 :: u 123 :: u 124 :: u 125 :: u 126 :: u 127 :: u 128 :: u 129 :: u 130 :: u 131 :: u 132 :: u 133 :: u 134 :: u 135 :: []), []⟩) a wr) (fun a _ => (t.sq.hi + 1 - intOf (a.tmps.getD 17 undef)).toNat) ⟨⟨t.sq.lo, by omega, o, b, HP, hbl, q1, q2, q3, q4, exFrame (by kernel_rfl)⟩⟩ ?_
   clear q1 q2 q3 q4 hbl
   rintro a wr ⟨⟨S, hS, o, b, HP, hbl, q1, q2, q3, q4, u, rfl⟩⟩
   by_cases hle : S ≤ t.sq.hi
   ·
    have eS : decide (S ≤ t.sq.hi) = true := decide_eq_true hle
    have a10 := q1.cell 10
    have la := q1.lt
    simp at a10
    have hSle := hle
    clear hle
    have hKI : KiIn t ⟨K, L, S⟩ := ⟨by simp only; omega, by simp only; omega, by simp only; omega⟩
    have hKB := hKI.bd ht
    have hQ : ∃ q : Ki, (⟨K, L, S⟩ : Ki) = q := ⟨_, rfl⟩
    have q1_0 := q1
    have q2_0 := q2
    have q3_0 := q3
    have q4_0 := q4
    have X_0 := Below.refl wr.heap.size wr
    have hsz5 : wr.heap.size ≤ wr.heap.size := Nat.le_refl _
    have NG := ex_alloc (Below.refl wr.heap.size wr) (.cells #[.int .i64 (-1073741824), .int .i64 1073741824] 25)
    have q5 : Blk (wr.alloc (.cells #[.int .i64 (-1073741824), .int .i64 1073741824] 25)) wr.heap.size 25 #[.int .i64 (-1073741824), .int .i64 1073741824] := Blk.new _ _ _
    have lt_q1 := q1.lt
    have lt_q2 := q2.lt
    have lt_q3 := q3.lt
    have lt_q4 := q4.lt
    go_wp2_with fail
    clear a10 la eS
    obtain ⟨p5, hp5'⟩ : ∃ p, wr.heap.size = p := ⟨_, rfl⟩
    rw [hp5'] at q5 lt_q1 lt_q2 lt_q3 lt_q4 ⊢
    have zp5 : w.heap.size ≤ p5 := by have := hbl.size; omega
    have hv5 : wr.heap.size ≤ p5 := Nat.le_of_eq hp5'
    clear hp5'
    have nq1_p5 : pq1 ≠ p5 := by omega
    clear lt_q1
    have nq2_p5 : p2 ≠ p5 := by omega
    clear lt_q2
    have nq3_p5 : pq3 ≠ p5 := by omega
    clear lt_q3
    have nq4_p5 : p4 ≠ p5 := by omega
    clear lt_q4
    replace q1 := q1.below NG q1.lt
    replace q2 := q2.below NG q2.lt
    replace q3 := q3.below NG q3.lt
    replace q4 := q4.below NG q4.lt
    have B_V4 := ex_trans hbl NG
    have X_V4 := ex_trans X_0 NG
    clear NG
    generalize wr.alloc (.cells #[.int .i64 (-1073741824), .int .i64 1073741824] 25) = V4 at *
    skip
    refine wp_loop (fun a wq => ∃ k : Nat, k ≤ rs.length ∧ Below wr.heap.size wr wq ∧ Blk wq p5 25 #[.int .i64 (allR rs ⟨K, L, S⟩ k).lo, .int .i64 (allR rs ⟨K, L, S⟩ k).hi] ∧ ∃ u : Nat → Value, a = ⟨List.toArray (u 0 :: u 1 :: u 2 :: .slice (some ⟨bi, oi, none⟩) rs.length cr :: .pointer (some ⟨pq1, 0, none⟩) :: u 5 :: u 6 :: u 7 :: .pointer (some ⟨pq3, 0, none⟩) :: u 9 :: u 10 :: u 11 :: .pointer (some ⟨p2, 0, none⟩) :: .pointer (some ⟨p4, 0, none⟩) :: .bool (bN b) :: .int .i64 K :: .int .i64 L :: .int .i64 S :: .pointer (some ⟨p5, 0, none⟩) :: .int .i64 (k : Int) :: u 20 :: u 21 :: u 22 :: u 23 :: u 24 :: u 25 :: u 26 :: u 27 :: u 28 :: u 29 :: u 30 :: u 31 :: u 32 :: u 33 :: u 34 :: u 35 :: u 36 :: u 37 :: u 38 :: u 39 :: u 40 :: u 41 :: u 42 :: u 43 :: u 44 :: u 45 :: u 46 :: u 47 :: u 48 :: u 49 :: u 50 :: u 51 :: u 52 :: u 53 :: u 54 :: u 55 :: u 56 :: u 57 :: u 58 :: u 59 :: u 60 :: u 61 :: u 62 :: u 63 :: u 64 :: u 65 :: u 66 :: u 67 :: u 68 :: u 69 :: u 70 :: u 71 :: u 72 :: u 73 :: u 74 :: u 75 :: u 76 :: u 77 :: u 78 :: u 79 :: u 80 :: u 81 :: u 82 :: u 83 :: u 84 :: u 85 :: u 86 :: u 87 :: u 88 :: u 89 :: u 90 :: u 91 :: u 92 :: u 93 :: u 94 :: u 95 :: u 96 :: u 97 :: u 98 :: u 99 :: u 100 :: u 101 :: u 102 :: u 103 :: u 104 :: u 105 :: u 106 :: u 107 :: u 108 :: u 109 :: u 110 :: u 111 :: u 112 :: u 113 :: u 114 :: u 115 :: u 116 :: u 117 :: u 118 :: u 119 :: u 120 :: u 121 :: u 122 :: u 123 :: u 124 :: u 125 :: u 126 :: u 127 :: u 128 :: u 129 :: u 130 :: u 131 :: u 132 :: u 133 :: u 134 :: u 135 :: []), []⟩) (fun a _ => rs.length - (intOf (a.tmps.getD 19 undef)).toNat) ⟨0, by omega, X_V4, by simp only [allR]; exact q5, exFrame (by kernel_rfl)⟩ ?_
    have zv5 : wr.heap.size ≤ p5 := hv5
    clear q1 q2 q3 q4 q5 X_V4 B_V4
    rintro a wv ⟨k, hk, hX, q5, u, rfl⟩
    have hB := ex_trans hbl hX
    have q1 := q1_0.below hX q1_0.lt
    have q2 := q2_0.below hX q2_0.lt
    have q3 := q3_0.below hX q3_0.lt
    have q4 := q4_0.below hX q4_0.lt
    by_cases hlt : k < rs.length
    ·
     have hrk := hr k hlt
     have hbb := bare_bd hKB hrk
     have hab := allR_bd (k := k) hKB hr hk
     have HC : Hid (allR rs ⟨K, L, S⟩ (k + 1) = ⟨max (allR rs ⟨K, L, S⟩ k).lo (bareP (gE rs k) ⟨K, L, S⟩).lo, min (allR rs ⟨K, L, S⟩ k).hi (bareP (gE rs k) ⟨K, L, S⟩).hi⟩) := Lib.hid rfl
     have hs2 := hs_w.go hB
     obtain ⟨bj, oj, hA2, hbj, g0, g1, g2, g3, g4, g5, g6, g7, g8, g9⟩ := IsRds.at10 hs2 hlt
     rw [HAR.out] at hA2
     injection hA2 with hA3
     injection hA3 with hA4 hA5 _
     subst hA4 hA5
     clear hs2
     go_wp2_with fail
     refine (sr_bare (gE rs k) ⟨K, L, S⟩ _ hrk hKB).mono ?_
     rintro e V5 ⟨rfl, hV5⟩
     replace q1 := q1.below hV5 q1.lt
     replace q2 := q2.below hV5 q2.lt
     replace q3 := q3.below hV5 q3.lt
     replace q4 := q4.below hV5 q4.lt
     replace q5 := q5.below hV5 q5.lt
     have B_V5 := ex_trans hB hV5
     have X_V5 := ex_trans hX hV5
     clear g0 g1 g2 g3 g4 g5 g6 g7 g8 g9
     generalize bareP (gE rs k) ⟨K, L, S⟩ = b1 at *
     generalize allR rs ⟨K, L, S⟩ k = a1 at *
     have NG := ex_alloc (Below.refl V5.heap.size V5) (.cells #[.int .i64 b1.lo, .int .i64 b1.hi] 25)
     have q6 : Blk (V5.alloc (.cells #[.int .i64 b1.lo, .int .i64 b1.hi] 25)) V5.heap.size 25 #[.int .i64 b1.lo, .int .i64 b1.hi] := Blk.new _ _ _
     have lt_q1 := q1.lt
     have lt_q2 := q2.lt
     have lt_q3 := q3.lt
     have lt_q4 := q4.lt
     have lt_q5 := q5.lt
     go_upto_region 18 with fail
     obtain ⟨p6, hp6'⟩ : ∃ p, V5.heap.size = p := ⟨_, rfl⟩
     rw [hp6'] at q6 lt_q1 lt_q2 lt_q3 lt_q4 lt_q5 ⊢
     have zp6 : w.heap.size ≤ p6 := by have := B_V5.size; omega
     clear hp6'
     have nq1_p6 : pq1 ≠ p6 := by omega
     clear lt_q1
     have nq2_p6 : p2 ≠ p6 := by omega
     clear lt_q2
     have nq3_p6 : pq3 ≠ p6 := by omega
     clear lt_q3
     have nq4_p6 : p4 ≠ p6 := by omega
     clear lt_q4
     have nq5_p6 : p5 ≠ p6 := by omega
     clear lt_q5
     replace q1 := q1.below NG q1.lt
     replace q2 := q2.below NG q2.lt
     replace q3 := q3.below NG q3.lt
     replace q4 := q4.below NG q4.lt
     replace q5 := q5.below NG q5.lt
     have B_V6 := ex_trans B_V5 NG
     have X_V6 := ex_trans X_V5 NG
     clear NG
     generalize V5.alloc (.cells #[.int .i64 b1.lo, .int .i64 b1.hi] 25) = V6 at *
     have y0 := q6.cell 0
     have y1 := q6.cell 1
     have ly := q6.lt
     have u0 := q5.cell 0
     have u1 := q5.cell 1
     have fu := q5.frozen0
     have lu := q5.lt
     simp at y0 y1 u0 u1
     have m5 := (q5.set_ 0 (.int .i64 (max a1.lo b1.lo))).set_ 1 (.int .i64 (min a1.hi b1.hi))
     simp only [List.setIfInBounds_toArray, List.set_cons_zero, List.set_cons_succ] at m5
     have mX := ex_set (p := ⟨p5, 1, none⟩) (ex_set (p := ⟨p5, 0, none⟩) X_V6 zv5 (.int .i64 (max a1.lo b1.lo))) zv5 (.int .i64 (min a1.hi b1.hi))
     go_wp2
     refine ⟨⟨k + 1, by omega, mX, by rw [HC.out]; exact m5, exFrame (by kernel_rfl)⟩, ?_⟩
     simp [intOf]
     omega
    ·
     obtain rfl : k = rs.length := by omega
     clear hlt
     have hA1 := allR_bd1 (k := rs.length) hKB hr h0 (Nat.le_refl _)
     have hAb := allR_bd (k := rs.length) hKB hr (Nat.le_refl _)
     have HP2 := Lib.hid (smp_in ht hr h0 hKI HP.out)
     obtain ⟨A, hA⟩ : ∃ A, allR rs ⟨K, L, S⟩ rs.length = A := ⟨_, rfl⟩
     rw [hA] at hA1 hAb q5 HP2
     have HA := Lib.hid hA
     clear hA
     have u0 := q5.cell 0
     have u1 := q5.cell 1
     have lu := q5.lt
     simp at u0 u1
     go_wp2_with fail
     clear u0 u1 lu
     refine wp_loop (fun a wr => Rel (fun a wr => ∃ n : Int, (A.lo ≤ n ∧ (n ≤ A.hi + 1 ∨ n = A.lo)) ∧ ∃ (o : Rg) (b : Nat), Hid (SmP (SameE t rs z K L S n) o (bN b)) ∧ Below w.heap.size w wr ∧ Blk wr pq1 29 #[.int .i64 t.g.base, .slice Ab t.g.bands.length cb, .slice Ad t.g.depths.length cd, .int .i64 t.g.blo, .int .i64 t.g.bhi, .int .i64 t.k.lo, .int .i64 t.k.hi, .int .i64 t.lag.lo, .int .i64 t.lag.hi, .int .i64 t.sq.lo, .int .i64 t.sq.hi, .int .i64 t.term] ∧ Blk wr p2 25 #[.int .i64 z.lo, .int .i64 z.hi] ∧ Blk wr pq3 25 #[.int .i64 0, .int .i64 0] ∧ Blk wr p4 25 #[.int .i64 (o : Rg).lo, .int .i64 o.hi] ∧ Blk wr p5 25 #[.int .i64 A.lo, .int .i64 A.hi] ∧ ∃ u : Nat → Value, a = ⟨List.toArray (u 0 :: u 1 :: u 2 :: .slice (some ⟨bi, oi, none⟩) rs.length cr :: .pointer (some ⟨pq1, 0, none⟩) :: u 5 :: u 6 :: u 7 :: .pointer (some ⟨pq3, 0, none⟩) :: u 9 :: u 10 :: u 11 :: .pointer (some ⟨p2, 0, none⟩) :: .pointer (some ⟨p4, 0, none⟩) :: .bool (bN b) :: .int .i64 K :: .int .i64 L :: .int .i64 S :: .pointer (some ⟨p5, 0, none⟩) :: u 19 :: u 20 :: .int .i64 n :: u 22 :: u 23 :: u 24 :: u 25 :: u 26 :: u 27 :: u 28 :: u 29 :: u 30 :: u 31 :: u 32 :: u 33 :: u 34 :: u 35 :: u 36 :: u 37 :: u 38 :: u 39 :: u 40 :: u 41 :: u 42 :: u 43 :: u 44 :: u 45 :: u 46 :: u 47 :: u 48 :: u 49 :: u 50 :: u 51 :: u 52 :: u 53 :: u 54 :: u 55 :: u 56 :: u 57 :: u 58 :: u 59 :: u 60 :: u 61 :: u 62 :: u 63 :: u 64 :: u 65 :: u 66 :: u 67 :: u 68 :: u 69 :: u 70 :: u 71 :: u 72 :: u 73 :: u 74 :: u 75 :: u 76 :: u 77 :: u 78 :: u 79 :: u 80 :: u 81 :: u 82 :: u 83 :: u 84 :: u 85 :: u 86 :: u 87 :: u 88 :: u 89 :: u 90 :: u 91 :: u 92 :: u 93 :: u 94 :: u 95 :: u 96 :: u 97 :: u 98 :: u 99 :: u 100 :: u 101 :: u 102 :: u 103 :: u 104 :: u 105 :: u 106 :: u 107 :: u 108 :: u 109 :: u 110 :: u 111 :: u 112 :: u 113 :: u 114 :: u 115 :: u 116 :: u 117 :: u 118 :: u 119 :: u 120 :: u 121 :: u 122 :: u 123 :: u 124 :: u 125 :: u 126 :: u 127 :: u 128 :: u 129 :: u 130 :: u 131 :: u 132 :: u 133 :: u 134 :: u 135 :: []), []⟩) a wr) (fun a _ => (A.hi + 1 - intOf (a.tmps.getD 21 undef)).toNat) ⟨⟨A.lo, by omega, o, b, HP2, hB, q1, q2, q3, q4, q5, exFrame (by kernel_rfl)⟩⟩ ?_
     clear q1 q2 q3 q4 q5 q1_0 q2_0 q3_0 q4_0 hX hB hbl HP HP2
     rintro a wn ⟨⟨n, hn, o, b, HP, hbl, q1, q2, q3, q4, q5, u, rfl⟩⟩
     have u0 := q5.cell 0
     have u1 := q5.cell 1
     have lu := q5.lt
     simp at u0 u1
     by_cases hnle : n ≤ A.hi
     ·
      have e1 : decide (n ≤ A.hi) = true := decide_eq_true hnle
      go_wp2_with fail
      clear u0 u1 lu e1
      refine wp_loop (fun a wq => ∃ k : Nat, k ≤ rs.length ∧ Below wn.heap.size wn wq ∧ ∃ u : Nat → Value, a = ⟨List.toArray (u 0 :: u 1 :: u 2 :: .slice (some ⟨bi, oi, none⟩) rs.length cr :: .pointer (some ⟨pq1, 0, none⟩) :: u 5 :: u 6 :: u 7 :: .pointer (some ⟨pq3, 0, none⟩) :: u 9 :: u 10 :: u 11 :: .pointer (some ⟨p2, 0, none⟩) :: .pointer (some ⟨p4, 0, none⟩) :: .bool (bN b) :: .int .i64 K :: .int .i64 L :: .int .i64 S :: .pointer (some ⟨p5, 0, none⟩) :: u 19 :: u 20 :: .int .i64 n :: .bool (sayTo rs ⟨K, L, S⟩ n k) :: .int .i64 (k : Int) :: u 24 :: u 25 :: u 26 :: u 27 :: u 28 :: u 29 :: u 30 :: u 31 :: u 32 :: u 33 :: u 34 :: u 35 :: u 36 :: u 37 :: u 38 :: u 39 :: u 40 :: u 41 :: u 42 :: u 43 :: u 44 :: u 45 :: u 46 :: u 47 :: u 48 :: u 49 :: u 50 :: u 51 :: u 52 :: u 53 :: u 54 :: u 55 :: u 56 :: u 57 :: u 58 :: u 59 :: u 60 :: u 61 :: u 62 :: u 63 :: u 64 :: u 65 :: u 66 :: u 67 :: u 68 :: u 69 :: u 70 :: u 71 :: u 72 :: u 73 :: u 74 :: u 75 :: u 76 :: u 77 :: u 78 :: u 79 :: u 80 :: u 81 :: u 82 :: u 83 :: u 84 :: u 85 :: u 86 :: u 87 :: u 88 :: u 89 :: u 90 :: u 91 :: u 92 :: u 93 :: u 94 :: u 95 :: u 96 :: u 97 :: u 98 :: u 99 :: u 100 :: u 101 :: u 102 :: u 103 :: u 104 :: u 105 :: u 106 :: u 107 :: u 108 :: u 109 :: u 110 :: u 111 :: u 112 :: u 113 :: u 114 :: u 115 :: u 116 :: u 117 :: u 118 :: u 119 :: u 120 :: u 121 :: u 122 :: u 123 :: u 124 :: u 125 :: u 126 :: u 127 :: u 128 :: u 129 :: u 130 :: u 131 :: u 132 :: u 133 :: u 134 :: u 135 :: []), []⟩) (fun a _ => rs.length - (intOf (a.tmps.getD 23 undef)).toNat) ⟨0, by omega, Below.refl _ _, exFrame (by kernel_rfl)⟩ ?_
      rintro a wi ⟨k, hk, hX, u, rfl⟩
      have HX := hX
      replace q1 := q1.below hX q1.lt
      replace q2 := q2.below hX q2.lt
      replace q3 := q3.below hX q3.lt
      replace q4 := q4.below hX q4.lt
      replace q5 := q5.below hX q5.lt
      have B_wi := ex_trans hbl hX
      by_cases hlt : k < rs.length
      ·
       have HST : Hid (sayTo rs ⟨K, L, S⟩ n (k + 1) = (sayTo rs ⟨K, L, S⟩ n k && saysB (gE rs k) ⟨K, L, S⟩ n)) := Lib.hid rfl
       cases hsk : sayTo rs ⟨K, L, S⟩ n k
       ·
        have HS2 : Hid (sayTo rs ⟨K, L, S⟩ n (k + 1) = false) := Lib.hid (by rw [HST.out, hsk]; rfl)
        clear hsk HST
        go_wp2
        refine ⟨⟨k + 1, by omega, HX, by rw [HS2.out]; exact exFrame (by kernel_rfl)⟩, ?_⟩
        simp [intOf]
        omega
       ·
        have HS2 : Hid (sayTo rs ⟨K, L, S⟩ n (k + 1) = saysB (gE rs k) ⟨K, L, S⟩ n) := Lib.hid (by rw [HST.out, hsk]; rfl)
        clear hsk HST
        have hrk := hr k hlt
        have hs2 := hs_w.go B_wi
        obtain ⟨bj, oj, hA2, hbj, g0, g1, g2, g3, g4, g5, g6, g7, g8, g9⟩ := IsRds.at10 hs2 hlt
        rw [HAR.out] at hA2
        injection hA2 with hA3
        injection hA3 with hA4 hA5 _
        subst hA4 hA5
        clear hs2
        go_wp2_with fail
        refine (sr_says (gE rs k) ⟨K, L, S⟩ n _ hrk hKB (by omega)).mono ?_
        rintro e V7 ⟨rfl, hV7⟩
        replace q1 := q1.below hV7 q1.lt
        replace q2 := q2.below hV7 q2.lt
        replace q3 := q3.below hV7 q3.lt
        replace q4 := q4.below hV7 q4.lt
        replace q5 := q5.below hV7 q5.lt
        have B_V7 := ex_trans B_wi hV7
        have X_V7 := ex_trans HX hV7
        rw [← HS2.out]
        clear g0 g1 g2 g3 g4 g5 g6 g7 g8 g9
        go_wp2
        refine ⟨⟨k + 1, by omega, X_V7, exFrame (by kernel_rfl)⟩, ?_⟩
        simp [intOf]
        omega
      ·
       obtain rfl : k = rs.length := by omega
       clear hlt
       cases hsa : sayTo rs ⟨K, L, S⟩ n rs.length
       ·
        have HP2 := Lib.hid (smp_no hsa HP.out)
        clear hsa
        go_wp2
        refine ⟨⟨⟨n + 1, by omega, o, b, HP2, B_wi, q1, q2, q3, q4, q5, exFrame (by kernel_rfl)⟩⟩, ?_⟩
        simp [intOf]
        omega
       ·
        have HP2 := Lib.hid (smp_yes hKI hsa HP.out)
        clear hsa
        have hob := (HP.out.w).bd (fun y hy => sameE_bd ht hr h0 hzb hy)
        have o0 := q4.cell 0
        have o1 := q4.cell 1
        have lo := q4.lt
        simp at o0 o1
        have w0 := q2.cell 0
        have w1 := q2.cell 1
        have lw := q2.lt
        simp at w0 w1
        go_upto_region 28 with fail
        refine wp_region_ext_tq 11 (.quiet 0 (.quiet 1 (.quiet 2 (.quiet 3 (.quiet 4 (.quiet 6 (.quiet 7 (.quiet 8 (.quiet 9 (.loud 5 (.loud 10 .done))))))))))) (by kernel_rfl) (by kernel_rfl) (by intro d _ _ _ _ h; cases d <;> exact h) ?_
        have D0 := (Below.refl wi.heap.size wi).drew
        repeat (refine tq_quiet rfl ?_; go_big_quiet_step (fail); refine wpQuiet_nil ?_)
        refine tq_loud rfl ?_
        go_wp2_with fail
        refine (sr_wide o (n - z.hi) _).mono ?_
        rintro e V8 ⟨rfl, hV8⟩
        have N5 := ex_trans ((Below.refl wi.heap.size wi)).drew hV8
        go_wp2_with fail
        refine ⟨inEx N5, ?_⟩
        refine tq_loud rfl ?_
        go_wp2_with fail
        refine (sr_wide ⟨min o.lo (n - z.hi), max o.hi (n - z.hi)⟩ (n - z.lo) _).mono ?_
        rintro e V9 ⟨rfl, hV9⟩
        have N10 := ex_trans N5 hV9
        go_wp2_with fail
        refine ⟨inEx N10, ?_⟩
        refine tq_done (r := [_, _]) rfl ?_
        have XX := N10
        have XS := XX.size
        replace q1 := q1.below XX q1.lt
        replace q2 := q2.below XX q2.lt
        replace q3 := q3.below XX q3.lt
        replace q4 := q4.below XX q4.lt
        replace q5 := q5.below XX q5.lt
        have B_V10 := ex_trans B_wi XX
        clear D0 XX XS hV9 N10 hV8 N5 
        generalize V9 = V10 at *
        have n54 : p5 ≠ p4 := fun e => nq4_p5 e.symm
        have HP3 := HP2.out
        rw [show min (min o.lo (n - z.hi)) (n - z.lo) = min o.lo (min (n - z.hi) (n - z.lo)) by omega, show max (max o.hi (n - z.hi)) (n - z.lo) = max o.hi (max (n - z.hi) (n - z.lo)) by omega] at HP3
        have HP4 := Lib.hid HP3
        clear HP3 HP2
        have u0 := q4.cell 0
        have u1 := q4.cell 1
        have fu := q4.frozen0
        have lu := q4.lt
        simp at u0 u1
        have m4 := (q4.set_ 0 (.int .i64 (min o.lo (min (n - z.hi) (n - z.lo))))).set_ 1 (.int .i64 (max o.hi (max (n - z.hi) (n - z.lo))))
        simp only [List.setIfInBounds_toArray, List.set_cons_zero, List.set_cons_succ] at m4
        have mq1 := (q1.far (p := ⟨p4, 0, none⟩) n14 (.int .i64 (min o.lo (min (n - z.hi) (n - z.lo))))).far (p := ⟨p4, 1, none⟩) n14 (.int .i64 (max o.hi (max (n - z.hi) (n - z.lo))))
        have mq2 := (q2.far (p := ⟨p4, 0, none⟩) n24 (.int .i64 (min o.lo (min (n - z.hi) (n - z.lo))))).far (p := ⟨p4, 1, none⟩) n24 (.int .i64 (max o.hi (max (n - z.hi) (n - z.lo))))
        have mq3 := (q3.far (p := ⟨p4, 0, none⟩) n34 (.int .i64 (min o.lo (min (n - z.hi) (n - z.lo))))).far (p := ⟨p4, 1, none⟩) n34 (.int .i64 (max o.hi (max (n - z.hi) (n - z.lo))))
        have mq5 := (q5.far (p := ⟨p4, 0, none⟩) n54 (.int .i64 (min o.lo (min (n - z.hi) (n - z.lo))))).far (p := ⟨p4, 1, none⟩) n54 (.int .i64 (max o.hi (max (n - z.hi) (n - z.lo))))
        have mB := ex_set (p := ⟨p4, 1, none⟩) (ex_set (p := ⟨p4, 0, none⟩) B_V10 zp4 (.int .i64 (min o.lo (min (n - z.hi) (n - z.lo))))) zp4 (.int .i64 (max o.hi (max (n - z.hi) (n - z.lo))))
        skip
        go_wp2
        refine ⟨⟨⟨n + 1, by omega, ⟨(min o.lo (min (n - z.hi) (n - z.lo))), (max o.hi (max (n - z.hi) (n - z.lo)))⟩, 1, HP4, mB, mq1, mq2, mq3, m4, mq5, exFrame (by kernel_rfl)⟩⟩, ?_⟩
        simp [intOf]
        omega
     ·
      have e1 : decide (n ≤ A.hi) = false := decide_eq_false hnle
      have HP2 := Lib.hid (smp_out (N := n) ht hr h0 hKI (by rw [HA.out]; omega) HP.out)
      go_wp2
      refine ⟨⟨⟨S + 1, by omega, o, b, HP2, hbl, q1, q2, q3, q4, exFrame (by kernel_rfl)⟩⟩, ?_⟩
      simp [intOf]
      omega
   ·
    have eS : decide (S ≤ t.sq.hi) = false := decide_eq_false hle
    have a10 := q1.cell 10
    have la := q1.lt
    simp at a10
    go_wp2
    refine ⟨⟨⟨L + 1, by omega, o, b, Lib.hid (smp_row (by omega) HP.out), hbl, q1, q2, q3, q4, exFrame (by kernel_rfl)⟩⟩, ?_⟩
    simp [intOf]
    omega
  ·
   have eL : decide (L ≤ t.lag.hi) = false := decide_eq_false hle
   have a8 := q1.cell 8
   have la := q1.lt
   simp at a8
   go_wp2
   refine ⟨⟨⟨K + 1, by omega, o, b, Lib.hid (smp_plane (by omega) HP.out), hbl, q1, q2, q3, q4, exFrame (by kernel_rfl)⟩⟩, ?_⟩
   simp [intOf]
   omega
 ·
  have eK : decide (K ≤ t.k.hi) = false := decide_eq_false hle
  have a6 := q1.cell 6
  have la := q1.lt
  simp at a6
  have HE := Lib.hid (smp_end ht hr h0 hzb hzz (by omega) HP.out)
  clear HP
  have y0 := q4.cell 0
  have y1 := q4.cell 1
  have ly := q4.lt
  have r0 := q3.cell 0
  have r1 := q3.cell 1
  have fr := q3.frozen0
  have lr := q3.lt
  simp at y0 y1 r0 r1
  have m3 := (q3.set_ 0 (.int .i64 o.lo)).set_ 1 (.int .i64 o.hi)
  simp only [List.setIfInBounds_toArray, List.set_cons_zero, List.set_cons_succ] at m3
  go_wp2
  refine bodyPost_ret (results_ct_row rfl _ _ _ 25 #[.int .i64 o.lo, .int .i64 o.hi] (0, 0) _ rfl m3 rfl rfl rfl) rfl ?_
  exact ⟨Lib.hid ⟨o, bN b, rfl, by rw [HZK.out]; exact HE.out⟩, ex_set (p := ⟨pq3, 1, none⟩) (ex_set (p := ⟨pq3, 0, none⟩) hbl hp3 _) hp3 _⟩


end Go.Proofs.YtkaogjhnogkcdaaGreat
end
