/- Stem: readings of arguments: tubes, readings, lists of readings. · Stem's reference: wide, Play, IsTruth (walks). · Stem's reference: Bare (walk). · Stem's reference: Without (walk). · Stem's reference: Stale, Refused, Correct (walks). · Stem's law: tubes; the example's tube, history and reading (walks). · Stem: says, bath (walks). · Stem: bath (walk). · Stem: kinds (walks): the iterator. · Stem: what is left, kind by kind: keys, and the right-function (walk). -/
import Derived.Test.YtkaogjhnogkcdaaGreatJ13
import Derived.Test.YtkaogjhnogkcdaaGreatJ19
import Derived.Test.YtkaogjhnogkcdaaGreatJ22
import Derived.Test.YtkaogjhnogkcdaaGreatJ15
import Derived.Test.YtkaogjhnogkcdaaGreatJ10
import Derived.Test.YtkaogjhnogkcdaaGreatJ17
import Derived.Test.YtkaogjhnogkcdaaGreatJ16
import Derived.Test.YtkaogjhnogkcdaaGreatJ18
import Derived.Test.YtkaogjhnogkcdaaGreatJ23
set_option linter.unusedVariables false
set_option linter.unusedSimpArgs false
set_option linter.unusedSectionVars false
section
namespace Go.Proofs.YtkaogjhnogkcdaaGreat
open Go.RowKit Go.ChangeShapes Go.WideShapes Go.ChangeAt
section
variable {H : Type} {enc : TypeId × Value → H} {w : World} {base : Nat} {spare : Nat → Bool} {held : Bool} {r : Reach} {b0 : Nat}
theorem tr_boo {fuel : Nat} {t : TypeId} {cs : List Value} {x : DataW H × List MemPlace} (ht : Tryz.prog.underlying t = some .bool) (h : DataW.trod enc Tryz.prog w base spare held fuel t cs = some x) : ∃ b : Bool, cs = [.bool b] := by
 obtain ⟨b, h1, _⟩ := DataW.trod_bool ht h
 exact ⟨b, h1⟩
theorem list10 {α : Type} {l : List α} (h : l.length = 10) : ∃ x0 x1 x2 x3 x4 x5 x6 x7 x8 x9, l = [x0, x1, x2, x3, x4, x5, x6, x7, x8, x9] := by
 match l, h with
 | [x0, x1, x2, x3, x4, x5, x6, x7, x8, x9], _ => exact ⟨x0, x1, x2, x3, x4, x5, x6, x7, x8, x9, rfl⟩
theorem list12 {α : Type} {l : List α} (h : l.length = 12) : ∃ x0 x1 x2 x3 x4 x5 x6 x7 x8 x9 x10 x11, l = [x0, x1, x2, x3, x4, x5, x6, x7, x8, x9, x10, x11] := by
 match l, h with
 | [x0, x1, x2, x3, x4, x5, x6, x7, x8, x9, x10, x11], _ => exact ⟨x0, x1, x2, x3, x4, x5, x6, x7, x8, x9, x10, x11, rfl⟩
set_option maxRecDepth 100000 in
theorem tr_gl {fuel : Nat} {cs : List Value} {x : DataW H × List MemPlace} (h : DataW.trod enc Tryz.prog w base spare held fuel 27 cs = some x) :
  ∃ (g : Gl) (Ab Ad : Option Addr) (cb cd : Nat), cs = [.int .i64 g.base, .slice Ab g.bands.length cb, .slice Ad g.depths.length cd, .int .i64 g.blo, .int .i64 g.bhi] ∧ GlIn w w.heap.size g Ab Ad := by
 obtain ⟨xs, n, _, _, hc, hxl, hf⟩ := DataW.trod_struct Tryz.underlying27 h
 obtain ⟨c0, c1, c2, c3, c4, rfl⟩ := list5 (hc.trans (by kernel_rfl))
 have hl : xs.length = 4 := hxl.trans rfl
 obtain ⟨y0, e0⟩ := some_of (l := xs) (i := 0) (by omega)
 obtain ⟨y1, e1⟩ := some_of (l := xs) (i := 1) (by omega)
 obtain ⟨y2, e2⟩ := some_of (l := xs) (i := 2) (by omega)
 obtain ⟨y3, e3⟩ := some_of (l := xs) (i := 3) (by omega)
 have h0 := fld hf (i := 0) 3 0 1 rfl rfl rfl (by kernel_rfl) e0
 have h1 := fld hf (i := 1) 22 1 1 rfl rfl rfl (by kernel_rfl) e1
 have h2 := fld hf (i := 2) 23 2 1 rfl rfl rfl (by kernel_rfl) e2
 have h3 := fld hf (i := 3) 25 3 2 rfl rfl rfl (by kernel_rfl) e3
 simp only [List.drop_zero, List.drop_succ_cons, List.take_succ_cons, List.take_zero] at h0 h1 h2 h3
 obtain ⟨u, hu, _⟩ := tr_int Tryz.underlying3 h0
 obtain ⟨Ab, lb, cb, hb1, hb2, hb3, hb4⟩ := tr_sl (sz := 3) (c := cB) Tryz.underlying22 (by omega) (by kernel_rfl) (fun h => tr_bd h) (fun _ => rfl) h1
 obtain ⟨Ad, ld, cd, hd1, hd2, hd3, hd4⟩ := tr_sl (sz := 2) (c := cD) Tryz.underlying23 (by omega) (by kernel_rfl) (fun h => tr_dp h) (fun _ => rfl) h2
 obtain ⟨q, hq⟩ := tr_rg h3
 unfold cR at hq
 injection hu with hu _
 injection hb1 with hb1 _
 injection hd1 with hd1 _
 injection hq with hq1 hq2
 injection hq2 with hq2 _
 refine ⟨⟨u, lb, ld, q.lo, q.hi⟩, Ab, Ad, cb, cd, by rw [hu, hb1, hd1, hq1, hq2], ⟨hb4 _ (fun k hk j hj => ?_), hd4 _ (fun k hk j hj => ?_)⟩⟩
 ·
  have e := gB_at hk
  match j, hj with
  | 0, _ => simp [cB, fB, e]
  | 1, _ => simp [cB, fB, e]
  | 2, _ => simp [cB, fB, e]
 ·
  have e := gD_at hk
  match j, hj with
  | 0, _ => simp [cD, fD, e]
  | 1, _ => simp [cD, fD, e]
set_option maxRecDepth 100000 in
theorem tr_tube {fuel : Nat} {cs : List Value} {x : DataW H × List MemPlace} (h : DataW.trod enc Tryz.prog w base spare held fuel 29 cs = some x) :
  ∃ (t : Tb) (Ab Ad : Option Addr) (cb cd : Nat), cs = [.int .i64 t.g.base, .slice Ab t.g.bands.length cb, .slice Ad t.g.depths.length cd, .int .i64 t.g.blo, .int .i64 t.g.bhi, .int .i64 t.k.lo, .int .i64 t.k.hi, .int .i64 t.lag.lo, .int .i64 t.lag.hi, .int .i64 t.sq.lo, .int .i64 t.sq.hi, .int .i64 t.term] ∧ GlIn w w.heap.size t.g Ab Ad := by
 obtain ⟨xs, n, _, _, hc, hxl, hf⟩ := DataW.trod_struct Tryz.underlying29 h
 obtain ⟨x0, x1, x2, x3, x4, x5, x6, x7, x8, x9, x10, x11, rfl⟩ := list12 (hc.trans (by kernel_rfl))
 have hl : xs.length = 5 := hxl.trans rfl
 obtain ⟨y0, e0⟩ := some_of (l := xs) (i := 0) (by omega)
 have h0 := fld hf (i := 0) 27 0 5 rfl rfl rfl (by kernel_rfl) e0
 obtain ⟨y1, e1⟩ := some_of (l := xs) (i := 1) (by omega)
 have h1 := fld hf (i := 1) 25 5 2 rfl rfl rfl (by kernel_rfl) e1
 obtain ⟨y2, e2⟩ := some_of (l := xs) (i := 2) (by omega)
 have h2 := fld hf (i := 2) 25 7 2 rfl rfl rfl (by kernel_rfl) e2
 obtain ⟨y3, e3⟩ := some_of (l := xs) (i := 3) (by omega)
 have h3 := fld hf (i := 3) 25 9 2 rfl rfl rfl (by kernel_rfl) e3
 obtain ⟨y4, e4⟩ := some_of (l := xs) (i := 4) (by omega)
 have h4 := fld hf (i := 4) 3 11 1 rfl rfl rfl (by kernel_rfl) e4
 simp only [List.drop_zero, List.drop_succ_cons, List.take_succ_cons, List.take_zero] at h0 h1 h2 h3 h4
 obtain ⟨g, Ab, Ad, cb, cd, hg0, hg⟩ := tr_gl h0
 injection hg0 with g0 hg0
 injection hg0 with g1 hg0
 injection hg0 with g2 hg0
 injection hg0 with g3 hg0
 injection hg0 with g4 _
 obtain ⟨k, hq1⟩ := tr_rg h1
 unfold cR at hq1
 injection hq1 with a1 hq1'
 injection hq1' with b1 _
 obtain ⟨l, hq2⟩ := tr_rg h2
 unfold cR at hq2
 injection hq2 with a2 hq2'
 injection hq2' with b2 _
 obtain ⟨q, hq3⟩ := tr_rg h3
 unfold cR at hq3
 injection hq3 with a3 hq3'
 injection hq3' with b3 _
 obtain ⟨m, hu4, _⟩ := tr_int Tryz.underlying3 h4
 injection hu4 with u4 _
 exact ⟨⟨g, k, l, q, m⟩, Ab, Ad, cb, cd, by rw [g0, g1, g2, g3, g4, a1, b1, a2, b2, a3, b3, u4], hg⟩
def cRd (r : Rd) : List Value := [.int .i64 r.day, .int .i64 r.shown, .int .i64 r.err, .int .i64 r.bare, .int .i64 r.air.lo, .int .i64 r.air.hi, .int .i64 r.rate.lo, .int .i64 r.rate.hi, .int .i64 r.deep, .bool r.broken]
set_option maxRecDepth 100000 in
theorem tr_rd {fuel : Nat} {cs : List Value} {x : DataW H × List MemPlace} (h : DataW.trod enc Tryz.prog w base spare held fuel 33 cs = some x) :
  ∃ q : Rd, cs = cRd q := by
 obtain ⟨xs, n, _, _, hc, hxl, hf⟩ := DataW.trod_struct Tryz.underlying33 h
 obtain ⟨x0, x1, x2, x3, x4, x5, x6, x7, x8, x9, rfl⟩ := list10 (hc.trans (by kernel_rfl))
 have hl : xs.length = 8 := hxl.trans rfl
 obtain ⟨y0, e0⟩ := some_of (l := xs) (i := 0) (by omega)
 have h0 := fld hf (i := 0) 3 0 1 rfl rfl rfl (by kernel_rfl) e0
 obtain ⟨y1, e1⟩ := some_of (l := xs) (i := 1) (by omega)
 have h1 := fld hf (i := 1) 3 1 1 rfl rfl rfl (by kernel_rfl) e1
 obtain ⟨y2, e2⟩ := some_of (l := xs) (i := 2) (by omega)
 have h2 := fld hf (i := 2) 3 2 1 rfl rfl rfl (by kernel_rfl) e2
 obtain ⟨y3, e3⟩ := some_of (l := xs) (i := 3) (by omega)
 have h3 := fld hf (i := 3) 3 3 1 rfl rfl rfl (by kernel_rfl) e3
 obtain ⟨y4, e4⟩ := some_of (l := xs) (i := 4) (by omega)
 have h4 := fld hf (i := 4) 25 4 2 rfl rfl rfl (by kernel_rfl) e4
 obtain ⟨y5, e5⟩ := some_of (l := xs) (i := 5) (by omega)
 have h5 := fld hf (i := 5) 25 6 2 rfl rfl rfl (by kernel_rfl) e5
 obtain ⟨y6, e6⟩ := some_of (l := xs) (i := 6) (by omega)
 have h6 := fld hf (i := 6) 3 8 1 rfl rfl rfl (by kernel_rfl) e6
 obtain ⟨y7, e7⟩ := some_of (l := xs) (i := 7) (by omega)
 have h7 := fld hf (i := 7) 4 9 1 rfl rfl rfl (by kernel_rfl) e7
 simp only [List.drop_zero, List.drop_succ_cons, List.take_succ_cons, List.take_zero] at h0 h1 h2 h3 h4 h5 h6 h7
 obtain ⟨d, hu0, _⟩ := tr_int Tryz.underlying3 h0
 injection hu0 with u0 _
 obtain ⟨s, hu1, _⟩ := tr_int Tryz.underlying3 h1
 injection hu1 with u1 _
 obtain ⟨e, hu2, _⟩ := tr_int Tryz.underlying3 h2
 injection hu2 with u2 _
 obtain ⟨b, hu3, _⟩ := tr_int Tryz.underlying3 h3
 injection hu3 with u3 _
 obtain ⟨a, hq4⟩ := tr_rg h4
 unfold cR at hq4
 injection hq4 with a4 hq4'
 injection hq4' with b4 _
 obtain ⟨v, hq5⟩ := tr_rg h5
 unfold cR at hq5
 injection hq5 with a5 hq5'
 injection hq5' with b5 _
 obtain ⟨p, hu6, _⟩ := tr_int Tryz.underlying3 h6
 injection hu6 with u6 _
 obtain ⟨bb, hbb⟩ := tr_boo Tryz.underlying4 h7
 injection hbb with ub _
 exact ⟨⟨d, s, e, b, a, v, p, bb⟩, by rw [u0, u1, u2, u3, a4, b4, a5, b5, u6, ub]; rfl⟩
set_option maxRecDepth 100000 in
theorem open_tube {v : Value} {d : DataW H} {p : List MemPlace} (hv : Value.okWide Tryz.prog w r b0 29 v) (h : DataW.Trod enc Tryz.prog w base spare held 29 v d p) :
  ∃ (t : Tb) (Ab Ad : Option Addr) (cb cd : Nat), v = .agg #[.int .i64 t.g.base, .slice Ab t.g.bands.length cb, .slice Ad t.g.depths.length cd, .int .i64 t.g.blo, .int .i64 t.g.bhi, .int .i64 t.k.lo, .int .i64 t.k.hi, .int .i64 t.lag.lo, .int .i64 t.lag.hi, .int .i64 t.sq.lo, .int .i64 t.sq.hi, .int .i64 t.term] ∧ GlIn w w.heap.size t.g Ab Ad := by
 obtain ⟨cs, rfl, hsz⟩ := okWide_struct Tryz.underlying29 hv
 obtain ⟨l⟩ := cs
 obtain ⟨fuel, hf⟩ := h
 obtain ⟨t, Ab, Ad, cb, cd, hc, hg⟩ := tr_tube hf
 exact ⟨t, Ab, Ad, cb, cd, congrArg (fun l => Value.agg (List.toArray l)) hc, hg⟩
set_option maxRecDepth 100000 in
theorem open_reading {v : Value} {d : DataW H} {p : List MemPlace} (hv : Value.okWide Tryz.prog w r b0 33 v) (h : DataW.Trod enc Tryz.prog w base spare held 33 v d p) :
  ∃ q : Rd, v = .agg #[.int .i64 q.day, .int .i64 q.shown, .int .i64 q.err, .int .i64 q.bare, .int .i64 q.air.lo, .int .i64 q.air.hi, .int .i64 q.rate.lo, .int .i64 q.rate.hi, .int .i64 q.deep, .bool q.broken] := by
 obtain ⟨cs, rfl, hsz⟩ := okWide_struct Tryz.underlying33 hv
 obtain ⟨l⟩ := cs
 obtain ⟨fuel, hf⟩ := h
 obtain ⟨q, hc⟩ := tr_rd hf
 exact ⟨q, congrArg (fun l => Value.agg (List.toArray l)) (show l = cRd q from hc)⟩
instance : Inhabited Rd := ⟨⟨0, 0, 0, 0, ⟨0, 0⟩, ⟨0, 0⟩, 0, false⟩⟩
theorem gE_at {l : List Rd} {k : Nat} (hk : k < l.length) : gE l k = l[k] := by simp [gE, hk]
end
end Go.Proofs.YtkaogjhnogkcdaaGreat
end

section
namespace Go.Proofs.YtkaogjhnogkcdaaGreat
open Go.RowKit
attribute [local go_sem] Ex.cell? Ex.frozen?

theorem play_eq (r : Rd) (x : Tx) : r.shown + x.off - x.zero + stemP r x.k x.air + x.rate * x.lag - x.sq * r.deep = playW r x := by unfold playW woP Tx.ki; dsimp only; generalize x.rate * x.lag = a; generalize x.sq * r.deep = b; generalize stemP r x.k x.air = c; omega
set_option maxRecDepth 100000 in
set_option maxHeartbeats 3200000 in
theorem sr_play (r : Rd) (x : Tx) (w : World) (hr : RdBd r) (hk : KiBd x.ki) (ha : -100 ≤ x.air ∧ x.air ≤ 100) (hra : -20 ≤ x.rate ∧ x.rate ≤ 20) (ho : -1000000 ≤ x.off ∧ x.off ≤ 1000000) (hz : -1000000 ≤ x.zero ∧ x.zero ≤ 1000000) :
  Calls Tryz.prog 45 #[.agg #[.int .i64 r.day, .int .i64 r.shown, .int .i64 r.err, .int .i64 r.bare, .int .i64 r.air.lo, .int .i64 r.air.hi, .int .i64 r.rate.lo, .int .i64 r.rate.hi, .int .i64 r.deep, .bool r.broken], .agg #[.int .i64 x.zero, .int .i64 x.k, .int .i64 x.lag, .int .i64 x.sq, .int .i64 x.air, .int .i64 x.rate, .int .i64 x.off]] w fun e w' => e = .returned (.int .i64 (playW r x)) ∧ Below w.heap.size w w' := by
 have b1 := (stem_bd hr hk.k ha).2.2
 have b2 : -100 ≤ x.rate * x.lag ∧ x.rate * x.lag ≤ 100 := late_bd hk hra
 have b3 : 0 ≤ x.sq * r.deep ∧ x.sq * r.deep ≤ 60 := deep_bd hk hr
 have b4 := hr.shown
 have hkk : 0 ≤ x.k ∧ x.k ≤ 20 := hk.k
 change -360 ≤ stemP r x.k x.air ∧ stemP r x.k x.air ≤ 360 at b1
 have HE := Lib.hid (play_eq r x)
 go_enter Tryz.func45, Tryz.ntmps45
 go_upto_region 1 with fail
 show Code.wp _ _ _ _ _
 refine box2 (K := fun V => Code.wp _ _ _ _ V) ?_
 intro V hb1 q1 q2
 obtain ⟨pq1, hpq1⟩ : ∃ p, w.heap.size = p := ⟨_, rfl⟩
 obtain ⟨pq2, hpq2⟩ : ∃ p, w.heap.size + 1 = p := ⟨_, rfl⟩
 rw [hpq2] at q2 ⊢
 rw [hpq1] at q1 ⊢
 have hp1 : w.heap.size ≤ pq1 := by omega
 have hp2 : w.heap.size ≤ pq2 := by omega
 clear hpq1 hpq2
 have a0 : V.cell? ⟨pq1, 0, none⟩ = some (.int .i64 r.day) := q1.cell 0
 have a1 : V.cell? ⟨pq1, 1, none⟩ = some (.int .i64 r.shown) := q1.cell 1
 have a2 : V.cell? ⟨pq1, 2, none⟩ = some (.int .i64 r.err) := q1.cell 2
 have a3 : V.cell? ⟨pq1, 3, none⟩ = some (.int .i64 r.bare) := q1.cell 3
 have a4 : V.cell? ⟨pq1, 4, none⟩ = some (.int .i64 r.air.lo) := q1.cell 4
 have a5 : V.cell? ⟨pq1, 5, none⟩ = some (.int .i64 r.air.hi) := q1.cell 5
 have a6 : V.cell? ⟨pq1, 6, none⟩ = some (.int .i64 r.rate.lo) := q1.cell 6
 have a7 : V.cell? ⟨pq1, 7, none⟩ = some (.int .i64 r.rate.hi) := q1.cell 7
 have a8 : V.cell? ⟨pq1, 8, none⟩ = some (.int .i64 r.deep) := q1.cell 8
 have a9 : V.cell? ⟨pq1, 9, none⟩ = some (.bool r.broken) := q1.cell 9
 have la := q1.lt
 have b0 : V.cell? ⟨pq2, 0, none⟩ = some (.int .i64 x.zero) := q2.cell 0
 have b1 : V.cell? ⟨pq2, 1, none⟩ = some (.int .i64 x.k) := q2.cell 1
 have b2 : V.cell? ⟨pq2, 2, none⟩ = some (.int .i64 x.lag) := q2.cell 2
 have b3 : V.cell? ⟨pq2, 3, none⟩ = some (.int .i64 x.sq) := q2.cell 3
 have b4 : V.cell? ⟨pq2, 4, none⟩ = some (.int .i64 x.air) := q2.cell 4
 have b5 : V.cell? ⟨pq2, 5, none⟩ = some (.int .i64 x.rate) := q2.cell 5
 have b6 : V.cell? ⟨pq2, 6, none⟩ = some (.int .i64 x.off) := q2.cell 6
 have lb := q2.lt
 go_wp2_with fail
 refine wp_region_ext (by kernel_rfl) (by kernel_rfl) ?_
 repeat (go_big_quiet_step ((go_at_call 89; exact Calls.ext_of (sr_stem r x.k x.air _ hr hkk ha))))
 refine wpQuiet_nil ?_; intro _ hw'; obtain ⟨X, rfl⟩ := hw'
 go_wp2
 go_ret
 exact ⟨ret_int HE.out, ex_trans hb1 X.h⟩


end Go.Proofs.YtkaogjhnogkcdaaGreat
end

section
namespace Go.Proofs.YtkaogjhnogkcdaaGreat
open Go.RowKit
attribute [local go_sem] Ex.cell? Ex.frozen?

abbrev stF (r : Rd) (k : Int) (i : Nat) : Int := stemP r k (r.air.lo + (i : Int))
abbrev slF (r : Rd) (lag : Int) (i : Nat) : Int := (r.rate.lo + (i : Int)) * lag
def stW (r : Rd) (k : Int) (n : Nat) : Rg := wdTo (fun i => stemP r k (r.air.lo + (i : Int))) n
def slW (r : Rd) (lag : Int) (n : Nat) : Rg := wdTo (fun i => (r.rate.lo + (i : Int)) * lag) n
end Go.Proofs.YtkaogjhnogkcdaaGreat
end

section
namespace Go.Proofs.YtkaogjhnogkcdaaGreat
open Go.RowKit
attribute [local go_sem] Ex.cell? Ex.frozen?

end Go.Proofs.YtkaogjhnogkcdaaGreat
end

section
namespace Go.Proofs.YtkaogjhnogkcdaaGreat
open Go.RowKit
attribute [local go_sem] Ex.cell? Ex.frozen?

set_option maxRecDepth 100000 in
set_option maxHeartbeats 3200000 in
theorem sr_stale (t : Tb) (Ab Ad : Option Addr) (cb cd : Nat) (Ai : Option Addr) (ci : Nat) (l : List Ic) (r : Rd) (w : World) (hi : SlAt w w.heap.size 3 Ai l.length (fC l)) (hl : l.length ≤ 1000000) (hd : 0 ≤ r.day ∧ r.day ≤ 1000000) :
  Calls Tryz.prog 34 #[.agg #[.int .i64 t.g.base, .slice Ab t.g.bands.length cb, .slice Ad t.g.depths.length cd, .int .i64 t.g.blo, .int .i64 t.g.bhi, .int .i64 t.k.lo, .int .i64 t.k.hi, .int .i64 t.lag.lo, .int .i64 t.lag.hi, .int .i64 t.sq.lo, .int .i64 t.sq.hi, .int .i64 t.term], .slice Ai l.length ci, .agg #[.int .i64 r.day, .int .i64 r.shown, .int .i64 r.err, .int .i64 r.bare, .int .i64 r.air.lo, .int .i64 r.air.hi, .int .i64 r.rate.lo, .int .i64 r.rate.hi, .int .i64 r.deep, .bool r.broken]] w fun e w' => e = .returned (.bool (staleB t l r.day)) ∧ Below w.heap.size w w' := by
 go_enter Tryz.func34, Tryz.ntmps34
 go_upto_region 1 with fail
 show Code.wp _ _ _ _ _
 refine box2 (K := fun V => Code.wp _ _ _ _ V) ?_
 intro V hb1 q1 q2
 replace hi := (hi.below hb1).up hb1.size
 obtain ⟨pq1, hpq1⟩ : ∃ p, w.heap.size = p := ⟨_, rfl⟩
 obtain ⟨pq2, hpq2⟩ : ∃ p, w.heap.size + 1 = p := ⟨_, rfl⟩
 rw [hpq2] at q2 ⊢
 rw [hpq1] at q1 ⊢
 have hp1 : w.heap.size ≤ pq1 := by omega
 have hp2 : w.heap.size ≤ pq2 := by omega
 clear hpq1 hpq2
 go_wp2_with fail
 go_loopw [7, 8] (fun last i wr => ∃ k : Nat, k ≤ l.length ∧ i = .int .i64 (k : Int) ∧ last = .int .i64 (lastTo l r.day k) ∧ Below w.heap.size w wr ∧ SlAt wr wr.heap.size 3 Ai l.length (fC l) ∧ Blk wr pq1 29 #[.int .i64 t.g.base, .slice Ab t.g.bands.length cb, .slice Ad t.g.depths.length cd, .int .i64 t.g.blo, .int .i64 t.g.bhi, .int .i64 t.k.lo, .int .i64 t.k.hi, .int .i64 t.lag.lo, .int .i64 t.lag.hi, .int .i64 t.sq.lo, .int .i64 t.sq.hi, .int .i64 t.term] ∧ Blk wr pq2 33 #[.int .i64 r.day, .int .i64 r.shown, .int .i64 r.err, .int .i64 r.bare, .int .i64 r.air.lo, .int .i64 r.air.hi, .int .i64 r.rate.lo, .int .i64 r.rate.hi, .int .i64 r.deep, .bool r.broken])
  (fun _ i _ => l.length - (intOf i).toNat)
 case atStart => exact ⟨0, by omega, rfl, rfl, hb1, hi, q1, q2⟩
 case round =>
  clear hi q1 q2 hb1
  obtain ⟨k, hk, rfl, rfl, hbl, hi, q1, q2⟩ := hrel
  have hlb := lastTo_bd (l := l) hd.1 (k := k)
  by_cases hlt : k < l.length
  ·
   obtain ⟨b, off, rfl, hbB, h0, h1, h2⟩ := IsIcs.at_ hi hlt
   have HL := Lib.hid (show lastTo l r.day (k + 1) = if (gC l k).day ≤ r.day then max (lastTo l r.day k) (gC l k).day else lastTo l r.day k from rfl)
   obtain ⟨⟨x, y, z⟩, hx⟩ : ∃ x, gC l k = x := ⟨_, rfl⟩
   rw [hx] at h0 h1 h2
   have HL2 : Hid (lastTo l r.day (k + 1) = if x ≤ r.day then max (lastTo l r.day k) x else lastTo l r.day k) := Lib.hid (by rw [HL.out, hx])
   clear HL hx
   dsimp only at h0 h1 h2
   generalize hg : lastTo l r.day k = last at *
   clear hg
   have b0 := q2.cell 0
   have lb := q2.lt
   simp at b0
   go_wp2_with fail
   refine wp_region_ext (by kernel_rfl) (by kernel_rfl) ?_
   repeat (go_big_quiet_step (fail))
   refine wpQuiet_nil ?_; intro _ hw'; obtain ⟨X, rfl⟩ := hw'
   by_cases hxd : x ≤ r.day
   ·
    rw [if_pos hxd] at HL2
    have hxd' : decide (x ≤ r.day) = true := decide_eq_true hxd
    go_wp2
    go_roundw
    case rel => exact ⟨k + 1, by omega, by go_num, by rw [HL2.out], ex_trans hbl X.h, hi.go X.h, q1.below X.h q1.lt, q2.below X.h q2.lt⟩
    case measure => simp [intOf]; omega
   ·
    rw [if_neg hxd] at HL2
    have hxd' : decide (x ≤ r.day) = false := decide_eq_false hxd
    go_wp2
    go_roundw
    case rel => exact ⟨k + 1, by omega, by go_num, by rw [HL2.out], ex_trans hbl X.h, hi.go X.h, q1.below X.h q1.lt, q2.below X.h q2.lt⟩
    case measure => simp [intOf]; omega
  ·
   have HK : Hid (k = l.length) := Lib.hid (by omega)
   have HR : Hid (staleB t l r.day = decide (t.term < r.day - lastTo l r.day k)) := Lib.hid (by rw [HK.out]; rfl)
   have a11 := q1.cell 11
   have la := q1.lt
   have b0 := q2.cell 0
   have lb := q2.lt
   simp at a11 b0
   go_wp2
   go_ret
   exact ⟨ret_bool HR.out.symm, hbl⟩

end Go.Proofs.YtkaogjhnogkcdaaGreat
end

section
namespace Go.Proofs.YtkaogjhnogkcdaaGreat
open Go.RowKit
attribute [local go_sem] Ex.cell? Ex.frozen?

set_option maxRecDepth 100000 in
set_option maxHeartbeats 3200000 in
theorem sr_Tube (t : Tb) (Ab Ad : Option Addr) (cb cd : Nat) (w : World) (hg : GlIn w w.heap.size t.g Ab Ad) (hnb : t.g.bands.length ≤ 1000) (hnd : t.g.depths.length ≤ 1000) :
  Calls Tryz.prog 18 #[.agg #[.int .i64 t.g.base, .slice Ab t.g.bands.length cb, .slice Ad t.g.depths.length cd, .int .i64 t.g.blo, .int .i64 t.g.bhi, .int .i64 t.k.lo, .int .i64 t.k.hi, .int .i64 t.lag.lo, .int .i64 t.lag.hi, .int .i64 t.sq.lo, .int .i64 t.sq.hi, .int .i64 t.term]] w fun e w' => (∃ Ab' Ad' cb' cd', e = .returned (.agg #[.int .i64 t.g.base, .slice Ab' t.g.bands.length cb', .slice Ad' t.g.depths.length cd', .int .i64 t.g.blo, .int .i64 t.g.bhi, .int .i64 t.k.lo, .int .i64 t.k.hi, .int .i64 t.lag.lo, .int .i64 t.lag.hi, .int .i64 t.sq.lo, .int .i64 t.sq.hi, .int .i64 t.term]) ∧ GlIn w' w'.heap.size t.g Ab' Ad') ∧ Below w.heap.size w w' := by
 go_enter Tryz.func18, Tryz.ntmps18
 go_upto_region 1 with fail
 show Code.wp _ _ _ _ _
 refine box2 (K := fun V => Code.wp _ _ _ _ V) ?_
 intro V hb1 q1 q3
 replace hg := hg.go hb1
 obtain ⟨pq1, hpq1⟩ : ∃ p, w.heap.size = p := ⟨_, rfl⟩
 obtain ⟨pq3, hpq3⟩ : ∃ p, w.heap.size + 1 = p := ⟨_, rfl⟩
 rw [hpq3] at q3 ⊢
 rw [hpq1] at q1 ⊢
 have hp1 : w.heap.size ≤ pq1 := by omega
 have hp3 : w.heap.size ≤ pq3 := by omega
 clear hpq1 hpq3
 have a0 : V.cell? ⟨pq1, 0, none⟩ = some (.int .i64 t.g.base) := q1.cell 0
 have a1 : V.cell? ⟨pq1, 1, none⟩ = some (.slice Ab t.g.bands.length cb) := q1.cell 1
 have a2 : V.cell? ⟨pq1, 2, none⟩ = some (.slice Ad t.g.depths.length cd) := q1.cell 2
 have a3 : V.cell? ⟨pq1, 3, none⟩ = some (.int .i64 t.g.blo) := q1.cell 3
 have a4 : V.cell? ⟨pq1, 4, none⟩ = some (.int .i64 t.g.bhi) := q1.cell 4
 have a5 : V.cell? ⟨pq1, 5, none⟩ = some (.int .i64 t.k.lo) := q1.cell 5
 have a6 : V.cell? ⟨pq1, 6, none⟩ = some (.int .i64 t.k.hi) := q1.cell 6
 have a7 : V.cell? ⟨pq1, 7, none⟩ = some (.int .i64 t.lag.lo) := q1.cell 7
 have a8 : V.cell? ⟨pq1, 8, none⟩ = some (.int .i64 t.lag.hi) := q1.cell 8
 have a9 : V.cell? ⟨pq1, 9, none⟩ = some (.int .i64 t.sq.lo) := q1.cell 9
 have a10 : V.cell? ⟨pq1, 10, none⟩ = some (.int .i64 t.sq.hi) := q1.cell 10
 have a11 : V.cell? ⟨pq1, 11, none⟩ = some (.int .i64 t.term) := q1.cell 11
 have la := q1.lt
 have lq3 := q3.lt
 go_wp2_with fail
 refine wp_region_ext_tq 15 (.quiet 0 (.quiet 1 (.quiet 3 (.quiet 4 (.quiet 6 (.quiet 7 (.quiet 9 (.quiet 10 (.quiet 12 (.quiet 13 (.loud 2 (.loud 5 (.loud 8 (.loud 11 (.quiet 14 .done))))))))))))))) (by kernel_rfl) (by kernel_rfl) (by intro d _ _ _ _ h; cases d <;> exact h) ?_
 have D0 := (Below.refl V.heap.size V).drew
 repeat (refine tq_quiet rfl ?_; go_big_quiet_step (fail); refine wpQuiet_nil ?_)
 refine tq_loud rfl ?_
 go_wp2_with fail
 refine (Glass_y t.g Ab Ad cb cd _ (hg.go (((Below.refl V.heap.size V)).drew)) hnb hnd).mono ?_
 rintro e V1 ⟨⟨Ab', Ad', cb', cd', rfl, hg', yB, yD⟩, hV1⟩
 have N2 := ex_trans ((Below.refl V.heap.size V)).drew hV1
 go_wp2_with fail
 refine ⟨inEx N2, ?_⟩
 repeat (refine tq_quiet rfl ?_; go_big_quiet_step (fail); refine wpQuiet_nil ?_)
 refine tq_loud rfl ?_
 go_wp2_with fail
 refine (sr_to t.k _).mono ?_
 rintro e V2 ⟨rfl, hV2⟩
 have N5 := ex_trans N2 hV2
 go_wp2_with fail
 replace hg' := hg'.go hV2
 refine ⟨inEx N5, ?_⟩
 repeat (refine tq_quiet rfl ?_; go_big_quiet_step (fail); refine wpQuiet_nil ?_)
 refine tq_loud rfl ?_
 go_wp2_with fail
 refine (sr_to t.lag _).mono ?_
 rintro e V3 ⟨rfl, hV3⟩
 have N8 := ex_trans N5 hV3
 go_wp2_with fail
 replace hg' := hg'.go hV3
 refine ⟨inEx N8, ?_⟩
 repeat (refine tq_quiet rfl ?_; go_big_quiet_step (fail); refine wpQuiet_nil ?_)
 refine tq_loud rfl ?_
 go_wp2_with fail
 refine (sr_to t.sq _).mono ?_
 rintro e V4 ⟨rfl, hV4⟩
 have N11 := ex_trans N8 hV4
 go_wp2_with fail
 replace hg' := hg'.go hV4
 refine ⟨inEx N11, ?_⟩
 repeat (refine tq_quiet rfl ?_; go_big_quiet_step (fail); refine wpQuiet_nil ?_)
 refine tq_done (r := [_]) rfl ?_
 have XX := N11
 have XS := XX.size
 replace q1 := q1.below XX q1.lt
 replace q3 := q3.below XX q3.lt
 replace hg := hg.go XX
 have B_V5 := ex_trans hb1 XX
 clear a0 a1 a2 a3 a4 a5 a6 a7 a8 a9 a10 a11 la
 clear D0 XX XS hV4 N11 hV3 N8 hV2 N5 hV1 N2 
 generalize V4 = V5 at *
 go_wp2_with (refine pause_store 45 rfl ?_)
 refine Paused.mk ?_
 refine wpList_store_row rfl 45 _ _ rfl _ #[.int .i64 t.g.base, .slice Ab' t.g.bands.length cb', .slice Ad' t.g.depths.length cd', .int .i64 t.g.blo, .int .i64 t.g.bhi, .int .i64 t.k.lo, .int .i64 t.k.hi, .int .i64 t.lag.lo, .int .i64 t.lag.hi, .int .i64 t.sq.lo, .int .i64 t.sq.hi, .int .i64 t.term] (by kernel_rfl) (by kernel_rfl) 45 _ q3 (by kernel_rfl) (by kernel_rfl) (by kernel_rfl) ?_
 have m3 := q3.setRow #[.int .i64 t.g.base, .slice Ab' t.g.bands.length cb', .slice Ad' t.g.depths.length cd', .int .i64 t.g.blo, .int .i64 t.g.bhi, .int .i64 t.k.lo, .int .i64 t.k.hi, .int .i64 t.lag.lo, .int .i64 t.lag.hi, .int .i64 t.sq.lo, .int .i64 t.sq.hi, .int .i64 t.term]
 have XZ := ex_row B_V5 hp3 #[.int .i64 t.g.base, .slice Ab' t.g.bands.length cb', .slice Ad' t.g.depths.length cd', .int .i64 t.g.blo, .int .i64 t.g.bhi, .int .i64 t.k.lo, .int .i64 t.k.hi, .int .i64 t.lag.lo, .int .i64 t.lag.hi, .int .i64 t.sq.lo, .int .i64 t.sq.hi, .int .i64 t.term]
 go_wp2
 refine bodyPost_ret (results_cell_row rfl _ _ _ 45 #[.int .i64 t.g.base, .slice Ab' t.g.bands.length cb', .slice Ad' t.g.depths.length cd', .int .i64 t.g.blo, .int .i64 t.g.bhi, .int .i64 t.k.lo, .int .i64 t.k.hi, .int .i64 t.lag.lo, .int .i64 t.lag.hi, .int .i64 t.sq.lo, .int .i64 t.sq.hi, .int .i64 t.term] (0, 0) _ rfl m3 rfl rfl rfl) rfl ?_
 exact ⟨⟨Ab', Ad', cb', cd', rfl, ⟨SlAt.offRow hg'.1 (yB.mono lq3) _, SlAt.offRow hg'.2 (yD.mono lq3) _⟩⟩, XZ⟩

set_option maxRecDepth 100000 in
set_option maxHeartbeats 1600000 in
theorem sr_spring (w : World) : Calls Tryz.prog 57 #[] w fun e w' => (∃ A, e = .returned (.slice A 4 4) ∧ SlAt w' w'.heap.size 2 A springH.length (fR springH)) ∧ Below w.heap.size w w' := by
 go_enter Tryz.func57, Tryz.ntmps57
 go_wp2_with fail
 refine (sr_between _ _ _).mono ?_
 rintro e w1 ⟨rfl, hb1⟩
 go_wp2_with fail
 refine (sr_between _ _ _).mono ?_
 rintro e w2 ⟨rfl, hb2⟩
 go_wp2_with fail
 refine (sr_between _ _ _).mono ?_
 rintro e w3 ⟨rfl, hb3⟩
 go_wp2_with fail
 refine (sr_between _ _ _).mono ?_
 rintro e w4 ⟨rfl, hb4⟩
 go_wp2
 go_ret
 refine ⟨⟨_, rfl, fun _ => ⟨w4.heap.size, 0, rfl, by simp, fun k j hk hj => ?_⟩⟩, ex_alloc (ex_trans (ex_trans (ex_trans hb1 hb2) hb3) hb4) _⟩
 rw [cell_of_row _ _ _ _ _ _ (heap_alloc_new w4 _)]
 have hk' : k < 4 := hk
 match k, hk', j, hj with
 | 0, _, 0, _ => rfl
 | 0, _, 1, _ => rfl
 | 1, _, 0, _ => rfl
 | 1, _, 1, _ => rfl
 | 2, _, 0, _ => rfl
 | 2, _, 1, _ => rfl
 | 3, _, 0, _ => rfl
 | 3, _, 1, _ => rfl
def rodT : Tb := ⟨tubeG, ⟨15, 17⟩, ⟨1, 2⟩, ⟨0, 1⟩, 2⟩
def shownR : Rd := ⟨2, 2000, 2, 100, ⟨20, 30⟩, ⟨0, 3⟩, 2, false⟩
set_option maxRecDepth 100000 in
set_option maxHeartbeats 1600000 in
theorem sr_shown (w : World) : Calls Tryz.prog 56 #[] w fun e w' => e = .returned (.agg #[.int .i64 2, .int .i64 2000, .int .i64 2, .int .i64 100, .int .i64 20, .int .i64 30, .int .i64 0, .int .i64 3, .int .i64 2, .bool false]) ∧ Below w.heap.size w w' := by
 go_enter Tryz.func56, Tryz.ntmps56
 go_upto_region 1 with fail
 show Code.wp _ _ _ _ _
 refine box1 (K := fun V => Code.wp _ _ _ _ V) ?_
 intro V hb1 q3
 obtain ⟨pq3, hpq3⟩ : ∃ p, w.heap.size = p := ⟨_, rfl⟩
 rw [hpq3] at q3 ⊢
 have hp3 : w.heap.size ≤ pq3 := by omega
 clear hpq3
 go_wp2_with fail
 refine (sr_between _ _ _).mono ?_
 rintro e V1 ⟨rfl, hV1⟩
 replace q3 := q3.below hV1 q3.lt
 have B_V1 := ex_trans hb1 hV1
 go_wp2_with fail
 refine (sr_between _ _ _).mono ?_
 rintro e V2 ⟨rfl, hV2⟩
 replace q3 := q3.below hV2 q3.lt
 have B_V2 := ex_trans B_V1 hV2
 go_wp2_with (refine pause_store 52 rfl ?_)
 refine Paused.mk ?_
 refine wpList_store_row rfl 52 _ _ rfl _ #[.int .i64 2, .int .i64 2000, .int .i64 2, .int .i64 100, .int .i64 20, .int .i64 30, .int .i64 0, .int .i64 3, .int .i64 2, .bool false] (by kernel_rfl) (by kernel_rfl) 52 _ q3 (by kernel_rfl) (by kernel_rfl) (by kernel_rfl) ?_
 have m3 := q3.setRow #[.int .i64 2, .int .i64 2000, .int .i64 2, .int .i64 100, .int .i64 20, .int .i64 30, .int .i64 0, .int .i64 3, .int .i64 2, .bool false]
 have XZ := ex_row B_V2 hp3 #[.int .i64 2, .int .i64 2000, .int .i64 2, .int .i64 100, .int .i64 20, .int .i64 30, .int .i64 0, .int .i64 3, .int .i64 2, .bool false]
 go_wp2
 refine bodyPost_ret (results_cell_row rfl _ _ _ 52 #[.int .i64 2, .int .i64 2000, .int .i64 2, .int .i64 100, .int .i64 20, .int .i64 30, .int .i64 0, .int .i64 3, .int .i64 2, .bool false] (0, 0) _ rfl m3 rfl rfl rfl) rfl ?_
 exact ⟨rfl, XZ⟩

set_option maxRecDepth 100000 in
set_option maxHeartbeats 3200000 in
theorem sr_rod (w : World) : Calls Tryz.prog 55 #[] w fun e w' => (∃ Ab Ad, e = .returned (.agg #[.int .i64 0, .slice Ab 2 2, .slice Ad 2 2, .int .i64 2, .int .i64 4, .int .i64 15, .int .i64 17, .int .i64 1, .int .i64 2, .int .i64 0, .int .i64 1, .int .i64 2]) ∧ GlIn w' w'.heap.size tubeG Ab Ad) ∧ Below w.heap.size w w' := by
 go_enter Tryz.func55, Tryz.ntmps55
 go_upto_region 1 with fail
 show Code.wp _ _ _ _ _
 refine box1 (K := fun V => Code.wp _ _ _ _ V) ?_
 intro V hb1 q3
 obtain ⟨pq3, hpq3⟩ : ∃ p, w.heap.size = p := ⟨_, rfl⟩
 rw [hpq3] at q3 ⊢
 have hp3 : w.heap.size ≤ pq3 := by omega
 clear hpq3
 go_wp2_with fail
 refine (sr_between _ _ _).mono ?_
 rintro e V1 ⟨rfl, hV1⟩
 replace q3 := q3.below hV1 q3.lt
 have B_V1 := ex_trans hb1 hV1
 go_wp2_with fail
 refine (sr_between _ _ _).mono ?_
 rintro e V2 ⟨rfl, hV2⟩
 replace q3 := q3.below hV2 q3.lt
 have B_V2 := ex_trans B_V1 hV2
 have NB := ex_alloc (ex_alloc (Below.refl V2.heap.size V2) (.cells #[.int .i64 0, .int .i64 1, .int .i64 2, .int .i64 3, .int .i64 0, .int .i64 1] 161)) (.cells #[.int .i64 100, .int .i64 10, .int .i64 300, .int .i64 25] 164)
 have qb : Blk ((V2.alloc (.cells #[.int .i64 0, .int .i64 1, .int .i64 2, .int .i64 3, .int .i64 0, .int .i64 1] 161)).alloc (.cells #[.int .i64 100, .int .i64 10, .int .i64 300, .int .i64 25] 164)) V2.heap.size 161 #[.int .i64 0, .int .i64 1, .int .i64 2, .int .i64 3, .int .i64 0, .int .i64 1] := (Blk.new _ _ _).alloc _
 have qd : Blk ((V2.alloc (.cells #[.int .i64 0, .int .i64 1, .int .i64 2, .int .i64 3, .int .i64 0, .int .i64 1] 161)).alloc (.cells #[.int .i64 100, .int .i64 10, .int .i64 300, .int .i64 25] 164)) (V2.heap.size + 1) 164 #[.int .i64 100, .int .i64 10, .int .i64 300, .int .i64 25] := Blk.new' _ _ _ (by simp)
 have n3b : V2.heap.size ≠ pq3 := by have := q3.lt; omega
 have n3d : V2.heap.size + 1 ≠ pq3 := by have := q3.lt; omega
 go_wp2_with fail
 obtain ⟨pb, hpb⟩ : ∃ p, V2.heap.size = p := ⟨_, rfl⟩
 rw [hpb] at qb qd NB n3b n3d ⊢
 obtain ⟨pd, hpd⟩ : ∃ p, pb + 1 = p := ⟨_, rfl⟩
 rw [hpd] at qd n3d ⊢
 replace q3 := q3.below (hpb ▸ NB) q3.lt
 have hb5 := ex_trans B_V2 (hpb ▸ NB)
 clear NB hpb hpd
 generalize ((V2.alloc (.cells #[.int .i64 0, .int .i64 1, .int .i64 2, .int .i64 3, .int .i64 0, .int .i64 1] 161)).alloc (.cells #[.int .i64 100, .int .i64 10, .int .i64 300, .int .i64 25] 164)) = W2 at *
 refine (sr_between _ _ _).mono ?_
 rintro e V3 ⟨rfl, hV3⟩
 replace q3 := q3.below hV3 q3.lt
 replace qb := qb.below hV3 qb.lt
 replace qd := qd.below hV3 qd.lt
 have B_V3 := ex_trans hb5 hV3
 have NG := ex_alloc (Below.refl V3.heap.size V3) (.cells #[.int .i64 0, .slice (some ⟨pb, 0, none⟩) 2 2, .slice (some ⟨pd, 0, none⟩) 2 2, .int .i64 2, .int .i64 4] 43)
 have qg : Blk (V3.alloc (.cells #[.int .i64 0, .slice (some ⟨pb, 0, none⟩) 2 2, .slice (some ⟨pd, 0, none⟩) 2 2, .int .i64 2, .int .i64 4] 43)) V3.heap.size 43 #[.int .i64 0, .slice (some ⟨pb, 0, none⟩) 2 2, .slice (some ⟨pd, 0, none⟩) 2 2, .int .i64 2, .int .i64 4] := Blk.new _ _ _
 go_wp2_with fail
 obtain ⟨pg, hpg⟩ : ∃ p, V3.heap.size = p := ⟨_, rfl⟩
 rw [hpg] at qg ⊢
 clear hpg
 replace q3 := q3.below NG q3.lt
 replace qb := qb.below NG qb.lt
 replace qd := qd.below NG qd.lt
 have hb6 := ex_trans B_V3 NG
 clear NG
 generalize V3.alloc (.cells #[.int .i64 0, .slice (some ⟨pb, 0, none⟩) 2 2, .slice (some ⟨pd, 0, none⟩) 2 2, .int .i64 2, .int .i64 4] 43) = W3 at *
 have g0 := qg.cell 0
 have g1 := qg.cell 1
 have g2 := qg.cell 2
 have g3 := qg.cell 3
 have g4 := qg.cell 4
 have lg := qg.lt
 simp at g0 g1 g2 g3 g4
 refine wp_region_ext_tq 5 (.quiet 0 (.loud 1 (.loud 2 (.loud 3 (.quiet 4 .done))))) (by kernel_rfl) (by kernel_rfl) (by intro d _ _ _ _ h; cases d <;> exact h) ?_
 have D0 := (Below.refl W3.heap.size W3).drew
 repeat (refine tq_quiet rfl ?_; go_big_quiet_step (fail); refine wpQuiet_nil ?_)
 refine tq_loud rfl ?_
 go_wp2_with fail
 refine (sr_between _ _ _).mono ?_
 rintro e V4 ⟨rfl, hV4⟩
 have N1 := ex_trans ((Below.refl W3.heap.size W3)).drew hV4
 go_wp2_with fail
 refine ⟨inEx N1, ?_⟩
 repeat (refine tq_quiet rfl ?_; go_big_quiet_step (fail); refine wpQuiet_nil ?_)
 refine tq_loud rfl ?_
 go_wp2_with fail
 refine (sr_between _ _ _).mono ?_
 rintro e V5 ⟨rfl, hV5⟩
 have N2 := ex_trans N1 hV5
 go_wp2_with fail
 refine ⟨inEx N2, ?_⟩
 repeat (refine tq_quiet rfl ?_; go_big_quiet_step (fail); refine wpQuiet_nil ?_)
 refine tq_loud rfl ?_
 go_wp2_with fail
 refine (sr_between _ _ _).mono ?_
 rintro e V6 ⟨rfl, hV6⟩
 have N3 := ex_trans N2 hV6
 go_wp2_with fail
 refine ⟨inEx N3, ?_⟩
 repeat (refine tq_quiet rfl ?_; go_big_quiet_step (fail); refine wpQuiet_nil ?_)
 refine tq_done (r := [_]) rfl ?_
 have XX := N3
 have XS := XX.size
 replace q3 := q3.below XX q3.lt
 replace qb := qb.below XX qb.lt
 replace qd := qd.below XX qd.lt
 replace qg := qg.below XX qg.lt
 have B_V7 := ex_trans hb6 XX
 clear D0 XX XS hV6 N3 hV5 N2 hV4 N1 
 generalize V6 = V7 at *
 go_wp2_with (refine pause_store 45 rfl ?_)
 refine Paused.mk ?_
 refine wpList_store_row rfl 45 _ _ rfl _ #[.int .i64 0, .slice (some ⟨pb, 0, none⟩) 2 2, .slice (some ⟨pd, 0, none⟩) 2 2, .int .i64 2, .int .i64 4, .int .i64 15, .int .i64 17, .int .i64 1, .int .i64 2, .int .i64 0, .int .i64 1, .int .i64 2] (by kernel_rfl) (by kernel_rfl) 45 _ q3 (by kernel_rfl) (by kernel_rfl) (by kernel_rfl) ?_
 have m3 := q3.setRow #[.int .i64 0, .slice (some ⟨pb, 0, none⟩) 2 2, .slice (some ⟨pd, 0, none⟩) 2 2, .int .i64 2, .int .i64 4, .int .i64 15, .int .i64 17, .int .i64 1, .int .i64 2, .int .i64 0, .int .i64 1, .int .i64 2]
 have XZ := ex_row B_V7 hp3 #[.int .i64 0, .slice (some ⟨pb, 0, none⟩) 2 2, .slice (some ⟨pd, 0, none⟩) 2 2, .int .i64 2, .int .i64 4, .int .i64 15, .int .i64 17, .int .i64 1, .int .i64 2, .int .i64 0, .int .i64 1, .int .i64 2]
 go_wp2
 refine bodyPost_ret (results_cell_row rfl _ _ _ 45 #[.int .i64 0, .slice (some ⟨pb, 0, none⟩) 2 2, .slice (some ⟨pd, 0, none⟩) 2 2, .int .i64 2, .int .i64 4, .int .i64 15, .int .i64 17, .int .i64 1, .int .i64 2, .int .i64 0, .int .i64 1, .int .i64 2] (0, 0) _ rfl m3 rfl rfl rfl) rfl ?_
 have sb := (qb.offRow n3b #[.int .i64 0, .slice (some ⟨pb, 0, none⟩) 2 2, .slice (some ⟨pd, 0, none⟩) 2 2, .int .i64 2, .int .i64 4, .int .i64 15, .int .i64 17, .int .i64 1, .int .i64 2, .int .i64 0, .int .i64 1, .int .i64 2])
 have sd := (qd.offRow n3d #[.int .i64 0, .slice (some ⟨pb, 0, none⟩) 2 2, .slice (some ⟨pd, 0, none⟩) 2 2, .int .i64 2, .int .i64 4, .int .i64 15, .int .i64 17, .int .i64 1, .int .i64 2, .int .i64 0, .int .i64 1, .int .i64 2])
 refine ⟨⟨_, _, rfl, ⟨fun _ => ⟨pb, 0, rfl, sb.lt, fun k j hk hj => ?_⟩, fun _ => ⟨pd, 0, rfl, sd.lt, fun k j hk hj => ?_⟩⟩⟩, XZ⟩
 ·
  rw [cell_of_row _ _ _ _ _ _ sb]
  have hk' : k < 2 := hk
  match k, hk', j, hj with
  | 0, _, 0, _ => rfl
  | 0, _, 1, _ => rfl
  | 0, _, 2, _ => rfl
  | 1, _, 0, _ => rfl
  | 1, _, 1, _ => rfl
  | 1, _, 2, _ => rfl
 ·
  rw [cell_of_row _ _ _ _ _ _ sd]
  have hk' : k < 2 := hk
  match k, hk', j, hj with
  | 0, _, 0, _ => rfl
  | 0, _, 1, _ => rfl
  | 1, _, 0, _ => rfl
  | 1, _, 1, _ => rfl


end Go.Proofs.YtkaogjhnogkcdaaGreat
end

section
namespace Go.Proofs.YtkaogjhnogkcdaaGreat
open Go.RowKit
attribute [local go_sem] Ex.cell? Ex.frozen?

set_option maxRecDepth 100000 in
set_option maxHeartbeats 3200000 in
theorem sm_says (t : Tb) (Ab Ad : Option Addr) (cb cd : Nat) (r : Rd) (q : Ki) (n : Int) (w : World) (hr : RdBd r) (hq : KiBd q) :
    Calls Tryz.prog 101 #[.agg #[.int .i64 t.g.base, .slice Ab t.g.bands.length cb, .slice Ad t.g.depths.length cd, .int .i64 t.g.blo, .int .i64 t.g.bhi, .int .i64 t.k.lo, .int .i64 t.k.hi, .int .i64 t.lag.lo, .int .i64 t.lag.hi, .int .i64 t.sq.lo, .int .i64 t.sq.hi, .int .i64 t.term, .int .i64 r.day, .int .i64 r.shown, .int .i64 r.err, .int .i64 r.bare, .int .i64 r.air.lo, .int .i64 r.air.hi, .int .i64 r.rate.lo, .int .i64 r.rate.hi, .int .i64 r.deep, .bool r.broken], .agg #[.int .i64 q.k, .int .i64 q.lag, .int .i64 q.sq], .int .i64 n] w fun e w' => e = .returned (.bool (saysB r q n)) ∧ Below w.heap.size w w' := by
  go_enter Tryz.func101, Tryz.ntmps101
  go_upto_region 1 with fail
  show Code.wp _ _ _ _ _
  refine box2 (K := fun V => Code.wp _ _ _ _ V) ?_
  intro V hb1 q1 q2
  obtain ⟨pq1, hpq1⟩ : ∃ p, w.heap.size = p := ⟨_, rfl⟩
  obtain ⟨pq2, hpq2⟩ : ∃ p, w.heap.size + 1 = p := ⟨_, rfl⟩
  rw [hpq2] at q2 ⊢
  rw [hpq1] at q1 ⊢
  have hp1 : w.heap.size ≤ pq1 := by omega
  have hp2 : w.heap.size ≤ pq2 := by omega
  clear hpq1 hpq2
  have hrt := hr.rate
  obtain ⟨N, hN⟩ : ∃ N, (r.rate.hi - r.rate.lo + 1).toNat = N := ⟨_, rfl⟩
  have HN := Lib.hid hN
  have hNN : (r.rate.hi - r.rate.lo + 1) = (N : Int) := by omega
  clear hN
  have a18 : V.cell? ⟨pq1, 18, none⟩ = some (.int .i64 r.rate.lo) := q1.cell 18
  have la := q1.lt
  go_wp2_with fail
  clear a18 la
  go_loopw [7] (fun i wr => ∃ k : Nat, k ≤ N ∧ i = .int .i64 (r.rate.lo + (k : Int)) ∧ Hid (∀ j, j < k → sayAt r q n (r.rate.lo + (j : Int)) = false) ∧ Below w.heap.size w wr ∧ Blk wr pq1 170 #[.int .i64 t.g.base, .slice Ab t.g.bands.length cb, .slice Ad t.g.depths.length cd, .int .i64 t.g.blo, .int .i64 t.g.bhi, .int .i64 t.k.lo, .int .i64 t.k.hi, .int .i64 t.lag.lo, .int .i64 t.lag.hi, .int .i64 t.sq.lo, .int .i64 t.sq.hi, .int .i64 t.term, .int .i64 r.day, .int .i64 r.shown, .int .i64 r.err, .int .i64 r.bare, .int .i64 r.air.lo, .int .i64 r.air.hi, .int .i64 r.rate.lo, .int .i64 r.rate.hi, .int .i64 r.deep, .bool r.broken] ∧ Blk wr pq2 137 #[.int .i64 q.k, .int .i64 q.lag, .int .i64 q.sq])
    (fun i _ => (r.rate.lo + (N : Int) - intOf i).toNat)
  case atStart => exact ⟨0, by omega, by simp, Lib.hid (fun j hj => by omega), hb1, q1, q2⟩
  case round =>
    clear q1 q2 hb1
    obtain ⟨k, hk, rfl, HF, hbl, q1, q2⟩ := hrel
    have a19 : wr.cell? ⟨pq1, 19, none⟩ = some (.int .i64 r.rate.hi) := q1.cell 19
    have la := q1.lt
    by_cases hlt : k < N
    · have b0 : wr.cell? ⟨pq2, 0, none⟩ = some (.int .i64 q.k) := q2.cell 0
      have b1 : wr.cell? ⟨pq2, 1, none⟩ = some (.int .i64 q.lag) := q2.cell 1
      have b2 : wr.cell? ⟨pq2, 2, none⟩ = some (.int .i64 q.sq) := q2.cell 2
      have lb := q2.lt
      have hle : r.rate.lo + (k : Int) ≤ r.rate.hi := by omega
      go_wp2_with (refine pause_at 20 rfl ?_)
      refine Paused.mk ?_
      refine wpList_load_row rfl 170 _ rfl _ rfl 170 _ (0, 0) _ (q1) Tryz.underlying170 rfl (by kernel_rfl) ?_
      go_wp2_with fail
      refine (sm_span t Ab Ad cb cd r q (r.rate.lo + (k : Int)) _ hr hq (by omega)).mono ?_
      rintro e V21 ⟨rfl, hV21⟩
      replace q1 := q1.below hV21 q1.lt
      replace q2 := q2.below hV21 q2.lt
      have B_V21 := ex_trans hbl hV21
      clear a19 la
      clear b0 b1 b2 lb
      go_wp2_with fail
      refine (sm_has _ _ _ _).mono ?_
      rintro e V22 ⟨rfl, hV22⟩
      replace q1 := q1.below hV22 q1.lt
      replace q2 := q2.below hV22 q2.lt
      have B_V22 := ex_trans B_V21 hV22
      have HS := Lib.hid (show sayAt r q n (r.rate.lo + (k : Int)) = inB n (spanP r q (r.rate.lo + (k : Int))).lo (spanP r q (r.rate.lo + (k : Int))).hi from rfl)
      rw [← HS.out]
      cases hs : sayAt r q n (r.rate.lo + (k : Int))
      · have HF2 : Hid (∀ j, j < k + 1 → sayAt r q n (r.rate.lo + (j : Int)) = false) := Lib.hid (fun j hj => by
          rcases Nat.lt_succ_iff_lt_or_eq.1 hj with h1 | h1
          · exact HF.out j h1
          · rw [h1]; exact hs)
        clear hs HS
        go_wp2
        go_roundw
        case rel => exact ⟨k + 1, by omega, by first | go_num | (congr 1; omega), HF2, B_V22, q1, q2⟩
        case measure => simp [intOf]; omega
      · have HR : Hid (saysB r q n = true) := Lib.hid (by unfold saysB; rw [HN.out]; exact someTo_iff.2 ⟨k, hlt, hs⟩)
        clear hs HS
        go_wp2
        go_ret
        exact ⟨ret_bool HR.out.symm, B_V22⟩
    · have HR : Hid (saysB r q n = false) := Lib.hid (by unfold saysB; rw [HN.out]; exact someTo_false.2 (fun j hj => HF.out j (by omega)))
      have hle : ¬ r.rate.lo + (k : Int) ≤ r.rate.hi := by omega
      go_wp2
      go_ret
      exact ⟨ret_bool HR.out.symm, hbl⟩
theorem sm_rd (d : Int) (r : Rd) {b : Bool} (w : World) (hd : -1000000 ≤ d ∧ d ≤ 1000000) (hb : rdOk d r = b) : Calls Tryz.prog 85 #[.int .i64 d, .agg #[.int .i64 r.day, .int .i64 r.shown, .int .i64 r.err, .int .i64 r.bare, .int .i64 r.air.lo, .int .i64 r.air.hi, .int .i64 r.rate.lo, .int .i64 r.rate.hi, .int .i64 r.deep, .bool r.broken]] w fun e w' => e = .returned (.bool b) ∧ Below w.heap.size w w' := hb ▸ reading_any d r w hd
def dayB (nh : Int) (d : Int) (r : Rd) : Bool := rdOk nh r && decide (r.day = d)
set_option maxRecDepth 100000 in
set_option maxHeartbeats 3200000 in
theorem sm_bath1 (t : Tb) (Ab Ad Ah Ai Az : Option Addr) (cb cd ch ci cz nz : Nat) (h : List Rg) (l : List Ic) (rs : List Rd) (r : Rd) (Ar : Option Addr) (cr pu pl : Nat) (w : World) (qu : Blk w pu 116 #[.int .i64 t.g.base, .slice Ab t.g.bands.length cb, .slice Ad t.g.depths.length cd, .int .i64 t.g.blo, .int .i64 t.g.bhi, .int .i64 t.k.lo, .int .i64 t.k.hi, .int .i64 t.lag.lo, .int .i64 t.lag.hi, .int .i64 t.sq.lo, .int .i64 t.sq.hi, .int .i64 t.term, .slice Ah h.length ch, .slice Ai l.length ci, .slice Az nz cz]) (ql : Blk w pl 63 #[.slice Ar rs.length cr]) (hs : SlAt w w.heap.size 10 Ar rs.length (fE rs)) (hrl : 0 < rs.length) (hhl : h.length ≤ 1000000) :
    Calls Tryz.prog 96 #[.agg #[.int .i64 r.day, .int .i64 r.shown, .int .i64 r.err, .int .i64 r.bare, .int .i64 r.air.lo, .int .i64 r.air.hi, .int .i64 r.rate.lo, .int .i64 r.rate.hi, .int .i64 r.deep, .bool r.broken], .pointer (some ⟨pu, 0, none⟩), .pointer (some ⟨pl, 0, none⟩)] w fun e w' => e = .returned (.bool (dayB h.length (gE rs 0).day r)) ∧ Below w.heap.size w w' := by
  have hb1 := ex_alloc (Below.refl w.heap.size w) (.cells #[.int .i64 r.day, .int .i64 r.shown, .int .i64 r.err, .int .i64 r.bare, .int .i64 r.air.lo, .int .i64 r.air.hi, .int .i64 r.rate.lo, .int .i64 r.rate.hi, .int .i64 r.deep, .bool r.broken] 52)
  have q1 : Blk (w.alloc (.cells #[.int .i64 r.day, .int .i64 r.shown, .int .i64 r.err, .int .i64 r.bare, .int .i64 r.air.lo, .int .i64 r.air.hi, .int .i64 r.rate.lo, .int .i64 r.rate.hi, .int .i64 r.deep, .bool r.broken] 52)) w.heap.size 52 #[.int .i64 r.day, .int .i64 r.shown, .int .i64 r.err, .int .i64 r.bare, .int .i64 r.air.lo, .int .i64 r.air.hi, .int .i64 r.rate.lo, .int .i64 r.rate.hi, .int .i64 r.deep, .bool r.broken] := Blk.new _ _ _
  replace qu := qu.below hb1 qu.lt
  replace ql := ql.below hb1 ql.lt
  replace hs := hs.go hb1
  obtain ⟨bi, oi, rfl, hbi, g0, g1, g2, g3, g4, g5, g6, g7, g8, g9⟩ := IsRds.at10 hs hrl
  clear g1 g2 g3 g4 g5 g6 g7 g8 g9
  rw [Nat.zero_mul, Nat.add_zero] at g0
  obtain ⟨d0, hd0⟩ : ∃ d, (gE rs 0).day = d := ⟨_, rfl⟩
  rw [hd0] at g0 ⊢
  clear hd0
  cases hrd : rdOk h.length r
  · have HR : Hid (dayB h.length d0 r = false) := Lib.hid (by unfold dayB; rw [hrd]; rfl)
    have HRD := Lib.hid hrd
    clear hrd
    go_enter Tryz.func96, Tryz.ntmps96
    go_upto_region 1 with fail
    obtain ⟨p1, hp1⟩ : ∃ p, w.heap.size = p := ⟨_, rfl⟩
    rw [hp1] at q1 ⊢
    clear hp1
    generalize w.alloc (.cells #[.int .i64 r.day, .int .i64 r.shown, .int .i64 r.err, .int .i64 r.bare, .int .i64 r.air.lo, .int .i64 r.air.hi, .int .i64 r.rate.lo, .int .i64 r.rate.hi, .int .i64 r.deep, .bool r.broken] 52) = V at *
    have a12 : V.cell? ⟨pu, 12, none⟩ = some (.slice Ah h.length ch) := qu.cell 12
    have la := qu.lt
    have b0 : V.cell? ⟨pl, 0, none⟩ = some (.slice (some ⟨bi, oi, none⟩) rs.length cr) := ql.cell 0
    have lb := ql.lt
    have c0 : V.cell? ⟨p1, 0, none⟩ = some (.int .i64 r.day) := q1.cell 0
    have lc := q1.lt
    have hrl' : (0 : Int) < (rs.length : Int) := by omega
    go_wp2_with fail
    refine wp_region_ext (by kernel_rfl) (by kernel_rfl) ?_
    repeat (go_big_quiet_step ((go_at_call 85; exact Calls.ext_of (sm_rd h.length r _ (by omega) HRD.out))))
    refine wpQuiet_load_row rfl 52 _ rfl _ rfl 52 _ (0, 0) _ q1.ex Tryz.underlying52 rfl (by kernel_rfl) ?_
    simp only [Act.put, List.setIfInBounds_toArray, List.set_cons_zero, List.set_cons_succ]
    repeat (go_big_quiet_step ((go_at_call 85; exact Calls.ext_of (sm_rd h.length r _ (by omega) HRD.out))))
    refine wpQuiet_nil ?_; intro _ hw'; obtain ⟨X, rfl⟩ := hw'
    go_wp2
    go_ret
    exact ⟨ret_bool HR.out.symm, ex_trans hb1 X.h⟩
  · have HR : Hid (dayB h.length d0 r = decide (r.day = d0)) := Lib.hid (by unfold dayB; rw [hrd]; rfl)
    have hdd : decide (r.day = d0) = (r.day == d0) := by rw [Bool.eq_iff_iff]; simp
    rw [hdd] at HR
    have HRD := Lib.hid hrd
    clear hrd
    go_enter Tryz.func96, Tryz.ntmps96
    go_upto_region 1 with fail
    obtain ⟨p1, hp1⟩ : ∃ p, w.heap.size = p := ⟨_, rfl⟩
    rw [hp1] at q1 ⊢
    clear hp1
    generalize w.alloc (.cells #[.int .i64 r.day, .int .i64 r.shown, .int .i64 r.err, .int .i64 r.bare, .int .i64 r.air.lo, .int .i64 r.air.hi, .int .i64 r.rate.lo, .int .i64 r.rate.hi, .int .i64 r.deep, .bool r.broken] 52) = V at *
    have a12 : V.cell? ⟨pu, 12, none⟩ = some (.slice Ah h.length ch) := qu.cell 12
    have la := qu.lt
    have b0 : V.cell? ⟨pl, 0, none⟩ = some (.slice (some ⟨bi, oi, none⟩) rs.length cr) := ql.cell 0
    have lb := ql.lt
    have c0 : V.cell? ⟨p1, 0, none⟩ = some (.int .i64 r.day) := q1.cell 0
    have lc := q1.lt
    have hrl' : (0 : Int) < (rs.length : Int) := by omega
    go_wp2_with fail
    refine wp_region_ext (by kernel_rfl) (by kernel_rfl) ?_
    repeat (go_big_quiet_step ((go_at_call 85; exact Calls.ext_of (sm_rd h.length r _ (by omega) HRD.out))))
    refine wpQuiet_load_row rfl 52 _ rfl _ rfl 52 _ (0, 0) _ q1.ex Tryz.underlying52 rfl (by kernel_rfl) ?_
    simp only [Act.put, List.setIfInBounds_toArray, List.set_cons_zero, List.set_cons_succ]
    repeat (go_big_quiet_step ((go_at_call 85; exact Calls.ext_of (sm_rd h.length r _ (by omega) HRD.out))))
    refine wpQuiet_nil ?_; intro _ hw'; obtain ⟨X, rfl⟩ := hw'
    go_wp2
    go_ret
    exact ⟨ret_bool HR.out.symm, ex_trans hb1 X.h⟩
set_option maxRecDepth 100000 in
set_option maxHeartbeats 800000 in
theorem sm_bath2 (r : Rd) (w : World) : Calls Tryz.prog 98 #[.agg #[.int .i64 r.day, .int .i64 r.shown, .int .i64 r.err, .int .i64 r.bare, .int .i64 r.air.lo, .int .i64 r.air.hi, .int .i64 r.rate.lo, .int .i64 r.rate.hi, .int .i64 r.deep, .bool r.broken]] w fun e w' => e = .returned (.bool (!r.broken)) ∧ Below w.heap.size w w' := by
  have hb1 := ex_alloc (Below.refl w.heap.size w) (.cells #[.int .i64 r.day, .int .i64 r.shown, .int .i64 r.err, .int .i64 r.bare, .int .i64 r.air.lo, .int .i64 r.air.hi, .int .i64 r.rate.lo, .int .i64 r.rate.hi, .int .i64 r.deep, .bool r.broken] 52)
  go_enter Tryz.func98, Tryz.ntmps98
  go_wp2
  go_ret
  exact ⟨rfl, hb1⟩

end Go.Proofs.YtkaogjhnogkcdaaGreat
end

section
namespace Go.Proofs.YtkaogjhnogkcdaaGreat
open Go.RowKit
attribute [local go_sem] Ex.cell? Ex.frozen?

def bathE (t : Tb) (l : List Ic) (nh : Int) (rs : List Rd) (ag : Bool) : Int := if 5 < rs.length then 3 else if rs.length = 0 ∨ allTo (fun k => dayB nh (gE rs 0).day (gE rs k)) rs.length = false then 2 else if allTo (fun k => !(gE rs k).broken) rs.length = false then 8 else refE t l (gE rs 0) ag
section
variable {t : Tb} {l : List Ic} {nh : Int} {rs : List Rd} {ag : Bool}
theorem bath_1 (h : 5 < rs.length) : bathE t l nh rs ag = 3 := if_pos h
theorem bath_2 (h : ¬ 5 < rs.length) (h2 : rs.length = 0 ∨ allTo (fun k => dayB nh (gE rs 0).day (gE rs k)) rs.length = false) : bathE t l nh rs ag = 2 := by unfold bathE; rw [if_neg h, if_pos h2]
theorem bath_3 (h : ¬ 5 < rs.length) (h0 : rs.length ≠ 0) (h2 : allTo (fun k => dayB nh (gE rs 0).day (gE rs k)) rs.length = true) (h3 : allTo (fun k => !(gE rs k).broken) rs.length = false) : bathE t l nh rs ag = 8 := by
 unfold bathE; rw [if_neg h, if_neg (by rintro (e | e); exact h0 e; rw [h2] at e; cases e), if_pos h3]
theorem bath_4 (h : ¬ 5 < rs.length) (h0 : rs.length ≠ 0) (h2 : allTo (fun k => dayB nh (gE rs 0).day (gE rs k)) rs.length = true) (h3 : allTo (fun k => !(gE rs k).broken) rs.length = true) : bathE t l nh rs ag = refE t l (gE rs 0) ag := by
 unfold bathE; rw [if_neg h, if_neg (by rintro (e | e); exact h0 e; rw [h2] at e; cases e), if_neg (by simp [h3])]
theorem dayB_iff {d : Int} {r : Rd} : dayB nh d r = true ↔ rdOk nh r = true ∧ r.day = d := by simp [dayB]
end
set_option maxRecDepth 100000 in
set_option maxHeartbeats 6400000 in
theorem sm_bath (t : Tb) (Ab Ad Ah Ai Az : Option Addr) (cb cd ch ci cz nz : Nat) (h : List Rg) (l : List Ic) (rs : List Rd) (Ar : Option Addr) (cr : Nat) (w : World) (hi : SlAt w w.heap.size 3 Ai l.length (fC l)) (hs : SlAt w w.heap.size 10 Ar rs.length (fE rs)) (hl : l.length ≤ 1000000) (hhl : h.length ≤ 1000000) (hz : nz ≤ 1000000) (hrl : rs.length ≤ 1000000) :
  Calls Tryz.prog 68 #[.agg #[.int .i64 t.g.base, .slice Ab t.g.bands.length cb, .slice Ad t.g.depths.length cd, .int .i64 t.g.blo, .int .i64 t.g.bhi, .int .i64 t.k.lo, .int .i64 t.k.hi, .int .i64 t.lag.lo, .int .i64 t.lag.hi, .int .i64 t.sq.lo, .int .i64 t.sq.hi, .int .i64 t.term, .slice Ah h.length ch, .slice Ai l.length ci, .slice Az nz cz], .slice Ar rs.length cr] w fun e w' => e = .returned (.int .i64 (bathE t l h.length rs (decide (0 < nz)))) ∧ Below w.heap.size w w' := by
 by_cases h5 : 5 < rs.length
 ·
  have HR := Lib.hid (bath_1 (t := t) (l := l) (nh := h.length) (ag := decide (0 < nz)) h5)
  have e1 : decide ((5 : Int) < (rs.length : Int)) = true := decide_eq_true (by omega)
  have e1' : decide (5 < rs.length) = true := decide_eq_true h5
  go_enter Tryz.func68, Tryz.ntmps68
  go_upto_region 1 with fail
  show Code.wp _ _ _ _ _
  refine box2 (K := fun V => Code.wp _ _ _ _ V) ?_
  intro V hb1 q1 q2
  replace hi := (hi.below hb1).up hb1.size
  replace hs := (hs.below hb1).up hb1.size
  obtain ⟨pq1, hpq1⟩ : ∃ p, w.heap.size = p := ⟨_, rfl⟩
  obtain ⟨pq2, hpq2⟩ : ∃ p, w.heap.size + 1 = p := ⟨_, rfl⟩
  rw [hpq2] at q2 ⊢
  rw [hpq1] at q1 ⊢
  have hp1 : w.heap.size ≤ pq1 := by omega
  have hp2 : w.heap.size ≤ pq2 := by omega
  clear hpq1 hpq2
  have b0 : V.cell? ⟨pq2, 0, none⟩ = some (.slice Ar rs.length cr) := q2.cell 0
  have lb := q2.lt
  go_wp2
  go_ret
  exact ⟨ret_int HR.out.symm, hb1⟩
 ·
  have e1 : decide ((5 : Int) < (rs.length : Int)) = false := decide_eq_false (by omega)
  have e1' : decide (5 < rs.length) = false := decide_eq_false h5
  by_cases h0 : rs.length = 0
  ·
   have HR := Lib.hid (bath_2 (t := t) (l := l) (nh := h.length) (ag := decide (0 < nz)) h5 (.inl h0))
   have e2 : ((rs.length : Int) == 0) = true := by simp [h0]
   have e2' : (rs.length == 0) = true := by simp [h0]
   have H0 := Lib.hid h0
   clear h0
   go_enter Tryz.func68, Tryz.ntmps68
   go_upto_region 1 with fail
   show Code.wp _ _ _ _ _
   refine box2 (K := fun V => Code.wp _ _ _ _ V) ?_
   intro V hb1 q1 q2
   replace hi := (hi.below hb1).up hb1.size
   replace hs := (hs.below hb1).up hb1.size
   obtain ⟨pq1, hpq1⟩ : ∃ p, w.heap.size = p := ⟨_, rfl⟩
   obtain ⟨pq2, hpq2⟩ : ∃ p, w.heap.size + 1 = p := ⟨_, rfl⟩
   rw [hpq2] at q2 ⊢
   rw [hpq1] at q1 ⊢
   have hp1 : w.heap.size ≤ pq1 := by omega
   have hp2 : w.heap.size ≤ pq2 := by omega
   clear hpq1 hpq2
   have b0 : V.cell? ⟨pq2, 0, none⟩ = some (.slice Ar rs.length cr) := q2.cell 0
   have lb := q2.lt
   go_wp2
   go_ret
   exact ⟨ret_int HR.out.symm, hb1⟩
  ·
   have e2 : ((rs.length : Int) == 0) = false := by rw [beq_eq_false_iff_ne]; omega
   have e2' : (rs.length == 0) = false := by rw [beq_eq_false_iff_ne]; exact h0
   cases t1 : allTo (fun k => dayB h.length (gE rs 0).day (gE rs k)) rs.length
   ·
    have HR := Lib.hid (bath_2 (t := t) (l := l) (nh := h.length) (ag := decide (0 < nz)) h5 (.inr t1))
    have HT1 := Lib.hid t1
    clear t1
    go_enter Tryz.func68, Tryz.ntmps68
    go_upto_region 1 with fail
    show Code.wp _ _ _ _ _
    refine box2 (K := fun V => Code.wp _ _ _ _ V) ?_
    intro V hb1 q1 q2
    replace hi := (hi.below hb1).up hb1.size
    replace hs := (hs.below hb1).up hb1.size
    obtain ⟨pq1, hpq1⟩ : ∃ p, w.heap.size = p := ⟨_, rfl⟩
    obtain ⟨pq2, hpq2⟩ : ∃ p, w.heap.size + 1 = p := ⟨_, rfl⟩
    rw [hpq2] at q2 ⊢
    rw [hpq1] at q1 ⊢
    have hp1 : w.heap.size ≤ pq1 := by omega
    have hp2 : w.heap.size ≤ pq2 := by omega
    clear hpq1 hpq2
    have b0 : V.cell? ⟨pq2, 0, none⟩ = some (.slice Ar rs.length cr) := q2.cell 0
    have lb := q2.lt
    go_wp2_with fail
    refine (all_day pq1 pq2 (fun k => dayB h.length (gE rs 0).day (gE rs k)) rs rs.length _ _ _ hs hrl (fun k W hk hW => sm_bath1 t Ab Ad Ah Ai Az cb cd ch ci cz nz h l rs (gE rs k) Ar cr pq1 pq2 W (q1.below hW q1.lt) (q2.below hW q2.lt) (hs.go hW) (by omega) hhl)).mono ?_
    rintro e V1 ⟨rfl, hV1⟩
    clear b0 lb
    replace q1 := q1.below hV1 q1.lt
    replace q2 := q2.below hV1 q2.lt
    replace hi := (hi.below hV1).up hV1.size
    replace hs := (hs.below hV1).up hV1.size
    have B_V1 := ex_trans hb1 hV1
    rw [HT1.out]
    have b0 : V1.cell? ⟨pq2, 0, none⟩ = some (.slice Ar rs.length cr) := q2.cell 0
    have lb := q2.lt
    go_wp2
    go_ret
    exact ⟨ret_int HR.out.symm, B_V1⟩
   ·
    cases t2 : allTo (fun k => !(gE rs k).broken) rs.length
    ·
     have HR := Lib.hid (bath_3 (t := t) (l := l) (ag := decide (0 < nz)) h5 h0 t1 t2)
     have HT1 := Lib.hid t1
     have HT2 := Lib.hid t2
     clear t1 t2
     go_enter Tryz.func68, Tryz.ntmps68
     go_upto_region 1 with fail
     show Code.wp _ _ _ _ _
     refine box2 (K := fun V => Code.wp _ _ _ _ V) ?_
     intro V hb1 q1 q2
     replace hi := (hi.below hb1).up hb1.size
     replace hs := (hs.below hb1).up hb1.size
     obtain ⟨pq1, hpq1⟩ : ∃ p, w.heap.size = p := ⟨_, rfl⟩
     obtain ⟨pq2, hpq2⟩ : ∃ p, w.heap.size + 1 = p := ⟨_, rfl⟩
     rw [hpq2] at q2 ⊢
     rw [hpq1] at q1 ⊢
     have hp1 : w.heap.size ≤ pq1 := by omega
     have hp2 : w.heap.size ≤ pq2 := by omega
     clear hpq1 hpq2
     have b0 : V.cell? ⟨pq2, 0, none⟩ = some (.slice Ar rs.length cr) := q2.cell 0
     have lb := q2.lt
     go_wp2_with fail
     refine (all_day pq1 pq2 (fun k => dayB h.length (gE rs 0).day (gE rs k)) rs rs.length _ _ _ hs hrl (fun k W hk hW => sm_bath1 t Ab Ad Ah Ai Az cb cd ch ci cz nz h l rs (gE rs k) Ar cr pq1 pq2 W (q1.below hW q1.lt) (q2.below hW q2.lt) (hs.go hW) (by omega) hhl)).mono ?_
     rintro e V2 ⟨rfl, hV2⟩
     clear b0 lb
     replace q1 := q1.below hV2 q1.lt
     replace q2 := q2.below hV2 q2.lt
     replace hi := (hi.below hV2).up hV2.size
     replace hs := (hs.below hV2).up hV2.size
     have B_V2 := ex_trans hb1 hV2
     rw [HT1.out]
     have b0 : V2.cell? ⟨pq2, 0, none⟩ = some (.slice Ar rs.length cr) := q2.cell 0
     have lb := q2.lt
     go_wp2_with fail
     refine (all_whole (fun k => !(gE rs k).broken) rs rs.length _ _ _ hs hrl (fun k W hk hW => sm_bath2 (gE rs k) W)).mono ?_
     rintro e V3 ⟨rfl, hV3⟩
     clear b0 lb
     replace q1 := q1.below hV3 q1.lt
     replace q2 := q2.below hV3 q2.lt
     replace hi := (hi.below hV3).up hV3.size
     replace hs := (hs.below hV3).up hV3.size
     have B_V3 := ex_trans B_V2 hV3
     rw [HT2.out]
     have b0 : V3.cell? ⟨pq2, 0, none⟩ = some (.slice Ar rs.length cr) := q2.cell 0
     have lb := q2.lt
     go_wp2
     go_ret
     exact ⟨ret_int HR.out.symm, B_V3⟩
    ·
     have HR := Lib.hid (bath_4 (t := t) (l := l) (ag := decide (0 < nz)) h5 h0 t1 t2)
     have HD := Lib.hid (rdOk_iff.1 (dayB_iff.1 (allTo_iff.1 t1 0 (by omega))).1).1
     have HT1 := Lib.hid t1
     have HT2 := Lib.hid t2
     clear t1 t2
     go_enter Tryz.func68, Tryz.ntmps68
     go_upto_region 1 with fail
     show Code.wp _ _ _ _ _
     refine box2 (K := fun V => Code.wp _ _ _ _ V) ?_
     intro V hb1 q1 q2
     replace hi := (hi.below hb1).up hb1.size
     replace hs := (hs.below hb1).up hb1.size
     obtain ⟨pq1, hpq1⟩ : ∃ p, w.heap.size = p := ⟨_, rfl⟩
     obtain ⟨pq2, hpq2⟩ : ∃ p, w.heap.size + 1 = p := ⟨_, rfl⟩
     rw [hpq2] at q2 ⊢
     rw [hpq1] at q1 ⊢
     have hp1 : w.heap.size ≤ pq1 := by omega
     have hp2 : w.heap.size ≤ pq2 := by omega
     clear hpq1 hpq2
     have b0 : V.cell? ⟨pq2, 0, none⟩ = some (.slice Ar rs.length cr) := q2.cell 0
     have lb := q2.lt
     go_wp2_with fail
     refine (all_day pq1 pq2 (fun k => dayB h.length (gE rs 0).day (gE rs k)) rs rs.length _ _ _ hs hrl (fun k W hk hW => sm_bath1 t Ab Ad Ah Ai Az cb cd ch ci cz nz h l rs (gE rs k) Ar cr pq1 pq2 W (q1.below hW q1.lt) (q2.below hW q2.lt) (hs.go hW) (by omega) hhl)).mono ?_
     rintro e V4 ⟨rfl, hV4⟩
     clear b0 lb
     replace q1 := q1.below hV4 q1.lt
     replace q2 := q2.below hV4 q2.lt
     replace hi := (hi.below hV4).up hV4.size
     replace hs := (hs.below hV4).up hV4.size
     have B_V4 := ex_trans hb1 hV4
     rw [HT1.out]
     have b0 : V4.cell? ⟨pq2, 0, none⟩ = some (.slice Ar rs.length cr) := q2.cell 0
     have lb := q2.lt
     go_wp2_with fail
     refine (all_whole (fun k => !(gE rs k).broken) rs rs.length _ _ _ hs hrl (fun k W hk hW => sm_bath2 (gE rs k) W)).mono ?_
     rintro e V5 ⟨rfl, hV5⟩
     clear b0 lb
     replace q1 := q1.below hV5 q1.lt
     replace q2 := q2.below hV5 q2.lt
     replace hi := (hi.below hV5).up hV5.size
     replace hs := (hs.below hV5).up hV5.size
     have B_V5 := ex_trans B_V4 hV5
     rw [HT2.out]
     have b0 : V5.cell? ⟨pq2, 0, none⟩ = some (.slice Ar rs.length cr) := q2.cell 0
     have lb := q2.lt
     have hd : 0 ≤ (gE rs 0).day ∧ (gE rs 0).day ≤ 1000000 := by have := HD.out; omega
     have hr0 : (0 : Int) < (rs.length : Int) := by omega
     go_wp2_with fail
     have hs2 := hs
     obtain ⟨bi, oi, rfl, hbi, g0, g1, g2, g3, g4, g5, g6, g7, g8, g9⟩ := IsRds.at10 hs2 (show 0 < rs.length by omega)
     rw [Nat.zero_mul, Nat.add_zero] at g0 g1 g2 g3 g4 g5 g6 g7 g8 g9
     refine wp_region_ext (by kernel_rfl) (by kernel_rfl) ?_
     refine wpQuiet_load_row rfl 116 _ rfl _ rfl 116 _ (0, 0) _ q1.ex Tryz.underlying116 rfl (by kernel_rfl) ?_
     simp only [Act.put, List.setIfInBounds_toArray, List.set_cons_zero, List.set_cons_succ]
     repeat (go_big_quiet_step ((go_at_call 81; exact Calls.ext_of (sm_refused t Ab Ad Ah Ai Az cb cd ch ci cz nz h l (gE rs 0) _ (hi.go (Ex.h _)) hl hd hz))))
     refine wpQuiet_nil ?_; intro _ hw'; obtain ⟨X, rfl⟩ := hw'
     go_wp2
     go_ret
     exact ⟨ret_int HR.out.symm, ex_trans B_V5 X.h⟩

end Go.Proofs.YtkaogjhnogkcdaaGreat
end

section
namespace Go.Proofs.YtkaogjhnogkcdaaGreat
open Go.RowKit Go.Shelf
attribute [local go_sem] Oper.semAt_some

theorem kinds_any (t : Tb) (Ab Ad : Option Addr) (cb cd : Nat) (w : World) :
    Calls Tryz.prog 99 #[.agg #[.int .i64 t.g.base, .slice Ab t.g.bands.length cb, .slice Ad t.g.depths.length cd, .int .i64 t.g.blo, .int .i64 t.g.bhi, .int .i64 t.k.lo, .int .i64 t.k.hi, .int .i64 t.lag.lo, .int .i64 t.lag.hi, .int .i64 t.sq.lo, .int .i64 t.sq.hi, .int .i64 t.term]] w fun e w' => e = .returned (.func (.func 126) #[] #[.pointer (some ⟨w.heap.size, 0, none⟩)]) ∧ w' = w.alloc (.cells #[.int .i64 t.g.base, .slice Ab t.g.bands.length cb, .slice Ad t.g.depths.length cd, .int .i64 t.g.blo, .int .i64 t.g.bhi, .int .i64 t.k.lo, .int .i64 t.k.hi, .int .i64 t.lag.lo, .int .i64 t.lag.hi, .int .i64 t.sq.lo, .int .i64 t.sq.hi, .int .i64 t.term] 45) := by
  go_enter Tryz.func99, Tryz.ntmps99
  go_wp2
  go_ret
  exact ⟨rfl, rfl⟩

abbrev KiX (t : Tb) := { q : Ki // KiIn t q }
def HasK (t : Tb) (xs : List (KiX t)) : Prop := ∀ q, KiIn t q → q ∈ xs.map (·.1)
structure KeepsBox (bl : Nat) (W W' : World) : Prop where
  size : W.heap.size ≤ W'.heap.size
  box : W'.heap[bl]? = W.heap[bl]?
theorem KeepsBox.trans {bl : Nat} {X Y Z : World} (h : KeepsBox bl X Y) (k : KeepsBox bl Y Z) : KeepsBox bl X Z := ⟨Nat.le_trans h.size k.size, k.box.trans h.box⟩
def encK {t : Tb} (q : KiX t) : Array Value := #[.agg #[.int .i64 q.1.k, .int .i64 q.1.lag, .int .i64 q.1.sq]]
structure KiPre (t : Tb) (J : List (KiX t) → World → Prop) (bl : Nat) (cs : Array Value) (K L S : Int) (m : Int) (W : World) : Prop where
  out : ∃ pre, J pre W ∧ (pre.length : Int) ≤ m ∧ ∀ q, KiBef t K L S q → q ∈ pre.map (·.1)
  q : Blk W bl 45 cs
theorem KiPre.congr {t : Tb} {J : List (KiX t) → World → Prop} {bl : Nat} {cs : Array Value} {K L S K' L' S' m m' : Int} {W : World} (h : KiPre t J bl cs K L S m W) (e : ∀ q, KiBef t K L S q ↔ KiBef t K' L' S' q) (hm : m ≤ m') : KiPre t J bl cs K' L' S' m' W := by
  obtain ⟨⟨pre, h1, h2, h3⟩, h4⟩ := h
  exact ⟨⟨pre, h1, by omega, fun q hq => h3 q ((e q).2 hq)⟩, h4⟩

set_option maxRecDepth 100000 in
set_option maxHeartbeats 4000000 in
theorem kinds1_in (n : Nat) (t : Tb) (Ab Ad : Option Addr) (cb cd : Nat) (ht : TbBd t) (l bl : Nat) (J Jx : List (KiX t) → World → Prop) (W : World) (q0 : Blk W bl 45 #[.int .i64 t.g.base, .slice Ab t.g.bands.length cb, .slice Ad t.g.depths.length cd, .int .i64 t.g.blo, .int .i64 t.g.bhi, .int .i64 t.k.lo, .int .i64 t.k.hi, .int .i64 t.lag.lo, .int .i64 t.lag.hi, .int .i64 t.sq.lo, .int .i64 t.sq.hi, .int .i64 t.term])
    (hY : ∀ pre x W1, J pre W1 → pre.length < 2200 → YieldAt Fence.wide (n - 1) Tryz.prog l (encK x) W1 fun e W' => (e = .returned (.bool true) ∧ J (pre ++ [x]) W' ∧ KeepsBox bl W1 W') ∨ (e = .returned (.bool false) ∧ Jx (pre ++ [x]) W'))
    (h0 : J [] W) :
    CallsIn Fence.wide n Tryz.prog 126 #[.func (.yield l) #[] #[], .pointer (some ⟨bl, 0, none⟩)] W fun e W' => (∃ v, e = .returned v) ∧ ((∃ xs : List (KiX t), HasK t xs ∧ J xs W') ∨ (∃ pre, Jx pre W')) := by
  have hk := ht.k
  have hl := ht.lag
  have hs := ht.sq
  have a5 : W.cell? ⟨bl, 5, none⟩ = some (.int .i64 t.k.lo) := q0.cell 5
  have lt1 := q0.lt
  have HP : KiPre t J bl #[.int .i64 t.g.base, .slice Ab t.g.bands.length cb, .slice Ad t.g.depths.length cd, .int .i64 t.g.blo, .int .i64 t.g.bhi, .int .i64 t.k.lo, .int .i64 t.k.hi, .int .i64 t.lag.lo, .int .i64 t.lag.hi, .int .i64 t.sq.lo, .int .i64 t.sq.hi, .int .i64 t.term] t.k.lo t.lag.lo t.sq.lo 0 W := ⟨⟨[], h0, by simp, fun q ⟨h1, h2⟩ => by
    have := h1.k; have := h1.lag; have := h1.sq
    omega⟩, q0⟩
  refine callsIn_of_wp Tryz.func126 rfl trivial ?_ rfl
  simp only [Tryz.ntmps126, List.size_toArray, List.length_cons, List.length_nil, Nat.reduceAdd, Nat.reduceSub, Array.replicate_succ, Array.replicate_zero, List.push_toArray, List.append_toArray, List.nil_append, List.cons_append]
  gi_wp2_with fail
  clear a5 lt1 q0 h0
  gi_loopw [3] (fun i wr => ∃ K : Int, t.k.lo ≤ K ∧ K ≤ t.k.hi + 1 ∧ i = .int .i64 K ∧ KiPre t J bl #[.int .i64 t.g.base, .slice Ab t.g.bands.length cb, .slice Ad t.g.depths.length cd, .int .i64 t.g.blo, .int .i64 t.g.bhi, .int .i64 t.k.lo, .int .i64 t.k.hi, .int .i64 t.lag.lo, .int .i64 t.lag.hi, .int .i64 t.sq.lo, .int .i64 t.sq.hi, .int .i64 t.term] K t.lag.lo t.sq.lo ((K - t.k.lo) * 100) wr)
    (fun i _ => (t.k.hi + 1 - intOf i).toNat)
  case atStart => exact ⟨_, Int.le_refl _, by omega, rfl, HP.congr (fun _ => Iff.rfl) (by omega)⟩
  case round =>
    clear HP
    obtain ⟨K, hK0, hK1, rfl, HP⟩ := hrel
    have a6 : wr.cell? ⟨bl, 6, none⟩ = some (.int .i64 t.k.hi) := HP.q.cell 6
    have a7 : wr.cell? ⟨bl, 7, none⟩ = some (.int .i64 t.lag.lo) := HP.q.cell 7
    have lt1 := HP.q.lt
    by_cases hK : K ≤ t.k.hi
    · gi_wp2_with fail
      clear a6 a7 lt1
      gi_loopw [4] (fun i wr => ∃ L : Int, t.lag.lo ≤ L ∧ L ≤ t.lag.hi + 1 ∧ i = .int .i64 L ∧ KiPre t J bl #[.int .i64 t.g.base, .slice Ab t.g.bands.length cb, .slice Ad t.g.depths.length cd, .int .i64 t.g.blo, .int .i64 t.g.bhi, .int .i64 t.k.lo, .int .i64 t.k.hi, .int .i64 t.lag.lo, .int .i64 t.lag.hi, .int .i64 t.sq.lo, .int .i64 t.sq.hi, .int .i64 t.term] K L t.sq.lo ((K - t.k.lo) * 100 + (L - t.lag.lo) * 10) wr)
        (fun i _ => (t.lag.hi + 1 - intOf i).toNat)
      case atStart => exact ⟨_, Int.le_refl _, by omega, rfl, HP.congr (fun _ => Iff.rfl) (by omega)⟩
      case round =>
        clear HP
        obtain ⟨L, hL0, hL1, rfl, HP⟩ := hrel
        have a8 : wr.cell? ⟨bl, 8, none⟩ = some (.int .i64 t.lag.hi) := HP.q.cell 8
        have a9 : wr.cell? ⟨bl, 9, none⟩ = some (.int .i64 t.sq.lo) := HP.q.cell 9
        have lt1 := HP.q.lt
        by_cases hL : L ≤ t.lag.hi
        · gi_wp2_with fail
          clear a8 a9 lt1
          gi_loopw [5] (fun i wr => ∃ S : Int, t.sq.lo ≤ S ∧ S ≤ t.sq.hi + 1 ∧ i = .int .i64 S ∧ KiPre t J bl #[.int .i64 t.g.base, .slice Ab t.g.bands.length cb, .slice Ad t.g.depths.length cd, .int .i64 t.g.blo, .int .i64 t.g.bhi, .int .i64 t.k.lo, .int .i64 t.k.hi, .int .i64 t.lag.lo, .int .i64 t.lag.hi, .int .i64 t.sq.lo, .int .i64 t.sq.hi, .int .i64 t.term] K L S ((K - t.k.lo) * 100 + (L - t.lag.lo) * 10 + (S - t.sq.lo)) wr)
            (fun i _ => (t.sq.hi + 1 - intOf i).toNat)
          case atStart => exact ⟨_, Int.le_refl _, by omega, rfl, HP.congr (fun _ => Iff.rfl) (by omega)⟩
          case round =>
            clear HP
            obtain ⟨S, hS0, hS1, rfl, HP⟩ := hrel
            have a10 : wr.cell? ⟨bl, 10, none⟩ = some (.int .i64 t.sq.hi) := HP.q.cell 10
            have lt1 := HP.q.lt
            by_cases hS : S ≤ t.sq.hi
            · obtain ⟨⟨pre, hJ, hlen, hall⟩, hq⟩ := HP
              have HALL := Lib.hid hall
              clear hall
              obtain ⟨fn, tmps, assign, body, hy, hR⟩ := hY pre ⟨⟨K, L, S⟩, ⟨⟨hK0, hK⟩, ⟨hL0, hL⟩, ⟨hS0, hS⟩⟩⟩ _ hJ (by omega)
              have hy' : (Instr.yield l #[.agg #[.int .i64 K, .int .i64 L, .int .i64 S]]).run Tryz.prog wr = .ok (.round l fn tmps assign body) wr := hy
              clear hy
              gi_wp2_with fail
              refine ⟨fun h => by simp [Fence.wide] at h, ?_⟩
              refine hR.mono ?_
              rintro e W' (⟨rfl, hJ', hk'⟩ | ⟨rfl, hJx'⟩)
              · have HP : KiPre t J bl #[.int .i64 t.g.base, .slice Ab t.g.bands.length cb, .slice Ad t.g.depths.length cd, .int .i64 t.g.blo, .int .i64 t.g.bhi, .int .i64 t.k.lo, .int .i64 t.k.hi, .int .i64 t.lag.lo, .int .i64 t.lag.hi, .int .i64 t.sq.lo, .int .i64 t.sq.hi, .int .i64 t.term] K L (S + 1) ((K - t.k.lo) * 100 + (L - t.lag.lo) * 10 + (S + 1 - t.sq.lo)) W' := ⟨⟨_, hJ', by rw [List.length_append, List.length_singleton]; omega, fun q hq => by
                  rw [List.map_append, List.mem_append]
                  rcases (bef_step ⟨hK0, hK⟩ ⟨hL0, hL⟩ ⟨hS0, hS⟩ q).1 hq with h | h
                  · exact .inl (HALL.out q h)
                  · exact .inr (by rw [h]; simp)⟩, hk'.box.trans hq⟩
                clear a10 lt1 hy' hq hJ hk' hJ' HALL hlen
                gi_wp2
                exact ⟨⟨S + 1, by omega, by omega, by simp, HP⟩, by simp [intOf]; omega⟩
              · gi_wp2
                refine bodyPost_ret (results_none rfl _ _ _) rfl ?_
                exact ⟨⟨_, rfl⟩, .inr ⟨_, hJx'⟩⟩
            · have HP2 := HP.congr (m' := (K - t.k.lo) * 100 + (L + 1 - t.lag.lo) * 10) (bef_row (t := t) (K := K) (L := L) (S := S) (by omega)) (by omega)
              clear HP
              gi_wp2
              exact ⟨⟨L + 1, by omega, by omega, by simp, HP2⟩, by simp [intOf]; omega⟩
        · have HP2 := HP.congr (m' := (K + 1 - t.k.lo) * 100) (bef_plane (t := t) (K := K) (L := L) (S := t.sq.lo) (by omega)) (by omega)
          clear HP
          gi_wp2
          exact ⟨⟨K + 1, by omega, by omega, by simp, HP2⟩, by simp [intOf]; omega⟩
    · obtain ⟨⟨pre, hJ, _, hall⟩, _⟩ := HP
      have HR : Hid (HasK t pre) := Lib.hid (fun q hq => hall q ((bef_all (by omega) q).2 hq))
      clear hall
      gi_wp2
      go_end0
      exact ⟨⟨_, rfl⟩, .inl ⟨pre, HR.out, hJ⟩⟩
end Go.Proofs.YtkaogjhnogkcdaaGreat
end

section
namespace Go.Proofs.YtkaogjhnogkcdaaGreat
open Go.RowKit
attribute [local go_sem] Ex.cell? Ex.frozen?

def keyK (q : Ki) : Value := .agg #[.int .i64 q.k, .int .i64 q.lag, .int .i64 q.sq]
theorem ki_eq (s u : Ki) (w : World) : (Op.equal 137 (keyK s) (keyK u)).run Tryz.prog w = .ok (decide (s = u)) w := by
 obtain ⟨a, b, c⟩ := s
 obtain ⟨d, e, f⟩ := u
 unfold keyK
 simp [Op.equal, Op.maxDepth, go_sem]
 by_cases h1 : a = d <;> by_cases h2 : b = e <;> by_cases h3 : c = f <;> simp [h1, h2, h3]
theorem keyK_ok : KeyOk 137 keyK where
 eq := ki_eq
 check := fun em s w => by
  have hc : ∀ (n : Nat) (x : Int) (w : World), (Instr.checkKey em (n + 1) 3 (.int .i64 x)).run Tryz.prog w = .ok () w := fun n x w => by
   rw [Instr.checkKey]
   simp [go_sem, run_underlying Tryz.underlying3]
  show (Instr.checkKey em (9999 + 1) 137 (keyK s)).run Tryz.prog w = _
  rw [Instr.checkKey]
  unfold keyK
  simp only [Sem.run_bind, run_underlying Tryz.underlying137, Result.andThen_ok]
  have hc' := fun x w => hc 9998 x w
  simp [go_sem, List.forIn_cons, hc']
 und := ⟨_, Tryz.underlying137, fun s e es i => by simp [Instr.findNow, Instr.sameNow, keyK]⟩
theorem keyK_fd : KeyFd 137 keyK := KeyFd.of keyK_ok (fun s w => by simp [Instr.keyThatStays, Instr.sameBits, keyK])
def cRg (r : Rg) : Value := .agg #[.int .i64 r.lo, .int .i64 r.hi]
def Mid (rs : List Rd) (q : Ki) (lo hi N : Int) (o : Option Rg) : Prop := LeftIs rs q lo N o ∨ ((∀ n, lo ≤ n → n < N → sayAll rs q n = false) ∧ ∃ R, o = some R ∧ EndsOf (fun n => (lo ≤ n ∧ n < hi + 1) ∧ sayAll rs q n = true) R.lo R.hi)
def nextR (o : Option Rg) (N : Int) : Rg := match o with | none => ⟨N, N⟩ | some R => ⟨R.lo, N⟩
theorem mid_no {rs : List Rd} {q : Ki} {lo hi N : Int} {o : Option Rg} (h : Mid rs q lo hi N o) (hn : sayAll rs q N = false) : Mid rs q lo hi (N + 1) o := by
 rcases h with h | ⟨h, hR⟩
 ·
  exact .inl (left_no h hn)
 ·
  refine .inr ⟨fun n h1 h2 => ?_, hR⟩
  by_cases e : n = N
  ·
   rw [e]; exact hn
  ·
   exact h n h1 (by omega)
theorem mid_yes {rs : List Rd} {q : Ki} {lo hi N : Int} {o : Option Rg} (h : Mid rs q lo hi N o) (h0 : lo ≤ N) (h1 : N ≤ hi) (hn : sayAll rs q N = true) : Mid rs q lo hi (N + 1) (some (nextR o N)) := by
 rcases h with h | ⟨h, R, rfl, hR⟩
 ·
  have := left_yes h h0 hn
  cases o <;> exact .inl this
 ·
  have e1 := hR.2.2 N ⟨⟨h0, by omega⟩, hn⟩
  have e2 : R.lo = N := Classical.byContradiction fun hc => by
   have := h R.lo hR.1.1.1 (by omega)
   have hx : sayAll rs q R.lo = true := hR.1.2
   rw [hx] at this; cases this
  refine .inl ?_
  show EndsOf (fun n => (lo ≤ n ∧ n < N + 1) ∧ sayAll rs q n = true) R.lo N
  rw [e2]
  refine ⟨⟨⟨h0, by omega⟩, hn⟩, ⟨⟨h0, by omega⟩, hn⟩, fun z ⟨⟨z0, z1⟩, z2⟩ => ?_⟩
  have : z = N := Classical.byContradiction fun hc => by
   have := h z z0 (by omega)
   rw [this] at z2; cases z2
  omega
theorem mid_end {rs : List Rd} {q : Ki} {lo hi : Int} {o : Option Rg} (h : Mid rs q lo hi (hi + 1) o) : LeftIs rs q lo (hi + 1) o := by
 rcases h with h | ⟨h, R, rfl, hR⟩
 ·
  exact h
 ·
  have := h R.lo hR.1.1.1 hR.1.1.2
  have hx : sayAll rs q R.lo = true := hR.1.2
  rw [hx] at this; cases this
theorem mid_start {rs : List Rd} {q : Ki} {lo hi : Int} {o : Option Rg} (h : o = none ∨ LeftIs rs q lo (hi + 1) o) : Mid rs q lo hi lo o := by
 rcases h with rfl | h
 ·
  exact .inl left_none
 ·
  cases o with
  | none => exact .inl left_none
  | some R => exact .inr ⟨fun n h1 h2 => by omega, R, rfl, h⟩
set_option maxRecDepth 100000 in
set_option maxHeartbeats 3200000 in
theorem sm_left1 (t : Tb) (Ab Ad Ah Ai Az : Option Addr) (cb cd ch ci cz nz : Nat) (h : List Rg) (l : List Ic) (r : Rd) (q : Ki) (n : Int) (pu pk pn : Nat) (w : World) (qu : Blk w pu 116 #[.int .i64 t.g.base, .slice Ab t.g.bands.length cb, .slice Ad t.g.depths.length cd, .int .i64 t.g.blo, .int .i64 t.g.bhi, .int .i64 t.k.lo, .int .i64 t.k.hi, .int .i64 t.lag.lo, .int .i64 t.lag.hi, .int .i64 t.sq.lo, .int .i64 t.sq.hi, .int .i64 t.term, .slice Ah h.length ch, .slice Ai l.length ci, .slice Az nz cz]) (qk : Blk w pk 137 #[.int .i64 q.k, .int .i64 q.lag, .int .i64 q.sq]) (qn : Blk w pn 3 #[.int .i64 n]) (hr : RdBd r) (hq : KiBd q) :
  Calls Tryz.prog 100 #[.agg #[.int .i64 r.day, .int .i64 r.shown, .int .i64 r.err, .int .i64 r.bare, .int .i64 r.air.lo, .int .i64 r.air.hi, .int .i64 r.rate.lo, .int .i64 r.rate.hi, .int .i64 r.deep, .bool r.broken], .pointer (some ⟨pu, 0, none⟩), .pointer (some ⟨pk, 0, none⟩), .pointer (some ⟨pn, 0, none⟩)] w fun e w' => e = .returned (.bool (saysB r q n)) ∧ Below w.heap.size w w' := by
 have hb1 := ex_alloc (Below.refl w.heap.size w) (.cells #[.int .i64 r.day, .int .i64 r.shown, .int .i64 r.err, .int .i64 r.bare, .int .i64 r.air.lo, .int .i64 r.air.hi, .int .i64 r.rate.lo, .int .i64 r.rate.hi, .int .i64 r.deep, .bool r.broken] 52)
 have q1 : Blk (w.alloc (.cells #[.int .i64 r.day, .int .i64 r.shown, .int .i64 r.err, .int .i64 r.bare, .int .i64 r.air.lo, .int .i64 r.air.hi, .int .i64 r.rate.lo, .int .i64 r.rate.hi, .int .i64 r.deep, .bool r.broken] 52)) w.heap.size 52 #[.int .i64 r.day, .int .i64 r.shown, .int .i64 r.err, .int .i64 r.bare, .int .i64 r.air.lo, .int .i64 r.air.hi, .int .i64 r.rate.lo, .int .i64 r.rate.hi, .int .i64 r.deep, .bool r.broken] := Blk.new _ _ _
 replace qu := qu.below hb1 qu.lt
 replace qk := qk.below hb1 qk.lt
 replace qn := qn.below hb1 qn.lt
 go_enter Tryz.func100, Tryz.ntmps100
 go_upto_region 1 with fail
 obtain ⟨p1, hp1⟩ : ∃ p, w.heap.size = p := ⟨_, rfl⟩
 rw [hp1] at q1 ⊢
 clear hp1
 generalize w.alloc (.cells #[.int .i64 r.day, .int .i64 r.shown, .int .i64 r.err, .int .i64 r.bare, .int .i64 r.air.lo, .int .i64 r.air.hi, .int .i64 r.rate.lo, .int .i64 r.rate.hi, .int .i64 r.deep, .bool r.broken] 52) = V at *
 have a0 : V.cell? ⟨pu, 0, none⟩ = some (.int .i64 t.g.base) := qu.cell 0
 have a1 : V.cell? ⟨pu, 1, none⟩ = some (.slice Ab t.g.bands.length cb) := qu.cell 1
 have a2 : V.cell? ⟨pu, 2, none⟩ = some (.slice Ad t.g.depths.length cd) := qu.cell 2
 have a3 : V.cell? ⟨pu, 3, none⟩ = some (.int .i64 t.g.blo) := qu.cell 3
 have a4 : V.cell? ⟨pu, 4, none⟩ = some (.int .i64 t.g.bhi) := qu.cell 4
 have a5 : V.cell? ⟨pu, 5, none⟩ = some (.int .i64 t.k.lo) := qu.cell 5
 have a6 : V.cell? ⟨pu, 6, none⟩ = some (.int .i64 t.k.hi) := qu.cell 6
 have a7 : V.cell? ⟨pu, 7, none⟩ = some (.int .i64 t.lag.lo) := qu.cell 7
 have a8 : V.cell? ⟨pu, 8, none⟩ = some (.int .i64 t.lag.hi) := qu.cell 8
 have a9 : V.cell? ⟨pu, 9, none⟩ = some (.int .i64 t.sq.lo) := qu.cell 9
 have a10 : V.cell? ⟨pu, 10, none⟩ = some (.int .i64 t.sq.hi) := qu.cell 10
 have a11 : V.cell? ⟨pu, 11, none⟩ = some (.int .i64 t.term) := qu.cell 11
 have la := qu.lt
 have k0 : V.cell? ⟨pk, 0, none⟩ = some (.int .i64 q.k) := qk.cell 0
 have k1 : V.cell? ⟨pk, 1, none⟩ = some (.int .i64 q.lag) := qk.cell 1
 have k2 : V.cell? ⟨pk, 2, none⟩ = some (.int .i64 q.sq) := qk.cell 2
 have lk := qk.lt
 have n0 : V.cell? ⟨pn, 0, none⟩ = some (.int .i64 n) := qn.cell 0
 have ln := qn.lt
 go_wp2_with (refine pause_at 8 rfl ?_)
 refine Paused.mk ?_
 refine wpList_load_row rfl 52 _ rfl _ rfl 52 _ (0, 0) _ (q1) Tryz.underlying52 rfl (by kernel_rfl) ?_
 go_wp2_with fail
 refine (sm_says t Ab Ad cb cd r q n _ hr hq).mono ?_
 rintro e V1 ⟨rfl, hV1⟩
 have B_V1 := ex_trans hb1 hV1
 clear a0 a1 a2 a3 a4 a5 a6 a7 a8 a9 a10 a11 la
 clear k0 k1 k2 lk
 clear n0 ln
 go_wp2
 go_ret
 exact ⟨rfl, B_V1⟩

end Go.Proofs.YtkaogjhnogkcdaaGreat
end
