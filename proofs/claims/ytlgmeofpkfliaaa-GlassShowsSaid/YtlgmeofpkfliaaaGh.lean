/- The laws' arguments: what they read as, and the step from a walk to the statement. · The laws: the last step of each row: a walk that returns true and only makes memory gives the statement. · The reference's Creep, Sinks, IsTruth, Play (walks). -/
import Derived.Deep.Fields
import Derived.Carry
import Derived.ProofKit
import Derived.OpenShut
import Derived.ChangeSame
import Derived.Laws.Cover1
import Derived.Test.YtlgmeofpkfliaaaGg
import Derived.Test.YtlgmeofpkfliaaaRows
set_option linter.unusedVariables false
set_option linter.unusedSimpArgs false
set_option linter.unusedSectionVars false
section
namespace Go.Proofs.Ytlgmeofpkfliaaa
open Go.RowKit Go.ChangeShapes Go.WideShapes Go.Deep

section
variable {H : Type} {enc : TypeId × Value → H} {w : World} {base : Nat} {spare : Nat → Bool} {held : Bool}

/-- one-cell fields and others, at written-out places. -/
theorem tr_int {fuel : Nat} {t : TypeId} {k : IntKind} {cs : List Value} {x : DataW H × List MemPlace} (ht : Try.prog.underlying t = some (.int k)) (h : DataW.trod enc Try.prog w base spare held fuel t cs = some x) : ∃ n : Int, cs = [.int k n] ∧ (Lit.int k n).wf = true := by
  obtain ⟨n, h1, _, h2⟩ := DataW.trod_int ht h
  exact ⟨n, h1, h2⟩
theorem list2 {α : Type} {l : List α} (h : l.length = 2) : ∃ a b, l = [a, b] := by
  match l, h with
  | [a, b], _ => exact ⟨a, b, rfl⟩
theorem list3 {α : Type} {l : List α} (h : l.length = 3) : ∃ a b c, l = [a, b, c] := by
  match l, h with
  | [a, b, c], _ => exact ⟨a, b, c, rfl⟩
theorem list5 {α : Type} {l : List α} (h : l.length = 5) : ∃ a b c d e, l = [a, b, c, d, e] := by
  match l, h with
  | [a, b, c, d, e], _ => exact ⟨a, b, c, d, e, rfl⟩
theorem some_of {α : Type} {l : List α} {i : Nat} (h : i < l.length) : ∃ y, l[i]? = some y := ⟨l[i], List.getElem?_eq_getElem h⟩

theorem fld {fs : Array Field} {xs : List (DataW H × List MemPlace)} {cs : List Value} {n : Nat}
    (hf : ∀ (i : Nat) (f : Field), fs[i]? = some f → DataW.trod enc Try.prog w base spare held n f.type ((cs.drop f.offset).take (Try.prog.cellsOf f.type)) = xs[i]?)
    {i : Nat} {f : Field} {y : DataW H × List MemPlace} (t' off k : Nat) (h1 : fs[i]? = some f) (ht : f.type = t') (ho : f.offset = off) (hk : Try.prog.cellsOf t' = k) (hy : xs[i]? = some y) :
    DataW.trod enc Try.prog w base spare held n t' ((cs.drop off).take k) = some y := by
  subst ht ho hk; exact (hf i f h1).trans hy

theorem tr_rg {fuel : Nat} {cs : List Value} {x : DataW H × List MemPlace} (h : DataW.trod enc Try.prog w base spare held fuel 25 cs = some x) : ∃ r : Rg, cs = cR r := by
  obtain ⟨xs, n, _, _, hc, hxl, hf⟩ := DataW.trod_struct Try.underlying25 h
  obtain ⟨a, b, rfl⟩ := list2 (hc.trans (by kernel_rfl))
  have hl : xs.length = 2 := hxl.trans rfl
  obtain ⟨y0, e0⟩ := some_of (l := xs) (i := 0) (by omega)
  obtain ⟨y1, e1⟩ := some_of (l := xs) (i := 1) (by omega)
  have h0 := fld hf (i := 0) 3 0 1 rfl rfl rfl (by kernel_rfl) e0
  have h1 := fld hf (i := 1) 3 1 1 rfl rfl rfl (by kernel_rfl) e1
  simp only [List.drop_zero, List.drop_succ_cons, List.take_succ_cons, List.take_zero] at h0 h1
  obtain ⟨u, hu, _⟩ := tr_int Try.underlying3 h0
  obtain ⟨v, hv, _⟩ := tr_int Try.underlying3 h1
  exact ⟨⟨u, v⟩, by injection hu with hu _; injection hv with hv _; rw [hu, hv]; rfl⟩
theorem tr_dp {fuel : Nat} {cs : List Value} {x : DataW H × List MemPlace} (h : DataW.trod enc Try.prog w base spare held fuel 112 cs = some x) : ∃ r : Dp, cs = cD r := by
  obtain ⟨xs, n, _, _, hc, hxl, hf⟩ := DataW.trod_struct Try.underlying112 h
  obtain ⟨a, b, rfl⟩ := list2 (hc.trans (by kernel_rfl))
  have hl : xs.length = 2 := hxl.trans rfl
  obtain ⟨y0, e0⟩ := some_of (l := xs) (i := 0) (by omega)
  obtain ⟨y1, e1⟩ := some_of (l := xs) (i := 1) (by omega)
  have h0 := fld hf (i := 0) 3 0 1 rfl rfl rfl (by kernel_rfl) e0
  have h1 := fld hf (i := 1) 3 1 1 rfl rfl rfl (by kernel_rfl) e1
  simp only [List.drop_zero, List.drop_succ_cons, List.take_succ_cons, List.take_zero] at h0 h1
  obtain ⟨u, hu, _⟩ := tr_int Try.underlying3 h0
  obtain ⟨v, hv, _⟩ := tr_int Try.underlying3 h1
  exact ⟨⟨u, v⟩, by injection hu with hu _; injection hv with hv _; rw [hu, hv]; rfl⟩
theorem tr_ic {fuel : Nat} {cs : List Value} {x : DataW H × List MemPlace} (h : DataW.trod enc Try.prog w base spare held fuel 62 cs = some x) : ∃ r : Ic, cs = cC r := by
  obtain ⟨xs, n, _, _, hc, hxl, hf⟩ := DataW.trod_struct Try.underlying62 h
  obtain ⟨a, b, c, rfl⟩ := list3 (hc.trans (by kernel_rfl))
  have hl : xs.length = 3 := hxl.trans rfl
  obtain ⟨y0, e0⟩ := some_of (l := xs) (i := 0) (by omega)
  obtain ⟨y1, e1⟩ := some_of (l := xs) (i := 1) (by omega)
  obtain ⟨y2, e2⟩ := some_of (l := xs) (i := 2) (by omega)
  have h0 := fld hf (i := 0) 3 0 1 rfl rfl rfl (by kernel_rfl) e0
  have h1 := fld hf (i := 1) 3 1 1 rfl rfl rfl (by kernel_rfl) e1
  have h2 := fld hf (i := 2) 3 2 1 rfl rfl rfl (by kernel_rfl) e2
  simp only [List.drop_zero, List.drop_succ_cons, List.take_succ_cons, List.take_zero] at h0 h1 h2
  obtain ⟨u, hu, _⟩ := tr_int Try.underlying3 h0
  obtain ⟨v, hv, _⟩ := tr_int Try.underlying3 h1
  obtain ⟨z, hz, _⟩ := tr_int Try.underlying3 h2
  exact ⟨⟨u, v, z⟩, by injection hu with hu _; injection hv with hv _; injection hz with hz _; rw [hu, hv, hz]; rfl⟩
theorem tr_bd {fuel : Nat} {cs : List Value} {x : DataW H × List MemPlace} (h : DataW.trod enc Try.prog w base spare held fuel 111 cs = some x) : ∃ r : Bd, cs = cB r := by
  obtain ⟨xs, n, _, _, hc, hxl, hf⟩ := DataW.trod_struct Try.underlying111 h
  obtain ⟨a, b, c, rfl⟩ := list3 (hc.trans (by kernel_rfl))
  have hl : xs.length = 2 := hxl.trans rfl
  obtain ⟨y0, e0⟩ := some_of (l := xs) (i := 0) (by omega)
  obtain ⟨y1, e1⟩ := some_of (l := xs) (i := 1) (by omega)
  have h0 := fld hf (i := 0) 3 0 1 rfl rfl rfl (by kernel_rfl) e0
  have h1 := fld hf (i := 1) 25 1 2 rfl rfl rfl (by kernel_rfl) e1
  simp only [List.drop_zero, List.drop_succ_cons, List.take_succ_cons, List.take_zero] at h0 h1
  obtain ⟨u, hu, _⟩ := tr_int Try.underlying3 h0
  obtain ⟨r, hr⟩ := tr_rg h1
  unfold cR at hr
  exact ⟨⟨u, r.lo, r.hi⟩, by injection hu with hu _; injection hr with hr1 hr2; injection hr2 with hr2 _; rw [hu, hr1, hr2]; rfl⟩

theorem lt_of_cell {b o : Nat} {v : Value} (h : w.cell? ⟨b, o, none⟩ = some v) : b < w.heap.size := by
  rcases Nat.lt_or_ge b w.heap.size with h' | h'
  · exact h'
  · simp [World.cell?, Array.getElem?_eq_none h'] at h

/-- a slice of structs of integers. -/
theorem tr_sl {fuel : Nat} {t e : TypeId} {cs : List Value} {x : DataW H × List MemPlace} (ht : Try.prog.underlying t = some (.slice e)) {sz : Nat} (hsz : 0 < sz) (hC : Try.prog.cellsOf e = sz) {α : Type} [Inhabited α] {c : α → List Value}
    (hc : ∀ {n : Nat} {cs : List Value} {x : DataW H × List MemPlace}, DataW.trod enc Try.prog w base spare held n e cs = some x → ∃ a, cs = c a) (hlen : ∀ a, (c a).length = sz)
    (h : DataW.trod enc Try.prog w base spare held fuel t cs = some x) :
    ∃ (A : Option Addr) (l : List α) (cp : Nat), cs = [.slice A l.length cp] ∧ l.length ≤ cp ∧ cp ≤ maxLen ∧ ∀ F : Nat → Nat → Value, (∀ (k : Nat) (hk : k < l.length) (j : Nat), j < sz → (c l[k])[j]? = some (F k j)) → SlAt w w.heap.size sz A l.length F := by
  rcases open_slice ht h with ⟨rfl, _⟩ | ⟨a, len, cap, m, n, D, Pl, rfl, _, hl, hm, hmm, _, hi⟩
  · exact ⟨none, [], 0, rfl, Nat.le_refl _, by unfold maxLen; omega, fun F _ h => by simp at h⟩
  · have hlm : len ≤ m := by rw [hmm]; split <;> omega
    have hex : ∀ i, ∃ y : α, i < len → ∃ cs', w.cells? base (a.add (i * sz)) sz = some cs' ∧ cs' = c y := fun i => by
      by_cases hil : i < len
      · obtain ⟨cs', h1, h2⟩ := hi i (by omega)
        rw [hC] at h1
        obtain ⟨y, hy⟩ := hc h2
        exact ⟨y, fun _ => ⟨cs', h1, hy⟩⟩
      · exact ⟨default, fun h => absurd h hil⟩
    obtain ⟨f, hf⟩ := Classical.axiomOfChoice hex
    refine ⟨some a, (List.range len).map f, cap, by simp, by simpa using hl, hm, fun F hF h0 => ?_⟩
    have hl0 : 0 < len := by simpa using h0
    obtain ⟨cs0, h1, h2⟩ := hf 0 hl0
    obtain ⟨_, _, h3⟩ := World.cells?_some h1
    have h4 := h3 0 hsz
    rw [h2, List.getElem?_eq_getElem (by rw [hlen]; exact hsz)] at h4
    obtain ⟨b, off, spot⟩ := a
    have hspot : spot = none := by simpa [Addr.add] using World.cell?_spot h4
    subst hspot
    rw [Addr.add_lit, Addr.add_lit] at h4
    refine ⟨b, off, rfl, lt_of_cell h4, fun k j hk hj => ?_⟩
    have hk' : k < len := by simpa using hk
    obtain ⟨csk, g1, g2⟩ := hf k hk'
    obtain ⟨_, _, g3⟩ := World.cells?_some g1
    have g4 := g3 j hj
    rw [Addr.add_lit, Addr.add_lit, g2] at g4
    have g5 := hF k (by simpa using hk') j hj
    rw [List.getElem_map, List.getElem_range] at g5
    rw [show off + (k * sz + j) = off + k * sz + j by omega, g4, g5]
end

section
variable {H : Type} {enc : TypeId × Value → H} {w : World} {base : Nat} {spare : Nat → Bool} {held : Bool} {r : Reach} {b0 : Nat}
set_option maxRecDepth 100000 in
theorem open_rgs {v : Value} {d : DataW H} {p : List MemPlace} (hv : Value.okWide Try.prog w r b0 28 v) (h : DataW.Trod enc Try.prog w base spare held 28 v d p) :
    ∃ A l cp, v = .slice A (l : List Rg).length cp ∧ l.length ≤ cp ∧ cp ≤ maxLen ∧ SlAt w w.heap.size 2 A l.length (fR l) := by
  obtain ⟨a, len, cap, rfl⟩ := okWide_slice Try.underlying28 hv
  obtain ⟨fuel, hf⟩ := h
  obtain ⟨A, l, cp, h1, h2, h3, h4⟩ := tr_sl (sz := 2) (c := cR) Try.underlying28 (by omega) (by kernel_rfl) (fun h => tr_rg h) (fun _ => rfl) hf
  refine ⟨A, l, cp, by injection h1, h2, h3, h4 _ (fun k hk j hj => ?_)⟩
  have e := gR_at hk
  match j, hj with
  | 0, _ => simp [cR, fR, e]
  | 1, _ => simp [cR, fR, e]
set_option maxRecDepth 100000 in
theorem open_ics {v : Value} {d : DataW H} {p : List MemPlace} (hv : Value.okWide Try.prog w r b0 29 v) (h : DataW.Trod enc Try.prog w base spare held 29 v d p) :
    ∃ A l cp, v = .slice A (l : List Ic).length cp ∧ l.length ≤ cp ∧ cp ≤ maxLen ∧ SlAt w w.heap.size 3 A l.length (fC l) := by
  obtain ⟨a, len, cap, rfl⟩ := okWide_slice Try.underlying29 hv
  obtain ⟨fuel, hf⟩ := h
  obtain ⟨A, l, cp, h1, h2, h3, h4⟩ := tr_sl (sz := 3) (c := cC) Try.underlying29 (by omega) (by kernel_rfl) (fun h => tr_ic h) (fun _ => rfl) hf
  refine ⟨A, l, cp, by injection h1, h2, h3, h4 _ (fun k hk j hj => ?_)⟩
  have e := gC_at hk
  match j, hj with
  | 0, _ => simp [cC, fC, e]
  | 1, _ => simp [cC, fC, e]
  | 2, _ => simp [cC, fC, e]

set_option maxRecDepth 100000 in
theorem tr_ints {fuel : Nat} {cs : List Value} {x : DataW H × List MemPlace} (h : DataW.trod enc Try.prog w base spare held fuel 54 cs = some x) :
    ∃ A l cp, cs = [.slice A (l : List Int).length cp] ∧ l.length ≤ cp ∧ cp ≤ maxLen ∧ SlAt w w.heap.size 1 A l.length (fI l) := by
  obtain ⟨A, l, cp, h1, h2, h3, h4⟩ := tr_sl (sz := 1) (α := Int) (c := fun n => [.int .i64 n]) Try.underlying54 (by omega) (by kernel_rfl) (fun h => by obtain ⟨n, hn, _⟩ := tr_int Try.underlying3 h; exact ⟨n, hn⟩) (fun _ => rfl) h
  refine ⟨A, l, cp, h1, h2, h3, h4 _ (fun k hk j hj => ?_)⟩
  obtain rfl : j = 0 := by omega
  simp [fI, gI, hk]

set_option maxRecDepth 100000 in
theorem open_glass {v : Value} {d : DataW H} {p : List MemPlace} (hv : Value.okWide Try.prog w r b0 27 v) (h : DataW.Trod enc Try.prog w base spare held 27 v d p) :
    ∃ (g : Gl) (Ab Ad : Option Addr) (cb cd : Nat), v = .agg #[.int .i64 g.base, .slice Ab g.bands.length cb, .slice Ad g.depths.length cd, .int .i64 g.blo, .int .i64 g.bhi] ∧ (g.bands.length ≤ maxLen ∧ g.depths.length ≤ maxLen) ∧ GlIn w w.heap.size g Ab Ad := by
  obtain ⟨cs, rfl, hsz⟩ := okWide_struct Try.underlying27 hv
  obtain ⟨l⟩ := cs
  obtain ⟨c0, c1, c2, c3, c4, rfl⟩ := list5 (l := l) (hsz.trans (by kernel_rfl))
  obtain ⟨fuel, hfu⟩ := h
  obtain ⟨xs, n, _, _, hc, hxl, hf⟩ := DataW.trod_struct Try.underlying27 hfu
  have hl : xs.length = 4 := hxl.trans rfl
  obtain ⟨y0, e0⟩ := some_of (l := xs) (i := 0) (by omega)
  obtain ⟨y1, e1⟩ := some_of (l := xs) (i := 1) (by omega)
  obtain ⟨y2, e2⟩ := some_of (l := xs) (i := 2) (by omega)
  obtain ⟨y3, e3⟩ := some_of (l := xs) (i := 3) (by omega)
  have h0 := fld hf (i := 0) 3 0 1 rfl rfl rfl (by kernel_rfl) e0
  have h1 := fld hf (i := 1) 22 1 1 rfl rfl rfl (by kernel_rfl) e1
  have h2 := fld hf (i := 2) 23 2 1 rfl rfl rfl (by kernel_rfl) e2
  have h3 := fld hf (i := 3) 25 3 2 rfl rfl rfl (by kernel_rfl) e3
  simp only [Value.cells, List.drop_zero, List.drop_succ_cons, List.take_succ_cons, List.take_zero] at h0 h1 h2 h3
  obtain ⟨u, hu, _⟩ := tr_int Try.underlying3 h0
  obtain ⟨Ab, lb, cb, hb1, hb2, hb3, hb4⟩ := tr_sl (sz := 3) (c := cB) Try.underlying22 (by omega) (by kernel_rfl) (fun h => tr_bd h) (fun _ => rfl) h1
  obtain ⟨Ad, ld, cd, hd1, hd2, hd3, hd4⟩ := tr_sl (sz := 2) (c := cD) Try.underlying23 (by omega) (by kernel_rfl) (fun h => tr_dp h) (fun _ => rfl) h2
  obtain ⟨q, hq⟩ := tr_rg h3
  unfold cR at hq
  injection hu with hu _
  injection hb1 with hb1 _
  injection hd1 with hd1 _
  injection hq with hq1 hq2
  injection hq2 with hq2 _
  refine ⟨⟨u, lb, ld, q.lo, q.hi⟩, Ab, Ad, cb, cd, by rw [hu, hb1, hd1, hq1, hq2], ⟨Nat.le_trans hb2 hb3, Nat.le_trans hd2 hd3⟩, ⟨hb4 _ (fun k hk j hj => ?_), hd4 _ (fun k hk j hj => ?_)⟩⟩
  · have e := gB_at hk
    match j, hj with
    | 0, _ => simp [cB, fB, e]
    | 1, _ => simp [cB, fB, e]
    | 2, _ => simp [cB, fB, e]
  · have e := gD_at hk
    match j, hj with
    | 0, _ => simp [cD, fD, e]
    | 1, _ => simp [cD, fD, e]

set_option maxRecDepth 100000 in
theorem open_truth {v : Value} {d : DataW H} {p : List MemPlace} (hv : Value.okWide Try.prog w r b0 56 v) (h : DataW.Trod enc Try.prog w base spare held 56 v d p) :
    ∃ (t1 t2 t3 : List Int) (A1 A2 A3 : Option Addr) (c1 c2 c3 : Nat), v = .agg #[.slice A1 t1.length c1, .slice A2 t2.length c2, .slice A3 t3.length c3] ∧ (t1.length ≤ maxLen ∧ t2.length ≤ maxLen ∧ t3.length ≤ maxLen) ∧ SlAt w w.heap.size 1 A1 t1.length (fI t1) ∧ SlAt w w.heap.size 1 A2 t2.length (fI t2) ∧ SlAt w w.heap.size 1 A3 t3.length (fI t3) := by
  obtain ⟨cs, rfl, hsz⟩ := okWide_struct Try.underlying56 hv
  obtain ⟨l⟩ := cs
  obtain ⟨d0, d1, d2, rfl⟩ := list3 (l := l) (hsz.trans (by kernel_rfl))
  obtain ⟨fuel, hfu⟩ := h
  obtain ⟨xs, n, _, _, hc, hxl, hf⟩ := DataW.trod_struct Try.underlying56 hfu
  have hl : xs.length = 3 := hxl.trans rfl
  obtain ⟨y0, e0⟩ := some_of (l := xs) (i := 0) (by omega)
  obtain ⟨y1, e1⟩ := some_of (l := xs) (i := 1) (by omega)
  obtain ⟨y2, e2⟩ := some_of (l := xs) (i := 2) (by omega)
  have h0 := fld hf (i := 0) 54 0 1 rfl rfl rfl (by kernel_rfl) e0
  have h1 := fld hf (i := 1) 54 1 1 rfl rfl rfl (by kernel_rfl) e1
  have h2 := fld hf (i := 2) 54 2 1 rfl rfl rfl (by kernel_rfl) e2
  simp only [Value.cells, List.drop_zero, List.drop_succ_cons, List.take_succ_cons, List.take_zero] at h0 h1 h2
  obtain ⟨A1, t1, c1, p1, p2, p3, p4⟩ := tr_ints h0
  obtain ⟨A2, t2, c2, q1, q2, q3, q4⟩ := tr_ints h1
  obtain ⟨A3, t3, c3, r1, r2, r3, r4⟩ := tr_ints h2
  injection p1 with p1 _
  injection q1 with q1 _
  injection r1 with r1 _
  exact ⟨t1, t2, t3, A1, A2, A3, c1, c2, c3, by rw [p1, q1, r1], ⟨Nat.le_trans p2 p3, Nat.le_trans q2 q3, Nat.le_trans r2 r3⟩, p4, q4, r4⟩
end

theorem laidOut : laidOutB Try.prog = true := by kernel_rfl
/-- these types can be read. -/
def AllRd : List TypeId → Prop
  | [] => True
  | t :: ts => (Try.prog.readableRec t = true ∧ t < Try.prog.types.size) ∧ AllRd ts
/-- the arguments read as they did, where below the heap's old size nothing has turned. -/
theorem trodAll_stays {H : Type} {enc : TypeId × Value → H} {W W' : World} {sp : Nat → Bool} (hb : Below W.heap.size W W') : ∀ {ts : List TypeId} {vs : List Value} {ds : List (DataW H)} {ps : List MemPlace},
    AllRd ts → DataW.TrodAll enc Try.prog W 0 (fun _ => true) true ts vs ds ps → (∀ p ∈ ps, sp p.block = true) → (∀ p ∈ ps, p.block < W.heap.size) → DataW.TrodAll enc Try.prog W' 0 sp true ts vs ds ps
  | [], vs, ds, ps, _, h, _, _ => by
    obtain ⟨rfl, rfl, rfl⟩ := trodAll_nil h
    exact trodAll_mk0
  | t :: ts, vs, ds, ps, ht, h, hs, hlt => by
    obtain ⟨v, vs', d, ds', p, q, rfl, rfl, rfl, h1, h2⟩ := trodAll_cons h
    exact trodAll_cons_mk (WideElems.Trod_stays laidOut ht.1.1 ht.1.2 h1 (fun x hx => hb.same (hlt x (List.mem_append.2 (.inl hx)))) (fun x hx => hs x (List.mem_append.2 (.inl hx)))) (trodAll_stays hb ht.2 h2 (fun x hx => hs x (List.mem_append.2 (.inr hx))) (fun x hx => hlt x (List.mem_append.2 (.inr hx))))

theorem own : ownKnob Try.prog.godebug = none := by kernel_rfl

end Go.Proofs.Ytlgmeofpkfliaaa
end

section
namespace Go.Proofs.Ytlgmeofpkfliaaa
open Go.RowKit Go.ChangeShapes Go.WideShapes Go.ChangeAt

section
variable {H : Type} {enc : TypeId × Value → H}
/-- the post of a law: it returned true, and below the heap's old size nothing has turned. -/
theorem post_law {f : Func} {s : ChangeSpec} {W W' : World} {args : Array Value} {ds : List (DataW H)} {before : List MemPlace} (hvars : s.vars = [])
    (hW : DataW.Whole enc Try.prog f.params.toList s.vars false W args.toList ds [] before) (hrt : f.resultTypes = #[4]) (hfn : s.fn H (ds ++ []) = { results := [.lit (.bool true)], args := ds }) (hrd : AllRd f.params.toList) (hb : Below W.heap.size W W') :
    s.post enc Try.prog f false true false false W args (.bool true) W' := by
  have hlt : ∀ p ∈ before, p.block < W.heap.size := fun p hp => hW.lt p hp
  have hold : ∀ p ∈ before, (fun b => decide (b < W.heap.size)) p.block = true := fun p hp => by simpa using hlt p hp
  have hW2 := hW
  obtain ⟨pa, pv, hA, hV, hps, hz, hn⟩ := hW2
  rw [hvars] at hV
  obtain ⟨_, rfl⟩ := trodVars_none hV
  rw [List.append_nil] at hps
  subst hps
  have hargs : ∀ sp : Nat → Bool, (∀ p ∈ before, sp p.block = true) → DataW.TrodAll enc Try.prog W' 0 sp true f.params.toList args.toList (s.fn H (ds ++ [])).args before := fun sp hsp => by
    rw [hfn]; exact trodAll_stays hb hrd hA hsp hlt
  have hres : ∀ (b : Nat) (sp : Nat → Bool) (hd : Bool), DataW.TrodAll enc Try.prog W' b sp hd f.resultTypes.toList ((Value.bool true).resultList f.resultTypes.size) (s.fn H (ds ++ [])).results [] := fun b sp hd => by
    rw [hfn, hrt]; exact trodAll_cons_mk (shut_bool Try.underlying4 _) trodAll_mk0
  have hvrs : ∀ sp : Nat → Bool, DataW.TrodVars enc Try.prog W' sp s.vars (s.fn H (ds ++ [])).vars [] := fun sp => by rw [hvars, hfn]; exact rfl
  refine ⟨ds, [], before, [], before, [], hW, hres _ _ _, hargs _ hold, hvrs _, World.keptBut_mono (fun p hp => ⟨hp, ?_⟩) (hb.frame (· ∈ before)), fun h => by cases h⟩
  exact Or.inr (by simpa using hp)
end
end Go.Proofs.Ytlgmeofpkfliaaa
end

section
namespace Go.Proofs.Ytlgmeofpkfliaaa
open Go.RowKit
attribute [local go_sem] Ex.cell? Ex.frozen? Gx.cell?

set_option maxRecDepth 100000 in
set_option maxHeartbeats 800000 in
theorem CreepR_any (g : Gl) (Ab Ad : Option Addr) (cb cd : Nat) (day : Int) (w : World) (hg : GlIn w w.heap.size g Ab Ad) (hl : g.bands.length ≤ 1000000) :
    Calls Try.prog 60 #[.agg #[.int .i64 g.base, .slice Ab g.bands.length cb, .slice Ad g.depths.length cd, .int .i64 g.blo, .int .i64 g.bhi], .int .i64 day] w fun e w' =>
      e = .returned (.agg #[.int .i64 (creepTo g.bands day g.bands.length).lo, .int .i64 (creepTo g.bands day g.bands.length).hi]) ∧ Below w.heap.size w w' := by
  go_enter Try.func60, Try.ntmps60
  go_wp2_with fail
  go_loopw [6] (fun i wr => ∃ k : Nat, k ≤ g.bands.length ∧ i = .int .i64 k ∧ Below w.heap.size w wr ∧ Blk wr w.heap.size 27 #[.int .i64 g.base, .slice Ab g.bands.length cb, .slice Ad g.depths.length cd, .int .i64 g.blo, .int .i64 g.bhi] ∧ Blk wr (w.heap.size + 1) 25 #[.int .i64 0, .int .i64 0] ∧ Blk wr (w.heap.size + 1 + 1) 25 #[.int .i64 (creepTo g.bands day k).lo, .int .i64 (creepTo g.bands day k).hi])
    (fun i _ => g.bands.length - (intOf i).toNat)
  case atStart => exact ⟨0, by omega, rfl, ex_alloc (ex_alloc (ex_alloc (Below.refl _ _) _) _) _, ((Blk.new _ _ _).alloc _).alloc _, (Blk.new' _ _ _ (by simp)).alloc _, Blk.new' _ _ _ (by simp)⟩
  case round =>
    obtain ⟨k, hk, rfl, hbl, hq, hq1, hblk⟩ := hrel
    have a1 : wr.cell? ⟨w.heap.size, 1, none⟩ = some (.slice Ab g.bands.length cb) := hq.cell 1
    have l1 := hq.lt
    have hc0 : wr.cell? ⟨w.heap.size + 1 + 1, 0, none⟩ = some (.int .i64 (creepTo g.bands day k).lo) := hblk.cell 0
    have hc1 : wr.cell? ⟨w.heap.size + 1 + 1, 1, none⟩ = some (.int .i64 (creepTo g.bands day k).hi) := hblk.cell 1
    have hf0 := hblk.frozen 0
    have hf1 := hblk.frozen 1
    have hlt0 := hblk.lt
    have hd0 : wr.cell? ⟨w.heap.size + 1, 0, none⟩ = some (.int .i64 0) := hq1.cell 0
    have hd1 : wr.cell? ⟨w.heap.size + 1, 1, none⟩ = some (.int .i64 0) := hq1.cell 1
    have hg0 := hq1.frozen 0
    have hg1 := hq1.frozen 1
    have hlt1 := hq1.lt
    by_cases hlt : k < g.bands.length
    · obtain ⟨b, off, rfl, hbB, h0, h1, h2⟩ := IsBds.at_ (hg.b.below hbl) hlt
      by_cases hd : (gB g.bands k).from_ ≤ day
      · go_wp2
        go_roundw
        case rel => exact ⟨k + 1, by omega, by go_num, ex_set (ex_set hbl (by simp; omega) _) (by simp; omega) _, (hq.far (p := ⟨w.heap.size + 1 + 1, 0, none⟩) (by simp; omega) _).far (p := ⟨w.heap.size + 1 + 1, 1, none⟩) (by simp; omega) _, (hq1.far (p := ⟨w.heap.size + 1 + 1, 0, none⟩) (by simp) _).far (p := ⟨w.heap.size + 1 + 1, 1, none⟩) (by simp) _, by rw [creepTo, if_pos hd]; exact (hblk.set_ 0 _).set_ 1 _⟩
        case measure => simp [intOf]; omega
      · go_wp2
        go_roundw
        case rel => exact ⟨k + 1, by omega, by go_num, hbl, hq, hq1, by rw [creepTo, if_neg hd]; exact hblk⟩
        case measure => simp [intOf]; omega
    · have HK : Hid (k = g.bands.length) := Lib.hid (by omega)
      go_wp2
      have r5 := (hq1.set_ 0 (.int .i64 (creepTo g.bands day k).lo)).set_ 1 (.int .i64 (creepTo g.bands day k).hi)
      simp only [List.setIfInBounds_toArray, List.set_cons_zero, List.set_cons_succ] at r5
      refine bodyPost_ret (results_cell_row rfl _ _ (w.heap.size + 1) 25 #[.int .i64 (creepTo g.bands day k).lo, .int .i64 (creepTo g.bands day k).hi] (0, 0) _ rfl r5 rfl rfl rfl) rfl ?_
      exact ⟨by rw [HK.out], ex_set (ex_set hbl (by first | (simp; done) | (simp; omega)) _) (by first | (simp; done) | (simp; omega)) _⟩

set_option maxHeartbeats 800000 in
theorem SinksR_any (g : Gl) (Ab Ad : Option Addr) (cb cd : Nat) (heat : Int) (w : World) (hg : GlIn w w.heap.size g Ab Ad) (hl : g.depths.length ≤ 1000000) :
    Calls Try.prog 47 #[.agg #[.int .i64 g.base, .slice Ab g.bands.length cb, .slice Ad g.depths.length cd, .int .i64 g.blo, .int .i64 g.bhi], .int .i64 heat] w fun e w' => e = .returned (.int .i64 (sinksTo g.depths heat g.depths.length)) ∧ Below w.heap.size w w' := by
  go_enter Try.func47, Try.ntmps47
  go_wp2_with fail
  go_loopw [5, 6] (fun s i wr => ∃ k : Nat, k ≤ g.depths.length ∧ i = .int .i64 k ∧ s = .int .i64 (sinksTo g.depths heat k) ∧ Below w.heap.size w wr ∧ Blk wr w.heap.size 27 #[.int .i64 g.base, .slice Ab g.bands.length cb, .slice Ad g.depths.length cd, .int .i64 g.blo, .int .i64 g.bhi])
    (fun _ i _ => g.depths.length - (intOf i).toNat)
  case atStart => exact ⟨0, by omega, rfl, rfl, ex_alloc (Below.refl _ _) _, Blk.new _ _ _⟩
  case round =>
    obtain ⟨k, hk, rfl, rfl, hbl, hq⟩ := hrel
    have a1 : wr.cell? ⟨w.heap.size, 2, none⟩ = some (.slice Ad g.depths.length cd) := hq.cell 2
    have l1 := hq.lt
    by_cases hlt : k < g.depths.length
    · obtain ⟨b, off, rfl, hbB, h0, h1⟩ := IsDps.at_ (hg.d.below hbl) hlt
      by_cases hd : (gD g.depths k).from_ ≤ heat
      · go_wp2
        go_roundw
        case rel => exact ⟨k + 1, by omega, by go_num, by rw [sinksTo, if_pos hd], hbl, hq⟩
        case measure => simp [intOf]; omega
      · go_wp2
        go_roundw
        case rel => exact ⟨k + 1, by omega, by go_num, by rw [sinksTo, if_neg hd], hbl, hq⟩
        case measure => simp [intOf]; omega
    · have HK : Hid (k = g.depths.length) := Lib.hid (by omega)
      go_wp2
      go_ret
      exact ⟨by rw [← HK.out]; rfl, hbl⟩

theorem max3_eq (x y z : Int) : (if z > (if y > x then y else x) then z else (if y > x then y else x)) = mx3 x y z := by
  unfold mx3
  split <;> split <;> omega
theorem wpList_max3 {P : Program} {ops : Array Oper} {rest : List Oper} {o : Oper} {a : Act} {Q : Exit → Act → World → Prop} (w : World) (hgd : o.guard = none) (p q s : Operand) (ts : Array TypeId)
    (hop : o.op = .call { callee := .builtin .max, args := #[p, q, s], argTypes := ts }) (x y z : Int) (h1 : a.eval p = .int .i64 x) (h2 : a.eval q = .int .i64 y) (h3 : a.eval s = .int .i64 z)
    (hK : wpList P ops Q rest (a.put o.dst (.int .i64 (mx3 x y z))) w) : wpList P ops Q (o :: rest) a w := by
  refine wpList_plain hgd fun K hK' => ?_
  have hrun := run_max_int3 (P := P) (w := w) ts o.type .i64 .i64 .i64 x y z
  rw [max3_eq] at hrun
  unfold Oper.wp
  simp only [execOp, hop, resolve, invoke, builtin, h1, h2, h3, hrun, Result.andThen, Sem.run_bind, Sem.run_pure, List.map_toArray, List.map_cons, List.map_nil]
  exact hK' _ _ hK

theorem truth_len {g : Gl} {h : List Rg} {t1 t2 t3 : List Int} (hn : ¬ (t1.length = h.length ∧ t2.length = h.length ∧ t3.length = h.length)) : truthB g h t1 t2 t3 = false := by
  cases ht : truthB g h t1 t2 t3
  · rfl
  · exact absurd (truthB_iff.1 ht).1 hn
theorem truth_day {g : Gl} {h : List Rg} {t1 t2 t3 : List Int} {k : Nat} (hk : k < h.length) (hd : dayOk g h t1 t2 t3 k = false) : truthB g h t1 t2 t3 = false := by
  cases ht : truthB g h t1 t2 t3
  · rfl
  · have := (truthB_iff.1 ht).2 k hk
    rw [hd] at this; cases this

set_option maxRecDepth 100000 in
set_option maxHeartbeats 3200000 in
theorem IsTruth_any (g : Gl) (Ab Ad Ah : Option Addr) (cb cd ch : Nat) (h : List Rg) (w : World) (hg : GlIn w w.heap.size g Ab Ad) (hh : SlAt w w.heap.size 2 Ah h.length (fR h)) (A1 A2 A3 : Option Addr) (c1 c2 c3 : Nat) (t1 t2 t3 : List Int) (k1 : SlAt w w.heap.size 1 A1 t1.length (fI t1)) (k2 : SlAt w w.heap.size 1 A2 t2.length (fI t2)) (k3 : SlAt w w.heap.size 1 A3 t3.length (fI t3)) (hl5 : g.bands.length ≤ 1000000) (hl6 : h.length ≤ 1000000) :
    Calls Try.prog 44 #[.agg #[.int .i64 g.base, .slice Ab g.bands.length cb, .slice Ad g.depths.length cd, .int .i64 g.blo, .int .i64 g.bhi], .slice Ah h.length ch, .agg #[.slice A1 t1.length c1, .slice A2 t2.length c2, .slice A3 t3.length c3]] w fun e w' => e = .returned (.bool (truthB g h t1 t2 t3)) ∧ Below w.heap.size w w' := by
  have hb1 := ex_alloc (ex_alloc (Below.refl w.heap.size w) (.cells #[.int .i64 g.base, .slice Ab g.bands.length cb, .slice Ad g.depths.length cd, .int .i64 g.blo, .int .i64 g.bhi] 27)) (.cells #[.slice A1 t1.length c1, .slice A2 t2.length c2, .slice A3 t3.length c3] 56)
  have q1 : Blk ((w.alloc (.cells #[.int .i64 g.base, .slice Ab g.bands.length cb, .slice Ad g.depths.length cd, .int .i64 g.blo, .int .i64 g.bhi] 27)).alloc (.cells #[.slice A1 t1.length c1, .slice A2 t2.length c2, .slice A3 t3.length c3] 56)) w.heap.size 27 #[.int .i64 g.base, .slice Ab g.bands.length cb, .slice Ad g.depths.length cd, .int .i64 g.blo, .int .i64 g.bhi] := (Blk.new _ _ _).alloc _
  have q2 : Blk ((w.alloc (.cells #[.int .i64 g.base, .slice Ab g.bands.length cb, .slice Ad g.depths.length cd, .int .i64 g.blo, .int .i64 g.bhi] 27)).alloc (.cells #[.slice A1 t1.length c1, .slice A2 t2.length c2, .slice A3 t3.length c3] 56)) (w.heap.size + 1) 56 #[.slice A1 t1.length c1, .slice A2 t2.length c2, .slice A3 t3.length c3] := Blk.new' _ _ _ (by simp)
  by_cases h1 : t1.length = h.length
  · by_cases h2 : t2.length = h.length
    · by_cases h3 : t3.length = h.length
      · have e1 : ((t1.length : Int) != (h.length : Int)) = false := by simp [h1]
        have e2 : ((t2.length : Int) != (h.length : Int)) = false := by simp [h2]
        have e3 : ((t3.length : Int) != (h.length : Int)) = false := by simp [h3]
        have e1' : (t1.length != h.length) = false := by simp [h1]
        have e2' : (t2.length != h.length) = false := by simp [h2]
        have e3' : (t3.length != h.length) = false := by simp [h3]
        have HL := Lib.hid (show t1.length = h.length ∧ t2.length = h.length ∧ t3.length = h.length from ⟨h1, h2, h3⟩)
        clear h1 h2 h3
        go_enter Try.func44, Try.ntmps44
        go_wp2_with fail
        go_loopw [7, 8] (fun i _ wr => ∃ k : Nat, k ≤ h.length ∧ i = .int .i64 k ∧ (∀ j, j < k → dayOk g h t1 t2 t3 j = true) ∧ Below w.heap.size w wr ∧ Blk wr w.heap.size 27 #[.int .i64 g.base, .slice Ab g.bands.length cb, .slice Ad g.depths.length cd, .int .i64 g.blo, .int .i64 g.bhi] ∧ Blk wr (w.heap.size + 1) 56 #[.slice A1 t1.length c1, .slice A2 t2.length c2, .slice A3 t3.length c3])
          (fun i _ _ => h.length - (intOf i).toNat)
        case atStart => exact ⟨0, by omega, rfl, fun j hj => by omega, hb1, q1, q2⟩
        case round =>
          clear hb1 q1 q2 e1 e2 e3 e1' e2' e3'
          obtain ⟨k, hk, rfl, hag, hbl, q1, q2⟩ := hrel
          have HAG := Lib.hid hag
          clear hag
          by_cases hlt : k < h.length
          · have a0 : wr.cell? ⟨w.heap.size, 0, none⟩ = some (.int .i64 g.base) := q1.cell 0
            have a1 : wr.cell? ⟨w.heap.size, 1, none⟩ = some (.slice Ab g.bands.length cb) := q1.cell 1
            have a2 : wr.cell? ⟨w.heap.size, 2, none⟩ = some (.slice Ad g.depths.length cd) := q1.cell 2
            have a3 : wr.cell? ⟨w.heap.size, 3, none⟩ = some (.int .i64 g.blo) := q1.cell 3
            have a4 : wr.cell? ⟨w.heap.size, 4, none⟩ = some (.int .i64 g.bhi) := q1.cell 4
            have l1 := q1.lt
            have HO : Hid (dayOk g h t1 t2 t3 k = (inB (gI t1 k) (gR h k).lo (gR h k).hi && (inB (gI t2 k) (creepTo g.bands (k : Int) g.bands.length).lo (creepTo g.bands (k : Int) g.bands.length).hi && inB (gI t3 k) g.blo g.bhi))) := Lib.hid rfl
            have HBAD : Hid (dayOk g h t1 t2 t3 k = false → truthB g h t1 t2 t3 = false) := Lib.hid (truth_day hlt)
            go_wp2_with fail
            refine (CreepR_any g _ _ _ _ _ _ ((hg.below hbl).up hbl.size) hl5).mono ?_
            rintro e w2 ⟨rfl, hb2⟩
            generalize (creepTo g.bands (k : Int) g.bands.length).lo = clo at *
            generalize (creepTo g.bands (k : Int) g.bands.length).hi = chi at *
            have hB2 := ex_trans hbl hb2
            have hB3 := ex_alloc hB2 (.cells #[.int .i64 clo, .int .i64 chi] 25)
            have p1 := (q1.below hb2 q1.lt).alloc (.cells #[.int .i64 clo, .int .i64 chi] 25)
            have p2 := (q2.below hb2 q2.lt).alloc (.cells #[.int .i64 clo, .int .i64 chi] 25)
            have p3 : Blk (w2.alloc (.cells #[.int .i64 clo, .int .i64 chi] 25)) w2.heap.size 25 #[.int .i64 clo, .int .i64 chi] := Blk.new _ _ _
            obtain ⟨bh, oh, rfl, hbh, s0, s1⟩ := IsRgs.at_ (hh.below hB3) hlt
            obtain ⟨b1, o1, rfl, hbb1, s3⟩ := IsInts.at_ (k1.below hB3) (show k < t1.length by rw [HL.out.1]; exact hlt)
            obtain ⟨b2, o2, rfl, hbb2, s4⟩ := IsInts.at_ (k2.below hB3) (show k < t2.length by rw [HL.out.2.1]; exact hlt)
            obtain ⟨b3, o3, rfl, hbb3, s5⟩ := IsInts.at_ (k3.below hB3) (show k < t3.length by rw [HL.out.2.2]; exact hlt)
            have z1 : k < t1.length := by rw [HL.out.1]; exact hlt
            have z2 : k < t2.length := by rw [HL.out.2.1]; exact hlt
            have z3 : k < t3.length := by rw [HL.out.2.2]; exact hlt
            go_wp2_with fail
            generalize w2.alloc (.cells #[.int .i64 clo, .int .i64 chi] 25) = W at *
            have hsz := hB3.size
            have m0 : bh < W.heap.size := by omega
            have m1 : b1 < W.heap.size := by omega
            have m2 : b2 < W.heap.size := by omega
            have m3 : b3 < W.heap.size := by omega
            have m4 := p1.lt
            have m5 := p2.lt
            have m6 := p3.lt
            have c0 : W.cell? ⟨w.heap.size + 1, 0, none⟩ = some (.slice (some ⟨b1, o1, none⟩) t1.length c1) := p2.cell 0
            have c1' : W.cell? ⟨w.heap.size + 1, 1, none⟩ = some (.slice (some ⟨b2, o2, none⟩) t2.length c2) := p2.cell 1
            have c2' : W.cell? ⟨w.heap.size + 1, 2, none⟩ = some (.slice (some ⟨b3, o3, none⟩) t3.length c3) := p2.cell 2
            have d3 : W.cell? ⟨w.heap.size, 3, none⟩ = some (.int .i64 g.blo) := p1.cell 3
            have d4 : W.cell? ⟨w.heap.size, 4, none⟩ = some (.int .i64 g.bhi) := p1.cell 4
            have f0 : W.cell? ⟨w2.heap.size, 0, none⟩ = some (.int .i64 clo) := p3.cell 0
            have f1 : W.cell? ⟨w2.heap.size, 1, none⟩ = some (.int .i64 chi) := p3.cell 1
            generalize (gR h k).lo = hlo at *
            generalize (gR h k).hi = hhi at *
            generalize gI t1 k = x1 at *
            generalize gI t2 k = x2 at *
            generalize gI t3 k = x3 at *
            cases v1 : inB x1 hlo hhi
            · have HR : Hid (truthB g h t1 t2 t3 = false) := Lib.hid (HBAD.out (by rw [HO.out, v1]; rfl))
              refine wp_region_ext (by kernel_rfl) (by kernel_rfl) ?_
              repeat (any_goals (first | go_big_quiet_step ((go_at_call 65; exact Calls.ext_same (In_any _ _ _ _)))))
              refine wpQuiet_nil ?_; intro _ hw'; obtain ⟨X, rfl⟩ := hw'
              go_wp2
              go_ret
              exact ⟨by rw [HR.out]; rfl, ex_trans hB3 X.h⟩
            cases v2 : inB x2 clo chi
            · have HR : Hid (truthB g h t1 t2 t3 = false) := Lib.hid (HBAD.out (by rw [HO.out, v1, v2]; rfl))
              refine wp_region_ext (by kernel_rfl) (by kernel_rfl) ?_
              repeat (any_goals (first | go_big_quiet_step ((go_at_call 65; exact Calls.ext_same (In_any _ _ _ _)))))
              refine wpQuiet_nil ?_; intro _ hw'; obtain ⟨X, rfl⟩ := hw'
              go_wp2
              go_ret
              exact ⟨by rw [HR.out]; rfl, ex_trans hB3 X.h⟩
            cases v3 : inB x3 g.blo g.bhi
            · have HR : Hid (truthB g h t1 t2 t3 = false) := Lib.hid (HBAD.out (by rw [HO.out, v1, v2, v3]; rfl))
              refine wp_region_ext (by kernel_rfl) (by kernel_rfl) ?_
              repeat (any_goals (first | go_big_quiet_step ((go_at_call 65; exact Calls.ext_same (In_any _ _ _ _)))))
              refine wpQuiet_nil ?_; intro _ hw'; obtain ⟨X, rfl⟩ := hw'
              go_wp2
              go_ret
              exact ⟨by rw [HR.out]; rfl, ex_trans hB3 X.h⟩
            · have HT : Hid (dayOk g h t1 t2 t3 k = true) := Lib.hid (by rw [HO.out, v1, v2, v3]; rfl)
              refine wp_region_ext (by kernel_rfl) (by kernel_rfl) ?_
              repeat (any_goals (first | go_big_quiet_step ((go_at_call 65; exact Calls.ext_same (In_any _ _ _ _)))))
              refine wpQuiet_nil ?_; intro _ hw'; obtain ⟨X, rfl⟩ := hw'
              have r1 := p1.below X.h m4
              have r2 := p2.below X.h m5
              go_wp2
              go_roundw
              case rel => exact ⟨k + 1, by omega, by go_num, fun j hj => by rcases Nat.lt_succ_iff_lt_or_eq.1 hj with h | h; exact HAG.out j h; rw [h]; exact HT.out, ex_trans hB3 X.h, r1, r2⟩
              case measure => simp [intOf]; omega
          · have HK : Hid (k = h.length) := Lib.hid (by omega)
            have HR : Hid (truthB g h t1 t2 t3 = true) := Lib.hid (truthB_iff.2 ⟨HL.out, fun j hj => HAG.out j (by rw [HK.out]; exact hj)⟩)
            go_wp2
            go_ret
            exact ⟨by rw [HR.out]; rfl, hbl⟩
      · have e1 : ((t1.length : Int) != (h.length : Int)) = false := by simp [h1]
        have e2 : ((t2.length : Int) != (h.length : Int)) = false := by simp [h2]
        have e3 : ((t3.length : Int) != (h.length : Int)) = true := by rw [bne_iff_ne]; omega
        have e1' : (t1.length != h.length) = false := by simp [h1]
        have e2' : (t2.length != h.length) = false := by simp [h2]
        have e3' : (t3.length != h.length) = true := by rw [bne_iff_ne]; omega
        have HR : Hid (truthB g h t1 t2 t3 = false) := Lib.hid (truth_len (fun hc => h3 hc.2.2))
        clear h1 h2 h3
        go_enter Try.func44, Try.ntmps44
        go_wp2
        go_ret
        exact ⟨by rw [HR.out]; rfl, hb1⟩
    · have e1 : ((t1.length : Int) != (h.length : Int)) = false := by simp [h1]
      have e2 : ((t2.length : Int) != (h.length : Int)) = true := by rw [bne_iff_ne]; omega
      have e1' : (t1.length != h.length) = false := by simp [h1]
      have e2' : (t2.length != h.length) = true := by rw [bne_iff_ne]; omega
      have HR : Hid (truthB g h t1 t2 t3 = false) := Lib.hid (truth_len (fun hc => h2 hc.2.1))
      clear h1 h2
      go_enter Try.func44, Try.ntmps44
      go_wp2
      go_ret
      exact ⟨by rw [HR.out]; rfl, hb1⟩
  · have e1 : ((t1.length : Int) != (h.length : Int)) = true := by rw [bne_iff_ne]; omega
    have e1' : (t1.length != h.length) = true := by rw [bne_iff_ne]; omega
    have HR : Hid (truthB g h t1 t2 t3 = false) := Lib.hid (truth_len (fun hc => h1 hc.1))
    clear h1
    go_enter Try.func44, Try.ntmps44
    go_wp2
    go_ret
    exact ⟨by rw [HR.out]; rfl, hb1⟩

end Go.Proofs.Ytlgmeofpkfliaaa
end
