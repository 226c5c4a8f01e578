/- The laws' arguments: what they read as, and the step from a walk to the statement. · The laws: the last step of each row: a walk that returns true and only makes memory gives the statement. -/
import Derived.Deep.Fields
import Derived.Carry
import Derived.ProofKit
import Derived.OpenShut
import Derived.ChangeSame
import Derived.Test.YtkaogjhnogkcdaaGreatJ10
import Derived.Test.YtkaogjhnogkcdaaGreatRows
set_option linter.unusedVariables false
set_option linter.unusedSimpArgs false
set_option linter.unusedSectionVars false
section
namespace Go.Proofs.YtkaogjhnogkcdaaGreat
open Go.RowKit Go.ChangeShapes Go.WideShapes Go.Deep

section
variable {H : Type} {enc : TypeId × Value → H} {w : World} {base : Nat} {spare : Nat → Bool} {held : Bool}

theorem tr_int {fuel : Nat} {t : TypeId} {k : IntKind} {cs : List Value} {x : DataW H × List MemPlace} (ht : Tryz.prog.underlying t = some (.int k)) (h : DataW.trod enc Tryz.prog w base spare held fuel t cs = some x) : ∃ n : Int, cs = [.int k n] ∧ (Lit.int k n).wf = true := by
 obtain ⟨n, h1, _, h2⟩ := DataW.trod_int ht h
 exact ⟨n, h1, h2⟩
theorem list2 {α : Type} {l : List α} (h : l.length = 2) : ∃ a b, l = [a, b] := by
 match l, h with
 | [a, b], _ => exact ⟨a, b, rfl⟩
theorem list3 {α : Type} {l : List α} (h : l.length = 3) : ∃ a b c, l = [a, b, c] := by
 match l, h with
 | [a, b, c], _ => exact ⟨a, b, c, rfl⟩
theorem list5 {α : Type} {l : List α} (h : l.length = 5) : ∃ a b c d e, l = [a, b, c, d, e] := by
 match l, h with
 | [a, b, c, d, e], _ => exact ⟨a, b, c, d, e, rfl⟩
theorem some_of {α : Type} {l : List α} {i : Nat} (h : i < l.length) : ∃ y, l[i]? = some y := ⟨l[i], List.getElem?_eq_getElem h⟩

theorem fld {fs : Array Field} {xs : List (DataW H × List MemPlace)} {cs : List Value} {n : Nat}
  (hf : ∀ (i : Nat) (f : Field), fs[i]? = some f → DataW.trod enc Tryz.prog w base spare held n f.type ((cs.drop f.offset).take (Tryz.prog.cellsOf f.type)) = xs[i]?)
  {i : Nat} {f : Field} {y : DataW H × List MemPlace} (t' off k : Nat) (h1 : fs[i]? = some f) (ht : f.type = t') (ho : f.offset = off) (hk : Tryz.prog.cellsOf t' = k) (hy : xs[i]? = some y) :
  DataW.trod enc Tryz.prog w base spare held n t' ((cs.drop off).take k) = some y := by
 subst ht ho hk; exact (hf i f h1).trans hy

theorem tr_rg {fuel : Nat} {cs : List Value} {x : DataW H × List MemPlace} (h : DataW.trod enc Tryz.prog w base spare held fuel 25 cs = some x) : ∃ r : Rg, cs = cR r := by
 obtain ⟨xs, n, _, _, hc, hxl, hf⟩ := DataW.trod_struct Tryz.underlying25 h
 obtain ⟨a, b, rfl⟩ := list2 (hc.trans (by kernel_rfl))
 have hl : xs.length = 2 := hxl.trans rfl
 obtain ⟨y0, e0⟩ := some_of (l := xs) (i := 0) (by omega)
 obtain ⟨y1, e1⟩ := some_of (l := xs) (i := 1) (by omega)
 have h0 := fld hf (i := 0) 3 0 1 rfl rfl rfl (by kernel_rfl) e0
 have h1 := fld hf (i := 1) 3 1 1 rfl rfl rfl (by kernel_rfl) e1
 simp only [List.drop_zero, List.drop_succ_cons, List.take_succ_cons, List.take_zero] at h0 h1
 obtain ⟨u, hu, _⟩ := tr_int Tryz.underlying3 h0
 obtain ⟨v, hv, _⟩ := tr_int Tryz.underlying3 h1
 exact ⟨⟨u, v⟩, by injection hu with hu _; injection hv with hv _; rw [hu, hv]; rfl⟩
theorem tr_dp {fuel : Nat} {cs : List Value} {x : DataW H × List MemPlace} (h : DataW.trod enc Tryz.prog w base spare held fuel 163 cs = some x) : ∃ r : Dp, cs = cD r := by
 obtain ⟨xs, n, _, _, hc, hxl, hf⟩ := DataW.trod_struct Tryz.underlying163 h
 obtain ⟨a, b, rfl⟩ := list2 (hc.trans (by kernel_rfl))
 have hl : xs.length = 2 := hxl.trans rfl
 obtain ⟨y0, e0⟩ := some_of (l := xs) (i := 0) (by omega)
 obtain ⟨y1, e1⟩ := some_of (l := xs) (i := 1) (by omega)
 have h0 := fld hf (i := 0) 3 0 1 rfl rfl rfl (by kernel_rfl) e0
 have h1 := fld hf (i := 1) 3 1 1 rfl rfl rfl (by kernel_rfl) e1
 simp only [List.drop_zero, List.drop_succ_cons, List.take_succ_cons, List.take_zero] at h0 h1
 obtain ⟨u, hu, _⟩ := tr_int Tryz.underlying3 h0
 obtain ⟨v, hv, _⟩ := tr_int Tryz.underlying3 h1
 exact ⟨⟨u, v⟩, by injection hu with hu _; injection hv with hv _; rw [hu, hv]; rfl⟩
theorem tr_bd {fuel : Nat} {cs : List Value} {x : DataW H × List MemPlace} (h : DataW.trod enc Tryz.prog w base spare held fuel 159 cs = some x) : ∃ r : Bd, cs = cB r := by
 obtain ⟨xs, n, _, _, hc, hxl, hf⟩ := DataW.trod_struct Tryz.underlying159 h
 obtain ⟨a, b, c, rfl⟩ := list3 (hc.trans (by kernel_rfl))
 have hl : xs.length = 2 := hxl.trans rfl
 obtain ⟨y0, e0⟩ := some_of (l := xs) (i := 0) (by omega)
 obtain ⟨y1, e1⟩ := some_of (l := xs) (i := 1) (by omega)
 have h0 := fld hf (i := 0) 3 0 1 rfl rfl rfl (by kernel_rfl) e0
 have h1 := fld hf (i := 1) 25 1 2 rfl rfl rfl (by kernel_rfl) e1
 simp only [List.drop_zero, List.drop_succ_cons, List.take_succ_cons, List.take_zero] at h0 h1
 obtain ⟨u, hu, _⟩ := tr_int Tryz.underlying3 h0
 obtain ⟨r, hr⟩ := tr_rg h1
 unfold cR at hr
 exact ⟨⟨u, r.lo, r.hi⟩, by injection hu with hu _; injection hr with hr1 hr2; injection hr2 with hr2 _; rw [hu, hr1, hr2]; rfl⟩

theorem lt_of_cell {b o : Nat} {v : Value} (h : w.cell? ⟨b, o, none⟩ = some v) : b < w.heap.size := by
 rcases Nat.lt_or_ge b w.heap.size with h' | h'
 ·
  exact h'
 ·
  simp [World.cell?, Array.getElem?_eq_none h'] at h

theorem tr_sl {fuel : Nat} {t e : TypeId} {cs : List Value} {x : DataW H × List MemPlace} (ht : Tryz.prog.underlying t = some (.slice e)) {sz : Nat} (hsz : 0 < sz) (hC : Tryz.prog.cellsOf e = sz) {α : Type} [Inhabited α] {c : α → List Value}
  (hc : ∀ {n : Nat} {cs : List Value} {x : DataW H × List MemPlace}, DataW.trod enc Tryz.prog w base spare held n e cs = some x → ∃ a, cs = c a) (hlen : ∀ a, (c a).length = sz)
  (h : DataW.trod enc Tryz.prog w base spare held fuel t cs = some x) :
  ∃ (A : Option Addr) (l : List α) (cp : Nat), cs = [.slice A l.length cp] ∧ l.length ≤ cp ∧ cp ≤ maxLen ∧ ∀ F : Nat → Nat → Value, (∀ (k : Nat) (hk : k < l.length) (j : Nat), j < sz → (c l[k])[j]? = some (F k j)) → SlAt w w.heap.size sz A l.length F := by
 rcases open_slice ht h with ⟨rfl, _⟩ | ⟨a, len, cap, m, n, D, Pl, rfl, _, hl, hm, hmm, _, hi⟩
 ·
  exact ⟨none, [], 0, rfl, Nat.le_refl _, by unfold maxLen; omega, fun F _ h => by simp at h⟩
 ·
  have hlm : len ≤ m := by rw [hmm]; split <;> omega
  have hex : ∀ i, ∃ y : α, i < len → ∃ cs', w.cells? base (a.add (i * sz)) sz = some cs' ∧ cs' = c y := fun i => by
   by_cases hil : i < len
   ·
    obtain ⟨cs', h1, h2⟩ := hi i (by omega)
    rw [hC] at h1
    obtain ⟨y, hy⟩ := hc h2
    exact ⟨y, fun _ => ⟨cs', h1, hy⟩⟩
   ·
    exact ⟨default, fun h => absurd h hil⟩
  obtain ⟨f, hf⟩ := Classical.axiomOfChoice hex
  refine ⟨some a, (List.range len).map f, cap, by simp, by simpa using hl, hm, fun F hF h0 => ?_⟩
  have hl0 : 0 < len := by simpa using h0
  obtain ⟨cs0, h1, h2⟩ := hf 0 hl0
  obtain ⟨_, _, h3⟩ := World.cells?_some h1
  have h4 := h3 0 hsz
  rw [h2, List.getElem?_eq_getElem (by rw [hlen]; exact hsz)] at h4
  obtain ⟨b, off, spot⟩ := a
  have hspot : spot = none := by simpa [Addr.add] using World.cell?_spot h4
  subst hspot
  rw [Addr.add_lit, Addr.add_lit] at h4
  refine ⟨b, off, rfl, lt_of_cell h4, fun k j hk hj => ?_⟩
  have hk' : k < len := by simpa using hk
  obtain ⟨csk, g1, g2⟩ := hf k hk'
  obtain ⟨_, _, g3⟩ := World.cells?_some g1
  have g4 := g3 j hj
  rw [Addr.add_lit, Addr.add_lit, g2] at g4
  have g5 := hF k (by simpa using hk') j hj
  rw [List.getElem_map, List.getElem_range] at g5
  rw [show off + (k * sz + j) = off + k * sz + j by omega, g4, g5]
end

section
variable {H : Type} {enc : TypeId × Value → H} {w : World} {base : Nat} {spare : Nat → Bool} {held : Bool} {r : Reach} {b0 : Nat}
set_option maxRecDepth 100000 in
theorem open_rgs {v : Value} {d : DataW H} {p : List MemPlace} (hv : Value.okWide Tryz.prog w r b0 30 v) (h : DataW.Trod enc Tryz.prog w base spare held 30 v d p) :
  ∃ A l cp, v = .slice A (l : List Rg).length cp ∧ l.length ≤ cp ∧ cp ≤ maxLen ∧ SlAt w w.heap.size 2 A l.length (fR l) := by
 obtain ⟨a, len, cap, rfl⟩ := okWide_slice Tryz.underlying30 hv
 obtain ⟨fuel, hf⟩ := h
 obtain ⟨A, l, cp, h1, h2, h3, h4⟩ := tr_sl (sz := 2) (c := cR) Tryz.underlying30 (by omega) (by kernel_rfl) (fun h => tr_rg h) (fun _ => rfl) hf
 refine ⟨A, l, cp, by injection h1, h2, h3, h4 _ (fun k hk j hj => ?_)⟩
 have e := gR_at hk
 match j, hj with
 | 0, _ => simp [cR, fR, e]
 | 1, _ => simp [cR, fR, e]
end

theorem laidOut : laidOutB Tryz.prog = true := by kernel_rfl
def AllRd : List TypeId → Prop
 | [] => True
 | t :: ts => (Tryz.prog.readableRec t = true ∧ t < Tryz.prog.types.size) ∧ AllRd ts
theorem trodAll_stays {H : Type} {enc : TypeId × Value → H} {W W' : World} {sp : Nat → Bool} (hb : Below W.heap.size W W') : ∀ {ts : List TypeId} {vs : List Value} {ds : List (DataW H)} {ps : List MemPlace},
  AllRd ts → DataW.TrodAll enc Tryz.prog W 0 (fun _ => true) true ts vs ds ps → (∀ p ∈ ps, sp p.block = true) → (∀ p ∈ ps, p.block < W.heap.size) → DataW.TrodAll enc Tryz.prog W' 0 sp true ts vs ds ps
 | [], vs, ds, ps, _, h, _, _ => by
  obtain ⟨rfl, rfl, rfl⟩ := trodAll_nil h
  exact trodAll_mk0
 | t :: ts, vs, ds, ps, ht, h, hs, hlt => by
  obtain ⟨v, vs', d, ds', p, q, rfl, rfl, rfl, h1, h2⟩ := trodAll_cons h
  exact trodAll_cons_mk (WideElems.Trod_stays laidOut ht.1.1 ht.1.2 h1 (fun x hx => hb.same (hlt x (List.mem_append.2 (.inl hx)))) (fun x hx => hs x (List.mem_append.2 (.inl hx)))) (trodAll_stays hb ht.2 h2 (fun x hx => hs x (List.mem_append.2 (.inr hx))) (fun x hx => hlt x (List.mem_append.2 (.inr hx))))

theorem own : ownKnob Tryz.prog.godebug = none := by kernel_rfl

end Go.Proofs.YtkaogjhnogkcdaaGreat
end

section
namespace Go.Proofs.YtkaogjhnogkcdaaGreat
open Go.RowKit Go.ChangeShapes Go.WideShapes Go.ChangeAt

section
variable {H : Type} {enc : TypeId × Value → H}
theorem post_law {f : Func} {s : ChangeSpec} {W W' : World} {args : Array Value} {ds : List (DataW H)} {before : List MemPlace} (hvars : s.vars = [])
  (hW : DataW.Whole enc Tryz.prog f.params.toList s.vars false W args.toList ds [] before) (hrt : f.resultTypes = #[4]) (hfn : s.fn H (ds ++ []) = { results := [.lit (.bool true)], args := ds }) (hrd : AllRd f.params.toList) (hb : Below W.heap.size W W') :
  s.post enc Tryz.prog f false true false false W args (.bool true) W' := by
 have hlt : ∀ p ∈ before, p.block < W.heap.size := fun p hp => hW.lt p hp
 have hold : ∀ p ∈ before, (fun b => decide (b < W.heap.size)) p.block = true := fun p hp => by simpa using hlt p hp
 have hW2 := hW
 obtain ⟨pa, pv, hA, hV, hps, hz, hn⟩ := hW2
 rw [hvars] at hV
 obtain ⟨_, rfl⟩ := trodVars_none hV
 rw [List.append_nil] at hps
 subst hps
 have hargs : ∀ sp : Nat → Bool, (∀ p ∈ before, sp p.block = true) → DataW.TrodAll enc Tryz.prog W' 0 sp true f.params.toList args.toList (s.fn H (ds ++ [])).args before := fun sp hsp => by
  rw [hfn]; exact trodAll_stays hb hrd hA hsp hlt
 have hres : ∀ (b : Nat) (sp : Nat → Bool) (hd : Bool), DataW.TrodAll enc Tryz.prog W' b sp hd f.resultTypes.toList ((Value.bool true).resultList f.resultTypes.size) (s.fn H (ds ++ [])).results [] := fun b sp hd => by
  rw [hfn, hrt]; exact trodAll_cons_mk (shut_bool Tryz.underlying4 _) trodAll_mk0
 have hvrs : ∀ sp : Nat → Bool, DataW.TrodVars enc Tryz.prog W' sp s.vars (s.fn H (ds ++ [])).vars [] := fun sp => by rw [hvars, hfn]; exact rfl
 refine ⟨ds, [], before, [], before, [], hW, hres _ _ _, hargs _ hold, hvrs _, World.keptBut_mono (fun p hp => ⟨hp, ?_⟩) (hb.frame (· ∈ before)), fun h => by cases h⟩
 exact Or.inr (by simpa using hp)
end
end Go.Proofs.YtkaogjhnogkcdaaGreat
end
