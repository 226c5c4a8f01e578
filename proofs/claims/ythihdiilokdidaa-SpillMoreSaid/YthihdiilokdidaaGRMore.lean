/- Spill: readings of arguments: a weighing. · Spill's outright laws (plain): narrower ranges, and what Fewest and Stocks tell of them. · Spill's laws: in (walk). · Spill's laws: a range of a row of the call's own, to be made narrower in place. · Spill's laws: SpillMore (walk). · The row SpillMore: with one weighing more, or a narrower range of anything, no range of stocks is wider, and no fewer weighings need not be believed. -/
import Derived.WalkKit
import Derived.ProofKit
import Derived.OpenShut
import Derived.Test.YthihdiilokdidaaR12
import Derived.Test.YthihdiilokdidaaR13
import Derived.Test.YthihdiilokdidaaRows
set_option linter.unusedVariables false
set_option linter.unusedSimpArgs false
set_option linter.unusedSectionVars false
section
namespace Go.Proofs.Ythihdiilokdidaa
open Go.RowKit Go.ChangeShapes Go.WideShapes Go.Deep Go.ChangeAt
section
variable {H : Type} {enc : TypeId × Value → H} {w : World} {base : Nat} {spare : Nat → Bool} {held : Bool} {r : Reach} {b0 : Nat}
set_option maxRecDepth 100000 in
theorem open_wgT {v : Value} {d : DataW H} {p : List MemPlace} (hv : Value.okWide Try.prog w r b0 72 v) (h : DataW.Trod enc Try.prog w base spare held 72 v d p) :
    ∃ u : Wg, v = .agg #[.int .i64 u.room, .int .i64 u.day, .int .i64 u.g.lo, .int .i64 u.g.hi] := by
  obtain ⟨cs, rfl, hsz⟩ := okWide_struct Try.underlying72 hv
  obtain ⟨l⟩ := cs
  obtain ⟨c0, c1, c2, c3, rfl⟩ := list4 (l := l) (hsz.trans (by kernel_rfl))
  obtain ⟨fuel, hfu⟩ := h
  obtain ⟨xs, n, _, _, hc, hxl, hf⟩ := DataW.trod_struct Try.underlying72 hfu
  have hl : xs.length = 3 := hxl.trans rfl
  obtain ⟨y0, e0⟩ := some_of (l := xs) (i := 0) (by omega)
  obtain ⟨y1, e1⟩ := some_of (l := xs) (i := 1) (by omega)
  obtain ⟨y2, e2⟩ := some_of (l := xs) (i := 2) (by omega)
  have h0 := fld hf (i := 0) 3 0 1 rfl rfl rfl (by kernel_rfl) e0
  have h1 := fld hf (i := 1) 3 1 1 rfl rfl rfl (by kernel_rfl) e1
  have h2 := fld hf (i := 2) 52 2 2 rfl rfl rfl (by kernel_rfl) e2
  simp only [Value.cells, List.drop_zero, List.drop_succ_cons, List.take_succ_cons, List.take_zero] at h0 h1 h2
  obtain ⟨u0, g0, _⟩ := tr_int Try.underlying3 h0
  injection g0 with g0 _
  obtain ⟨u1, g1, _⟩ := tr_int Try.underlying3 h1
  injection g1 with g1 _
  obtain ⟨r, g2⟩ := tr_rgT h2
  unfold cR at g2
  injection g2 with g2 g3
  injection g3 with g3 _
  exact ⟨⟨u0, u1, r⟩, by rw [g0, g1, g2, g3]⟩
end
end Go.Proofs.Ythihdiilokdidaa
end

section
namespace Go.Proofs.Ythihdiilokdidaa
/-- a narrower range. -/
structure NarR (r r' : Rg) : Prop where
  a : r.lo ≤ r'.lo
  b : r'.lo ≤ r'.hi
  c : r'.hi ≤ r.hi
theorem NarR.inn {r r' : Rg} (h : NarR r r') {n : Int} (hn : inR n r') : inR n r := by
  have := h.a; have := h.c
  unfold inR at hn ⊢
  omega
theorem NarR.refl {r : Rg} (h : r.lo ≤ r.hi) : NarR r r := ⟨Int.le_refl _, h, Int.le_refl _⟩
/-- a works in which one range is narrower, and one weighing more. -/
structure Nar (s : Ws) (L : List Wg) (R : List Rm) (M : List Mv) (K : List Wg) : Prop where
  ck : ckWs ⟨R, s.days, M, K⟩ = 0
  fin : Finer (s.wg L).wo (Ws.wo ⟨R, s.days, M, K⟩)
theorem nar_of {s : Ws} {L : List Wg} {u : Wg} {R : List Rm} {M : List Mv} {K : List Wg} (h : ckWs (s.wg (L ++ [u])) = 0) (hR : R.length = s.rooms.length) (hM : M.length = s.moves.length) (hK : K.length = (L ++ [u]).length)
    (h1 : ∀ r, r < s.rooms.length → NarR (gRm s.rooms r).fst (gRm R r).fst ∧ NarR (gRm s.rooms r).vap (gRm R r).vap)
    (h2 : ∀ i, i < s.moves.length → (gMv M i).day = (gMv s.moves i).day ∧ (gMv M i).src = (gMv s.moves i).src ∧ (gMv M i).dst = (gMv s.moves i).dst ∧ NarR (gMv s.moves i).g (gMv M i).g)
    (h3 : ∀ i, i < (L ++ [u]).length → (gWg K i).room = (gWg (L ++ [u]) i).room ∧ (gWg K i).day = (gWg (L ++ [u]) i).day ∧ NarR (gWg (L ++ [u]) i).g (gWg K i).g) : Nar s L R M K := by
  obtain ⟨hw, hd⟩ := ckWs_iff.1 h
  have w1 : ∀ r, r < s.rooms.length → _ := hw.rooms
  have w2 : ∀ i, i < s.moves.length → _ := hw.grams
  have w3 : ∀ i, i < (L ++ [u]).length → 0 ≤ (gWg (L ++ [u]) i).room ∧ (gWg (L ++ [u]) i).room < (s.rooms.length : Int) ∧ 0 ≤ (gWg (L ++ [u]) i).day ∧ (gWg (L ++ [u]) i).day < (s.wo.days : Int) ∧ 0 ≤ (gWg (L ++ [u]) i).g.lo ∧ (gWg (L ++ [u]) i).g.lo ≤ (gWg (L ++ [u]) i).g.hi ∧ (gWg (L ++ [u]) i).g.hi ≤ 2000 := hw.wgs
  have m1 : ∀ i, i < s.moves.length → 0 ≤ (gMv s.moves i).day ∧ (gMv s.moves i).day < (s.wo.days : Int) := hw.moves.day
  have m2 : ∀ i, i < s.moves.length → -1 ≤ (gMv s.moves i).src ∧ (gMv s.moves i).src < (s.rooms.length : Int) := hw.moves.src
  have m3 : ∀ i, i < s.moves.length → -1 ≤ (gMv s.moves i).dst ∧ (gMv s.moves i).dst < (s.rooms.length : Int) := hw.moves.dst
  have m4 : ∀ i, i < s.moves.length → (gMv s.moves i).src ≠ (gMv s.moves i).dst := hw.moves.ne
  have hl : 0 < s.rooms.length ∧ s.rooms.length ≤ 3 ∧ s.moves.length ≤ 12 ∧ (L ++ [u]).length ≤ 8 := hw.len
  refine ⟨ckWs_iff.2 ⟨⟨⟨?_, ?_, ?_, ?_⟩, hw.days, fun r hr => ?_, ⟨fun i hi => ?_, fun i hi => ?_, fun i hi => ?_, fun i hi => ?_, hw.moves.pos⟩, fun i hi => ?_, fun i hi => ?_⟩, hd⟩, ⟨⟨hR, hM, fun i hi => ?_⟩, rfl, fun r hr n hn => (h1 r hr).1.inn hn, fun r hr n hn => (h1 r hr).2.inn hn, fun i hi n hn => (h2 i hi).2.2.2.inn hn, ?_, fun i hi => ?_⟩⟩
  · show 0 < R.length; omega
  · show R.length ≤ 3; omega
  · show M.length ≤ 12; omega
  · show K.length ≤ 8; omega
  · have hr : r < s.rooms.length := by rw [← hR]; exact hr
    have a := w1 r hr
    have b := h1 r hr
    have b1 := b.1.a; have b2 := b.1.b; have b3 := b.1.c; have b4 := b.2.a; have b5 := b.2.b; have b6 := b.2.c
    show 0 ≤ (gRm R r).fst.lo ∧ (gRm R r).fst.lo ≤ (gRm R r).fst.hi ∧ (gRm R r).fst.hi ≤ 2000 ∧ 0 ≤ (gRm R r).vap.lo ∧ (gRm R r).vap.lo ≤ (gRm R r).vap.hi ∧ (gRm R r).vap.hi ≤ 50
    have a' : 0 ≤ (gRm s.rooms r).fst.lo ∧ (gRm s.rooms r).fst.lo ≤ (gRm s.rooms r).fst.hi ∧ (gRm s.rooms r).fst.hi ≤ 2000 ∧ 0 ≤ (gRm s.rooms r).vap.lo ∧ (gRm s.rooms r).vap.lo ≤ (gRm s.rooms r).vap.hi ∧ (gRm s.rooms r).vap.hi ≤ 50 := a
    omega
  · have hi : i < s.moves.length := by rw [← hM]; exact hi
    show 0 ≤ (gMv M i).day ∧ (gMv M i).day < (s.wo.days : Int)
    rw [(h2 i hi).1]; exact m1 i hi
  · have hi : i < s.moves.length := by rw [← hM]; exact hi
    show -1 ≤ (gMv M i).src ∧ (gMv M i).src < (R.length : Int)
    rw [(h2 i hi).2.1, hR]; exact m2 i hi
  · have hi : i < s.moves.length := by rw [← hM]; exact hi
    show -1 ≤ (gMv M i).dst ∧ (gMv M i).dst < (R.length : Int)
    rw [(h2 i hi).2.2.1, hR]; exact m3 i hi
  · have hi : i < s.moves.length := by rw [← hM]; exact hi
    show (gMv M i).src ≠ (gMv M i).dst
    rw [(h2 i hi).2.1, (h2 i hi).2.2.1]; exact m4 i hi
  · have hi : i < s.moves.length := by rw [← hM]; exact hi
    have a : 0 ≤ (gMv s.moves i).g.lo ∧ (gMv s.moves i).g.lo ≤ (gMv s.moves i).g.hi ∧ (gMv s.moves i).g.hi ≤ 2000 := w2 i hi
    have b := (h2 i hi).2.2.2
    have b1 := b.a; have b2 := b.b; have b3 := b.c
    show 0 ≤ (gMv M i).g.lo ∧ (gMv M i).g.lo ≤ (gMv M i).g.hi ∧ (gMv M i).g.hi ≤ 2000
    omega
  · have hi : i < (L ++ [u]).length := by rw [← hK]; exact hi
    have a := w3 i hi
    obtain ⟨c1, c2, b⟩ := h3 i hi
    have b1 := b.a; have b2 := b.b; have b3 := b.c
    show 0 ≤ (gWg K i).room ∧ (gWg K i).room < (R.length : Int) ∧ 0 ≤ (gWg K i).day ∧ (gWg K i).day < (s.wo.days : Int) ∧ 0 ≤ (gWg K i).g.lo ∧ (gWg K i).g.lo ≤ (gWg K i).g.hi ∧ (gWg K i).g.hi ≤ 2000
    rw [c1, c2, hR]
    omega
  · obtain ⟨c1, c2, c3, _⟩ := h2 i hi
    exact ⟨c1, c2, c3⟩
  · show L.length ≤ K.length
    rw [hK]; simp
  · have hi' : i < (L ++ [u]).length := by have : i < L.length := hi; simp; omega
    obtain ⟨c1, c2, b⟩ := h3 i hi'
    rw [gWg_l (show i < L.length from hi)] at c1 c2 b
    exact ⟨c1, c2, fun n hn => b.inn hn⟩
section
variable {s : Ws} {L : List Wg} {u : Wg} (h : ckWs (s.wg (L ++ [u])) = 0)
include h
theorem nar_base : (∀ r, r < s.rooms.length → NarR (gRm s.rooms r).fst (gRm s.rooms r).fst ∧ NarR (gRm s.rooms r).vap (gRm s.rooms r).vap) ∧ (∀ i, i < s.moves.length → NarR (gMv s.moves i).g (gMv s.moves i).g) ∧ ∀ i, i < (L ++ [u]).length → NarR (gWg (L ++ [u]) i).g (gWg (L ++ [u]) i).g := by
  obtain ⟨hw, hd⟩ := ckWs_iff.1 h
  exact ⟨fun r hr => by have := hw.rooms r hr; exact ⟨.refl this.2.1, .refl this.2.2.2.2.1⟩, fun i hi => .refl (hw.grams i hi).2.1, fun i hi => .refl (hw.wgs i hi).2.2.2.2.2.1⟩
theorem nar_room {k : Nat} (hk : k < s.rooms.length) {a : Rm} (h1 : NarR (gRm s.rooms k).fst a.fst) (h2 : NarR (gRm s.rooms k).vap a.vap) : Nar s L (s.rooms.set k a) s.moves (L ++ [u]) := by
  obtain ⟨b1, b2, b3⟩ := nar_base h
  refine nar_of h (by rw [List.length_set]) rfl rfl (fun r hr => ?_) (fun i hi => ⟨rfl, rfl, rfl, b2 i hi⟩) (fun i hi => ⟨rfl, rfl, b3 i hi⟩)
  rw [gRm_set hk]
  by_cases e : r = k
  · subst e; rw [if_pos rfl]; exact ⟨h1, h2⟩
  · rw [if_neg e]; exact b1 r hr
theorem nar_move {k : Nat} (hk : k < s.moves.length) {a : Mv} (h1 : a.day = (gMv s.moves k).day ∧ a.src = (gMv s.moves k).src ∧ a.dst = (gMv s.moves k).dst) (h2 : NarR (gMv s.moves k).g a.g) : Nar s L s.rooms (s.moves.set k a) (L ++ [u]) := by
  obtain ⟨b1, b2, b3⟩ := nar_base h
  refine nar_of h rfl (by rw [List.length_set]) rfl b1 (fun i hi => ?_) (fun i hi => ⟨rfl, rfl, b3 i hi⟩)
  rw [gMv_set hk]
  by_cases e : i = k
  · subst e; rw [if_pos rfl]; exact ⟨h1.1, h1.2.1, h1.2.2, h2⟩
  · rw [if_neg e]; exact ⟨rfl, rfl, rfl, b2 i hi⟩
theorem nar_wg {k : Nat} (hk : k < (L ++ [u]).length) {a : Wg} (h1 : a.room = (gWg (L ++ [u]) k).room ∧ a.day = (gWg (L ++ [u]) k).day) (h2 : NarR (gWg (L ++ [u]) k).g a.g) : Nar s L s.rooms s.moves ((L ++ [u]).set k a) := by
  obtain ⟨b1, b2, b3⟩ := nar_base h
  refine nar_of h rfl rfl (by rw [List.length_set]) b1 (fun i hi => ⟨rfl, rfl, rfl, b2 i hi⟩) (fun i hi => ?_)
  rw [gWg_set hk]
  by_cases e : i = k
  · subst e; rw [if_pos rfl]; exact ⟨h1.1, h1.2, h2⟩
  · rw [if_neg e]; exact ⟨rfl, rfl, b3 i hi⟩
end
theorem cnt_mono (O : Nat → Bool) : ∀ {f g n : Nat}, f ≤ g → cnt O n f ≤ cnt O n g
  | 0, g, n, _ => by simp [cnt]
  | f + 1, 0, n, h => by omega
  | f + 1, g + 1, n, h => by
    have := cnt_mono O (f := f) (g := g) (n := n + 1) (by omega)
    rw [cnt, cnt]; omega
/-- what the law asks of two works, the second one finer. -/
inductive FinIs (x y : Ws) : Prop where
  | yes (e : stE x = 0) (f : stE y = 0) (h : fwE y = 0) (l : (fwL x).length = 0) (m : (fwL y).length = 0) (r : ∀ r d, r < x.rooms.length → d < x.wo.days → (stkR x.wo off0 r d).lo ≤ (stkR y.wo off0 r d).lo ∧ (stkR y.wo off0 r d).hi ≤ (stkR x.wo off0 r d).hi)
  | no (f : stE y = 9) (e : (stE x = 0 ∧ (fwL x).length = 0) ∨ (stE x = 9 ∧ 0 < (fwL x).length)) (h : (fwE y = 9 ∧ (fwL y).length = 0) ∨ (fwE y = 0 ∧ 0 < (fwL y).length ∧ (fwL x).length ≤ (fwL y).length))
theorem stE_cases {x : Ws} (h : ckWs x = 0) : stE x = 0 ∨ stE x = 9 := by
  unfold stE
  rw [if_pos h]
  split
  · exact .inl rfl
  · exact .inr rfl
theorem fin_is {x y : Ws} (hx : ckWs x = 0) (hy : ckWs y = 0) (hf : Finer x.wo y.wo) (hg : fwE x = 0) : FinIs x y := by
  have ex : stE x = 0 ↔ (fwL x).length = 0 := by
    rw [stE_zero]
    constructor
    · rintro ⟨_, h⟩; exact ((fw_nil hx).2 h).2
    · intro h; exact ⟨hx, (fw_nil hx).1 ⟨hg, h⟩⟩
  have hle : fwE y = 0 → (fwL x).length ≤ (fwL y).length := fun h => by
    have ht := (fw_ok hy h).told
    have h1 := (fw_ok hx hg).min _ (hf.isGood ht.good)
    have h2 := cnt_up y.wgs.length 0 _ ht.up (fun z hz => by have := ht.bd z hz; omega)
    have h3 : x.wgs.length ≤ y.wgs.length := hf.nw
    have h4 := cnt_mono (outL (fwL y)) (n := 0) h3
    omega
  rcases stE_cases hy with f0 | f9
  · have hgy := (stE_zero.1 f0).2
    have hgx := hf.isGood hgy
    obtain ⟨h1, h2⟩ := (fw_nil hy).2 hgy
    have e0 : stE x = 0 := stE_zero.2 ⟨hx, hgx⟩
    refine .yes e0 f0 h1 (ex.1 e0) h2 (fun r d hr hd => ?_)
    have a := good_ends (ckWs_iff.1 hx).1 hgx (r := r) (d := d) hr hd
    have b := good_ends (ckWs_iff.1 hy).1 hgy (r := r) (d := d) (by have : y.wo.rooms.length = x.wo.rooms.length := hf.nr; rw [this]; exact hr) (by rw [hf.days]; exact hd)
    have c := a.2.2 _ (hf.stkZ b.1)
    have d := a.2.2 _ (hf.stkZ b.2.1)
    omega
  · have hng : ¬ Good y.wo off0 := fun h => by rw [stE_zero.2 ⟨hy, h⟩] at f9; cases f9
    refine .no f9 ?_ ?_
    · rcases stE_cases hx with e0 | e9
      · exact .inl ⟨e0, ex.1 e0⟩
      · refine .inr ⟨e9, ?_⟩
        rcases Nat.eq_zero_or_pos (fwL x).length with h | h
        · have := ex.2 h; omega
        · exact h
    · by_cases h0 : fwE y = 0
      · refine .inr ⟨h0, ?_, hle h0⟩
        rcases Nat.eq_zero_or_pos (fwL y).length with h | h
        · exact absurd ((fw_nil hy).1 ⟨h0, h⟩) hng
        · exact h
      · refine .inl ⟨(fw_no hy h0).1, ?_⟩
        unfold fwL
        rw [if_neg h0]
        rfl
end Go.Proofs.Ythihdiilokdidaa
end

section
namespace Go.Proofs.Ythihdiilokdidaa
open Go.RowKit
attribute [local go_sem] Ex.cell? Ex.frozen?

set_option maxRecDepth 100000 in
set_option maxHeartbeats 3200000 in
theorem in_any (A B : Option Addr) (cA cB n D : Nat) (Ra Rb : Nat → Nat → Rg) (rA rB : Nat → Option Addr) (rc rc2 : Nat → Nat) (w : World) (hA : RgsIn w w.heap.size A n D Ra rA rc) (hB : RgsIn w w.heap.size B n D Rb rB rc2) (hn : n ≤ 1000) (hD : 1 ≤ D ∧ D ≤ 1000)
    (hR : ∀ r d, r < n → d < D → (Rb r d).lo ≤ (Ra r d).lo ∧ (Ra r d).hi ≤ (Rb r d).hi) :
    Calls Try.prog 34 #[.slice A n cA, .slice B n cB] w fun e w' => e = .returned (.bool true) ∧ Below w.heap.size w w' := by
  go_enter Try.func34, Try.ntmps34
  have hb0 := Below.refl w.heap.size w
  go_wp2_with fail
  refine wp_loop (fun a W => Rel (fun a W => ∃ i : Nat, i ≤ n ∧ Below w.heap.size w W ∧ ∃ u : Nat → Value, a = ⟨List.toArray (.slice A n cA :: .slice B n cB :: u 2 :: u 3 :: u 4 :: .int .i64 (i : Int) :: u 6 :: u 7 :: u 8 :: u 9 :: u 10 :: u 11 :: u 12 :: u 13 :: u 14 :: u 15 :: u 16 :: u 17 :: u 18 :: u 19 :: u 20 :: u 21 :: u 22 :: u 23 :: u 24 :: u 25 :: u 26 :: u 27 :: u 28 :: u 29 :: u 30 :: u 31 :: u 32 :: u 33 :: u 34 :: u 35 :: u 36 :: u 37 :: u 38 :: u 39 :: u 40 :: u 41 :: u 42 :: u 43 :: u 44 :: u 45 :: u 46 :: u 47 :: u 48 :: u 49 :: u 50 :: u 51 :: u 52 :: u 53 :: u 54 :: u 55 :: u 56 :: u 57 :: u 58 :: u 59 :: u 60 :: u 61 :: u 62 :: u 63 :: u 64 :: u 65 :: u 66 :: u 67 :: u 68 :: u 69 :: u 70 :: u 71 :: u 72 :: u 73 :: []), []⟩) a W) (fun a _ => n - (intOf (a.tmps.getD 5 undef)).toNat) ⟨⟨0, by omega, Below.refl _ _, exFrame (by kernel_rfl)⟩⟩ ?_
  rintro a W ⟨⟨i, hi, hbw, u, rfl⟩⟩
  replace hA := hA.go hbw
  replace hB := hB.go hbw
  have B_W := ex_trans hb0 hbw
  by_cases hli : i < n
  · have hli' : (i : Int) < (n : Int) := by omega
    obtain ⟨bS, oS, b2, o2, e2, hbS, s0, hb2, _, _⟩ := hA.at_ hli (show 0 < D by omega)
    obtain ⟨bT, oT, b4, o4, e4, hbT, t0, hb4, _, _⟩ := hB.at_ hli (show 0 < D by omega)
    rw [e2, e4]
    have HE2 := Lib.hid e2
    have HE4 := Lib.hid e4
    obtain ⟨rck, hrck⟩ : ∃ x, rc i = x := ⟨_, rfl⟩
    rw [hrck] at s0
    obtain ⟨rct, hrct⟩ : ∃ x, rc2 i = x := ⟨_, rfl⟩
    rw [hrct] at t0
    have HRK := Lib.hid (And.intro hrck hrct)
    clear hrck hrct e2 e4
    go_upto_region 6 with fail
    have D6 := (Below.refl W.heap.size W).drew
    refine wp_region_ext_mix 10 [(false, 0), (false, 1), (false, 2), (false, 3), (false, 4), (false, 5), (false, 6), (false, 7), (false, 8), (false, 9)] (by kernel_rfl) (by kernel_rfl) (by intro d _ _ _ _ h; cases d <;> exact h) ?_
    repeat (refine mix_quiet rfl ?_; go_big_quiet_step (fail); refine wpQuiet_nil ?_)
    obtain ⟨Y6, hY⟩ : ∃ Y, W.drew = Y := ⟨_, rfl⟩
    rw [hY] at D6 ⊢
    clear hY
    replace s0 := (D6.cell (p := ⟨bS, oS + i, none⟩) hbS).trans s0
    replace t0 := (D6.cell (p := ⟨bT, oT + i, none⟩) hbT).trans t0
    replace hbS := Nat.lt_of_lt_of_le hbS D6.size
    replace hbT := Nat.lt_of_lt_of_le hbT D6.size
    replace hb2 := Nat.lt_of_lt_of_le hb2 D6.size
    replace hb4 := Nat.lt_of_lt_of_le hb4 D6.size
    replace hA := hA.go D6
    replace hB := hB.go D6
    have B_Y6 := ex_trans B_W D6
    refine mix_nil (r := [_]) rfl ?_
    go_wp2_with fail
    refine wp_loop (fun a W4 => Rel (fun a W4 => ∃ j : Nat, j ≤ D ∧ Below Y6.heap.size Y6 W4 ∧ ∃ u : Nat → Value, a = ⟨List.toArray (.slice (some ⟨bS, oS, none⟩) n cA :: .slice (some ⟨bT, oT, none⟩) n cB :: u 2 :: u 3 :: u 4 :: .int .i64 (i : Int) :: .int .i64 (j : Int) :: u 7 :: u 8 :: u 9 :: u 10 :: u 11 :: u 12 :: u 13 :: u 14 :: u 15 :: u 16 :: u 17 :: u 18 :: u 19 :: u 20 :: u 21 :: u 22 :: u 23 :: u 24 :: u 25 :: u 26 :: u 27 :: u 28 :: u 29 :: u 30 :: u 31 :: u 32 :: u 33 :: u 34 :: u 35 :: u 36 :: u 37 :: u 38 :: u 39 :: u 40 :: u 41 :: u 42 :: u 43 :: u 44 :: u 45 :: u 46 :: u 47 :: u 48 :: u 49 :: u 50 :: u 51 :: u 52 :: u 53 :: u 54 :: u 55 :: u 56 :: u 57 :: u 58 :: u 59 :: u 60 :: u 61 :: u 62 :: u 63 :: u 64 :: u 65 :: u 66 :: u 67 :: u 68 :: u 69 :: u 70 :: u 71 :: u 72 :: u 73 :: []), []⟩) a W4) (fun a _ => D - (intOf (a.tmps.getD 6 undef)).toNat) ⟨⟨0, by omega, Below.refl _ _, exFrame (by kernel_rfl)⟩⟩ ?_
    rintro a W4 ⟨⟨j, hj, hbw4, u4, rfl⟩⟩
    replace s0 := (hbw4.cell (p := ⟨bS, oS + i, none⟩) hbS).trans s0
    replace t0 := (hbw4.cell (p := ⟨bT, oT + i, none⟩) hbT).trans t0
    replace hbS := Nat.lt_of_lt_of_le hbS hbw4.size
    replace hbT := Nat.lt_of_lt_of_le hbT hbw4.size
    replace hb2 := Nat.lt_of_lt_of_le hb2 hbw4.size
    replace hb4 := Nat.lt_of_lt_of_le hb4 hbw4.size
    replace hA := hA.go hbw4
    replace hB := hB.go hbw4
    have B_W4 := ex_trans B_Y6 hbw4
    by_cases hlj : j < D
    · have hlj' : (j : Int) < (D : Int) := by omega
      obtain ⟨bS', oS', b2', o2', e2, hbS', s0', hb2', g0, g1⟩ := hA.at_ hli hlj
      obtain ⟨bT', oT', b4', o4', e4, hbT', t0', hb4', r0, r1⟩ := hB.at_ hli hlj
      have hin := hR i j hli hlj
      obtain ⟨lo, hlo⟩ : ∃ x, (Ra i j).lo = x := ⟨_, rfl⟩
      obtain ⟨hi', hhi⟩ : ∃ x, (Ra i j).hi = x := ⟨_, rfl⟩
      obtain ⟨lo2, hlo2⟩ : ∃ x, (Rb i j).lo = x := ⟨_, rfl⟩
      obtain ⟨hi2, hhi2⟩ : ∃ x, (Rb i j).hi = x := ⟨_, rfl⟩
      rw [hlo] at g0 hin
      rw [hhi] at g1 hin
      rw [hlo2] at r0 hin
      rw [hhi2] at r1 hin
      clear hlo hhi hlo2 hhi2
      have hn1 : ¬ lo < lo2 := by omega
      have hn2 : ¬ hi2 < hi' := by omega
      clear hin
      obtain ⟨rfl, rfl⟩ : bS' = bS ∧ oS' = oS := by have := e2.symm.trans HE2.out; injection this with h; injection h with h1 h2; exact ⟨h1, h2⟩
      obtain ⟨rfl, rfl⟩ : bT' = bT ∧ oT' = oT := by have := e4.symm.trans HE4.out; injection this with h; injection h with h1 h2; exact ⟨h1, h2⟩
      rw [HRK.out.1] at s0'
      rw [HRK.out.2] at t0'
      clear e2 e4 s0 t0 hb2 hb4
      go_upto_region 11 with fail
      have D11 := (Below.refl W4.heap.size W4).drew
      refine wp_region_ext_mix 35 [(false, 0), (false, 1), (false, 2), (false, 3), (false, 4), (false, 5), (false, 6), (false, 7), (false, 8), (false, 9), (false, 10), (false, 11), (false, 12), (false, 13), (false, 14), (false, 15), (false, 16), (false, 17), (false, 18), (false, 19), (false, 20), (false, 21), (false, 22), (false, 23), (false, 24), (false, 25), (false, 26), (false, 27), (false, 28), (false, 29), (false, 30), (false, 31), (false, 32), (false, 33), (false, 34)] (by kernel_rfl) (by kernel_rfl) (by intro d _ _ _ _ h; cases d <;> exact h) ?_
      repeat (refine mix_quiet rfl ?_; go_big_quiet_step (fail); refine wpQuiet_nil ?_)
      have hbw4' := ex_trans hbw4 D11
      refine mix_nil (r := [_]) rfl ?_
      go_wp2_with fail
      refine ⟨⟨⟨j + 1, by omega, hbw4', exFrame (by kernel_rfl)⟩⟩, ?_⟩
      show D - (intOf (.int .i64 ((j : Int) + 1))).toNat < D - (intOf (.int .i64 (j : Int))).toNat
      simp [intOf]
      omega
    · obtain rfl : j = D := by omega
      have hbw3' := ex_trans (ex_trans hbw D6) hbw4
      go_wp2_with fail
      refine ⟨⟨⟨i + 1, by omega, hbw3', exFrame (by kernel_rfl)⟩⟩, ?_⟩
      show n - (intOf (.int .i64 ((i : Int) + 1))).toNat < n - (intOf (.int .i64 (i : Int))).toNat
      simp [intOf]
      omega
  have hie : ¬ (i : Int) < (n : Int) := by omega
  go_wp2
  go_ret
  exact ⟨rfl, hbw⟩
end Go.Proofs.Ythihdiilokdidaa
end

section
namespace Go.Proofs.Ythihdiilokdidaa
open Go.RowKit
theorem StkV.go {s : Ws} {w w' : World} {n : Nat} {A : Option Addr} {c : Nat} {rA : Nat → Option Addr} {rc : Nat → Nat} (h : StkV s w n A c rA rc) (hb : Below w.heap.size w w') : StkV s w' n A c rA rc := ⟨fun e => ⟨(h.yes e).1, (h.yes e).2.go hb⟩, h.no⟩
/-- three rows of the call's own: rooms, moves, weighings. -/
structure Rows3 (W : World) (B0 : Nat) (v1 v2 v3 : Value) (R : List Rm) (M : List Mv) (K : List Wg) : Prop where
  o1 : W.ownsRow B0 76 4 v1 R.length (R.flatMap cRm)
  o2 : W.ownsRow B0 78 5 v2 M.length (M.flatMap cMv)
  o3 : W.ownsRow B0 72 4 v3 K.length (K.flatMap cWg)
theorem Rows3.below {W W' : World} {B0 : Nat} {v1 v2 v3 : Value} {R : List Rm} {M : List Mv} {K : List Wg} (h : Rows3 W B0 v1 v2 v3 R M K) (hb : Below W.heap.size W W') : Rows3 W' B0 v1 v2 v3 R M K := ⟨own_below h.o1 hb, own_below h.o2 hb, own_below h.o3 hb⟩
/-- a store into a row's block leaves a row of another type. -/
theorem own_setNe {W : World} {base base' n n' : Nat} {e t : TypeId} {sz sz' : Nat} {v v' : Value} {xs ys : List Value} (h : W.ownsRow base e sz v n xs) (k : W.ownsRow base' t sz' v' n' ys) (hne : e ≠ t) {g : Nat} (hg : v'.ownBlock = some g) (i : Nat) (u : Value) : (W.setCell ⟨g, i, none⟩ u).ownsRow base e sz v n xs :=
  own_fr h (Fr.set (R := fun x => x = g) W g i u rfl) (fun b hb e2 => own_ownne h k hne hb (by rw [hg, show b = g from e2]))
theorem own_blkOf {W : World} {base n : Nat} {e : TypeId} {sz : Nat} {g c : Nat} {xs : List Value} (h : W.ownsRow base e sz (.slice (some ⟨g, 0, none⟩) n c) n xs) : ∃ cs, Blk W g e cs := by
  rcases h.2 with ⟨e, _⟩ | ⟨g', cap, cur, e, _, hh, _⟩
  · cases e
  · injection e with e1 _ _
    injection e1 with e1
    injection e1 with e1
    subst e1
    exact ⟨cur, hh⟩
theorem blk_two {W : World} {g o : Nat} {T : TypeId} {cs : Array Value} {x y : Value} (h : Blk W g T cs) (h0 : W.cell? ⟨g, o, none⟩ = some x) (h1 : W.cell? ⟨g, o + 1, none⟩ = some y) (v : Value) : (W.setCell ⟨g, o, none⟩ v).cell? ⟨g, o, none⟩ = some v ∧ (W.setCell ⟨g, o, none⟩ v).cell? ⟨g, o + 1, none⟩ = some y := by
  have hs := h.set_ o v
  rw [h.cell] at h0 h1
  have hlt : o < cs.size := (Array.getElem?_eq_some_iff.1 h0).1
  refine ⟨?_, ?_⟩
  · rw [hs.cell, Array.getElem?_setIfInBounds, if_pos rfl, if_pos hlt]
  · rw [hs.cell, Array.getElem?_setIfInBounds, if_neg (by omega)]; exact h1
/-- a place of a range that may be made narrower. -/
structure Tgt (s : Ws) (L : List Wg) (K0 : List Wg) (B0 : Nat) (v1 v2 v3 : Value) (W : World) (g o : Nat) (lo hi : Int) : Prop where
  far : B0 ≤ g
  lt : g < W.heap.size
  c0 : W.cell? ⟨g, o, none⟩ = some (.int .i64 lo)
  c1 : W.cell? ⟨g, o + 1, none⟩ = some (.int .i64 hi)
  fz : ∀ i, W.frozen? ⟨g, i, none⟩ = false
  blk : ∃ T cs, Blk W g T cs
  bd : ckWs (s.wg K0) = 0 → 0 ≤ lo ∧ lo ≤ hi ∧ hi ≤ 2000
  put : ckWs (s.wg K0) = 0 → ∀ W2, Below W.heap.size W W2 → ∀ lo' hi', lo ≤ lo' → lo' ≤ hi' → hi' ≤ hi → ∃ R M K, Nar s L R M K ∧ R.length = s.rooms.length ∧ M.length = s.moves.length ∧ K.length = K0.length ∧ Rows3 ((W2.setCell ⟨g, o, none⟩ (.int .i64 lo')).setCell ⟨g, o + 1, none⟩ (.int .i64 hi')) B0 v1 v2 v3 R M K
section
variable {s : Ws} {L : List Wg} {um : Wg} {B0 : Nat} {v1 v2 v3 : Value} {W : World} {K0 : List Wg} (hK0 : L ++ [um] = K0) (h : Rows3 W B0 v1 v2 v3 s.rooms s.moves K0)
include hK0 h
theorem tgt_fst {k : Nat} (hk : k < s.rooms.length) : ∃ g cap, v1 = .slice (some ⟨g, 0, none⟩) s.rooms.length cap ∧ Tgt s L K0 B0 v1 v2 v3 W g (k * 4) (gRm s.rooms k).fst.lo (gRm s.rooms k).fst.hi := by
  subst hK0
  obtain ⟨g, cap, rfl, hgB, hgW, hc, hfz⟩ := row_at (f := cRm) (sz := 4) (fun _ => rfl) (by omega) h.o1 hk
  have e0 := hc 0 (by omega)
  have e1 := hc 1 (by omega)
  have hat := (gRm_at hk).symm
  refine ⟨g, cap, rfl, hgB, hgW, e0.trans (by rw [hat]; rfl), e1.trans (by rw [hat]; rfl), hfz, ⟨_, own_blkOf h.o1⟩, fun hck => ?_, fun hck W2 hb lo' hi' ha hb' hc' => ?_⟩
  · have := (ckWs_iff.1 hck).1.rooms k hk
    exact ⟨this.1, this.2.1, this.2.2.1⟩
  · have h2 := h.below hb
    obtain ⟨b1, _, _⟩ := nar_base hck
    refine ⟨s.rooms.set k ⟨⟨lo', hi'⟩, (gRm s.rooms k).vap⟩, s.moves, L ++ [um], nar_room hck hk ⟨ha, hb', hc'⟩ (b1 k hk).2, by rw [List.length_set], rfl, rfl, ?_, ?_, ?_⟩
    · have p1 := row_put (f := cRm) (sz := 4) (fun _ => rfl) h2.o1 (g := g) rfl hk (j := 0) (by omega) (u := .int .i64 lo') (a := ⟨⟨lo', (s.rooms[k]).fst.hi⟩, (s.rooms[k]).vap⟩) rfl
      have p2 := row_put (f := cRm) (sz := 4) (fun _ => rfl) p1 (g := g) rfl (k := k) (by rw [List.length_set]; exact hk) (j := 1) (by omega) (u := .int .i64 hi') (a := ⟨⟨lo', hi'⟩, (gRm s.rooms k).vap⟩) (by rw [List.getElem_set_self, hat.symm]; rfl)
      rw [List.set_set] at p2
      exact p2
    · exact own_setNe (own_setNe h2.o2 h2.o1 (by decide) rfl _ _) (row_put (f := cRm) (sz := 4) (fun _ => rfl) h2.o1 (g := g) rfl hk (j := 0) (by omega) (u := .int .i64 lo') (a := ⟨⟨lo', (s.rooms[k]).fst.hi⟩, (s.rooms[k]).vap⟩) rfl) (by decide) rfl _ _
    · exact own_setNe (own_setNe h2.o3 h2.o1 (by decide) rfl _ _) (row_put (f := cRm) (sz := 4) (fun _ => rfl) h2.o1 (g := g) rfl hk (j := 0) (by omega) (u := .int .i64 lo') (a := ⟨⟨lo', (s.rooms[k]).fst.hi⟩, (s.rooms[k]).vap⟩) rfl) (by decide) rfl _ _
theorem tgt_vap {k : Nat} (hk : k < s.rooms.length) : ∃ g cap, v1 = .slice (some ⟨g, 0, none⟩) s.rooms.length cap ∧ Tgt s L K0 B0 v1 v2 v3 W g (k * 4 + 2) (gRm s.rooms k).vap.lo (gRm s.rooms k).vap.hi := by
  subst hK0
  obtain ⟨g, cap, rfl, hgB, hgW, hc, hfz⟩ := row_at (f := cRm) (sz := 4) (fun _ => rfl) (by omega) h.o1 hk
  have e0 := hc 2 (by omega)
  have e1 := hc 3 (by omega)
  have hat := (gRm_at hk).symm
  refine ⟨g, cap, rfl, hgB, hgW, e0.trans (by rw [hat]; rfl), e1.trans (by rw [hat]; rfl), hfz, ⟨_, own_blkOf h.o1⟩, fun hck => ?_, fun hck W2 hb lo' hi' ha hb' hc' => ?_⟩
  · have := (ckWs_iff.1 hck).1.rooms k hk
    have a : 0 ≤ (gRm s.rooms k).fst.lo ∧ (gRm s.rooms k).fst.lo ≤ (gRm s.rooms k).fst.hi ∧ (gRm s.rooms k).fst.hi ≤ 2000 ∧ 0 ≤ (gRm s.rooms k).vap.lo ∧ (gRm s.rooms k).vap.lo ≤ (gRm s.rooms k).vap.hi ∧ (gRm s.rooms k).vap.hi ≤ 50 := this
    exact ⟨a.2.2.2.1, a.2.2.2.2.1, by omega⟩
  · have h2 := h.below hb
    obtain ⟨b1, _, _⟩ := nar_base hck
    have q1 := row_put (f := cRm) (sz := 4) (fun _ => rfl) h2.o1 (g := g) rfl hk (j := 2) (by omega) (u := .int .i64 lo') (a := ⟨(s.rooms[k]).fst, ⟨lo', (s.rooms[k]).vap.hi⟩⟩) rfl
    refine ⟨s.rooms.set k ⟨(gRm s.rooms k).fst, ⟨lo', hi'⟩⟩, s.moves, L ++ [um], nar_room hck hk (b1 k hk).1 ⟨ha, hb', hc'⟩, by rw [List.length_set], rfl, rfl, ?_, ?_, ?_⟩
    · have p2 := row_put (f := cRm) (sz := 4) (fun _ => rfl) q1 (g := g) rfl (k := k) (by rw [List.length_set]; exact hk) (j := 3) (by omega) (u := .int .i64 hi') (a := ⟨(gRm s.rooms k).fst, ⟨lo', hi'⟩⟩) (by rw [List.getElem_set_self, hat.symm]; rfl)
      rw [List.set_set] at p2
      exact p2
    · exact own_setNe (own_setNe h2.o2 h2.o1 (by decide) rfl _ _) q1 (by decide) rfl _ _
    · exact own_setNe (own_setNe h2.o3 h2.o1 (by decide) rfl _ _) q1 (by decide) rfl _ _
theorem tgt_mov {k : Nat} (hk : k < s.moves.length) : ∃ g cap, v2 = .slice (some ⟨g, 0, none⟩) s.moves.length cap ∧ Tgt s L K0 B0 v1 v2 v3 W g (k * 5 + 3) (gMv s.moves k).g.lo (gMv s.moves k).g.hi := by
  subst hK0
  obtain ⟨g, cap, rfl, hgB, hgW, hc, hfz⟩ := row_at (f := cMv) (sz := 5) (fun _ => rfl) (by omega) h.o2 hk
  have e0 := hc 3 (by omega)
  have e1 := hc 4 (by omega)
  have hat := (gMv_at hk).symm
  refine ⟨g, cap, rfl, hgB, hgW, e0.trans (by rw [hat]; rfl), e1.trans (by rw [hat]; rfl), hfz, ⟨_, own_blkOf h.o2⟩, fun hck => ?_, fun hck W2 hb lo' hi' ha hb' hc' => ?_⟩
  · exact (ckWs_iff.1 hck).1.grams k hk
  · have h2 := h.below hb
    have q1 := row_put (f := cMv) (sz := 5) (fun _ => rfl) h2.o2 (g := g) rfl hk (j := 3) (by omega) (u := .int .i64 lo') (a := ⟨(s.moves[k]).day, (s.moves[k]).src, (s.moves[k]).dst, ⟨lo', (s.moves[k]).g.hi⟩⟩) rfl
    refine ⟨s.rooms, s.moves.set k ⟨(gMv s.moves k).day, (gMv s.moves k).src, (gMv s.moves k).dst, ⟨lo', hi'⟩⟩, L ++ [um], nar_move hck hk ⟨rfl, rfl, rfl⟩ ⟨ha, hb', hc'⟩, rfl, by rw [List.length_set], rfl, ?_, ?_, ?_⟩
    · exact own_setNe (own_setNe h2.o1 h2.o2 (by decide) rfl _ _) q1 (by decide) rfl _ _
    · have p2 := row_put (f := cMv) (sz := 5) (fun _ => rfl) q1 (g := g) rfl (k := k) (by rw [List.length_set]; exact hk) (j := 4) (by omega) (u := .int .i64 hi') (a := ⟨(gMv s.moves k).day, (gMv s.moves k).src, (gMv s.moves k).dst, ⟨lo', hi'⟩⟩) (by rw [List.getElem_set_self, hat.symm]; rfl)
      rw [List.set_set] at p2
      exact p2
    · exact own_setNe (own_setNe h2.o3 h2.o2 (by decide) rfl _ _) q1 (by decide) rfl _ _
theorem tgt_wg {k : Nat} (hk : k < K0.length) : ∃ g cap, v3 = .slice (some ⟨g, 0, none⟩) K0.length cap ∧ Tgt s L K0 B0 v1 v2 v3 W g (k * 4 + 2) (gWg K0 k).g.lo (gWg K0 k).g.hi := by
  subst hK0
  obtain ⟨g, cap, rfl, hgB, hgW, hc, hfz⟩ := row_at (f := cWg) (sz := 4) (fun _ => rfl) (by omega) h.o3 hk
  have e0 := hc 2 (by omega)
  have e1 := hc 3 (by omega)
  have hat := (gWg_at hk).symm
  refine ⟨g, cap, rfl, hgB, hgW, e0.trans (by rw [hat]; rfl), e1.trans (by rw [hat]; rfl), hfz, ⟨_, own_blkOf h.o3⟩, fun hck => ?_, fun hck W2 hb lo' hi' ha hb' hc' => ?_⟩
  · have := (ckWs_iff.1 hck).1.wgs k hk
    exact ⟨this.2.2.2.2.1, this.2.2.2.2.2.1, this.2.2.2.2.2.2⟩
  · have h2 := h.below hb
    have q1 := row_put (f := cWg) (sz := 4) (fun _ => rfl) h2.o3 (g := g) rfl hk (j := 2) (by omega) (u := .int .i64 lo') (a := ⟨((L ++ [um])[k]).room, ((L ++ [um])[k]).day, ⟨lo', ((L ++ [um])[k]).g.hi⟩⟩) rfl
    refine ⟨s.rooms, s.moves, (L ++ [um]).set k ⟨(gWg (L ++ [um]) k).room, (gWg (L ++ [um]) k).day, ⟨lo', hi'⟩⟩, nar_wg hck hk ⟨rfl, rfl⟩ ⟨ha, hb', hc'⟩, rfl, rfl, by rw [List.length_set], ?_, ?_, ?_⟩
    · exact own_setNe (own_setNe h2.o1 h2.o3 (by decide) rfl _ _) q1 (by decide) rfl _ _
    · exact own_setNe (own_setNe h2.o2 h2.o3 (by decide) rfl _ _) q1 (by decide) rfl _ _
    · have p2 := row_put (f := cWg) (sz := 4) (fun _ => rfl) q1 (g := g) rfl (k := k) (by rw [List.length_set]; exact hk) (j := 3) (by omega) (u := .int .i64 hi') (a := ⟨(gWg (L ++ [um]) k).room, (gWg (L ++ [um]) k).day, ⟨lo', hi'⟩⟩) (by rw [List.getElem_set_self, hat.symm]; rfl)
      rw [List.set_set] at p2
      exact p2
end
end Go.Proofs.Ythihdiilokdidaa
end

section
namespace Go.Proofs.Ythihdiilokdidaa
open Go.RowKit
attribute [local go_sem] Ex.cell? Ex.frozen? Fx.cell?

theorem cWg_at (l : List Wg) (k : Nat) (hk : k < l.length) (j : Nat) (hj : j < 4) : (cWg l[k])[j]? = some (fWg l k j) := by
  have hg := gWg_at hk
  match j, hj with
  | 0, _ => simp [cWg, fWg, hg]
  | 1, _ => simp [cWg, fWg, hg]
  | 2, _ => simp [cWg, fWg, hg]
  | 3, _ => simp [cWg, fWg, hg]
theorem cWg_one (a : Wg) (u : Value) (hu : u ∈ cWg a) : u.oneCell' = true := by
  simp only [cWg, List.mem_cons, List.not_mem_nil, or_false] at hu
  rcases hu with rfl | rfl | rfl | rfl <;> rfl
set_option maxRecDepth 100000 in
set_option maxHeartbeats 12800000 in
theorem MoreLaw_any (s : Ws) (Ar Am Aw : Option Addr) (cr cm cw : Nat) (w : World) (hs : WsIn w w.heap.size s Ar Am Aw) (AW : Option Addr) (cW : Nat) (ws : List Int) (hwd : SlAt w w.heap.size 1 AW ws.length (fU ws)) (hwb : ∀ k, k < ws.length → 0 ≤ gI ws k ∧ gI ws k ≤ 65535) (hwl : ws.length ≤ maxLen) (m : Nat) (hm : (m : Int) ≤ 255) (um : Wg) (m4 m5 : Int) (h4 : 0 ≤ m4 ∧ m4 ≤ 255) (h5 : 0 ≤ m5 ∧ m5 ≤ 255) :
    Calls Try.prog 6 #[.agg #[.slice Ar s.rooms.length cr, .int .i64 s.days, .slice Am s.moves.length cm, .slice Aw s.wgs.length cw], .slice AW ws.length cW, .int .u8 (m : Int), .agg #[.int .i64 um.room, .int .i64 um.day, .int .i64 um.g.lo, .int .i64 um.g.hi], .int .u8 m4, .int .u8 m5] w fun e w' => e = .returned (.bool true) ∧ Below w.heap.size w w' := by
  obtain ⟨i0, hi0, hv0, hv1, hv2⟩ := info_parts roomR_info
  obtain ⟨i1, hi1, hw0, hw1, hw2⟩ := info_parts moveR_info
  obtain ⟨i2, hi2, hz0, hz1, hz2⟩ := info_parts wgR_info
  have HI0 := Lib.hid hi0
  have HI1 := Lib.hid hi1
  have HI2 := Lib.hid hi2
  clear hi0 hi1 hi2
  have hb1 := ex_alloc (ex_alloc (Below.refl w.heap.size w) (.cells #[.slice Ar s.rooms.length cr, .int .i64 s.days, .slice Am s.moves.length cm, .slice Aw s.wgs.length cw] 26)) (.cells #[.int .i64 um.room, .int .i64 um.day, .int .i64 um.g.lo, .int .i64 um.g.hi] 72)
  have q0 : Blk ((w.alloc (.cells #[.slice Ar s.rooms.length cr, .int .i64 s.days, .slice Am s.moves.length cm, .slice Aw s.wgs.length cw] 26)).alloc (.cells #[.int .i64 um.room, .int .i64 um.day, .int .i64 um.g.lo, .int .i64 um.g.hi] 72)) (w.heap.size) 26 #[.slice Ar s.rooms.length cr, .int .i64 s.days, .slice Am s.moves.length cm, .slice Aw s.wgs.length cw] := (Blk.new _ _ _).alloc _
  have qm : Blk ((w.alloc (.cells #[.slice Ar s.rooms.length cr, .int .i64 s.days, .slice Am s.moves.length cm, .slice Aw s.wgs.length cw] 26)).alloc (.cells #[.int .i64 um.room, .int .i64 um.day, .int .i64 um.g.lo, .int .i64 um.g.hi] 72)) (w.heap.size + 1) 72 #[.int .i64 um.room, .int .i64 um.day, .int .i64 um.g.lo, .int .i64 um.g.hi] := Blk.new' _ _ _ (by simp)
  replace hs := hs.go hb1
  replace hwd := (hwd.below hb1).up hb1.size
  have HWB := Lib.hid hwb
  clear hwb
  go_enter Try.func6, Try.ntmps6
  go_upto_region 1 with fail
  show Code.wp _ _ _ _ ((w.alloc (.cells #[.slice Ar s.rooms.length cr, .int .i64 s.days, .slice Am s.moves.length cm, .slice Aw s.wgs.length cw] 26)).alloc (.cells #[.int .i64 um.room, .int .i64 um.day, .int .i64 um.g.lo, .int .i64 um.g.hi] 72))
  obtain ⟨pq0, hpq0⟩ : ∃ p, w.heap.size = p := ⟨_, rfl⟩
  obtain ⟨pqm, hpqm⟩ : ∃ p, w.heap.size + 1 = p := ⟨_, rfl⟩
  rw [hpqm] at qm ⊢
  rw [hpq0] at q0 ⊢
  clear hpq0 hpqm
  generalize (w.alloc (.cells #[.slice Ar s.rooms.length cr, .int .i64 s.days, .slice Am s.moves.length cm, .slice Aw s.wgs.length cw] 26)).alloc (.cells #[.int .i64 um.room, .int .i64 um.day, .int .i64 um.g.lo, .int .i64 um.g.hi] 72) = V at *
  have a0 : V.cell? ⟨pq0, 0, none⟩ = some (.slice Ar s.rooms.length cr) := q0.cell 0
  have a1 : V.cell? ⟨pq0, 1, none⟩ = some (.int .i64 s.days) := q0.cell 1
  have a2 : V.cell? ⟨pq0, 2, none⟩ = some (.slice Am s.moves.length cm) := q0.cell 2
  have a3 : V.cell? ⟨pq0, 3, none⟩ = some (.slice Aw s.wgs.length cw) := q0.cell 3
  have la := q0.lt
  have g0 : V.cell? ⟨pqm, 0, none⟩ = some (.int .i64 um.room) := qm.cell 0
  have g1 : V.cell? ⟨pqm, 1, none⟩ = some (.int .i64 um.day) := qm.cell 1
  have g2 : V.cell? ⟨pqm, 2, none⟩ = some (.int .i64 um.g.lo) := qm.cell 2
  have g3 : V.cell? ⟨pqm, 3, none⟩ = some (.int .i64 um.g.hi) := qm.cell 3
  have lg := qm.lt
  go_wp2_with fail
  refine (lives_any s Ar Am Aw cr cm cw V hs AW cW ws hwd HWB.out hwl m hm).mono ?_
  rintro e V1 ⟨⟨hlv⟩, hV1⟩
  replace hs := hs.go hV1
  replace hwd := (hwd.below hV1).up hV1.size
  replace q0 := q0.below hV1 q0.lt
  replace qm := qm.below hV1 qm.lt
  have B_V1 := ex_trans hb1 hV1
  rcases hlv with ⟨A1, A2, A3, A4, A5, A6, A7, c1, c2, c3, c4, c5, c6, c7, n1, n2, n3, n4, n5, n6, n7, d, rfl⟩ | ⟨t, L, A3, A4, A5, A6, A7, c3, c4, c5, c6, c7, rV, rcV, rA, rc, rfl, hlx, hx, ht, hM⟩
  · clear a0 a1 a2 a3 la
    have a0 : V1.cell? ⟨pq0, 0, none⟩ = some (.slice Ar s.rooms.length cr) := q0.cell 0
    have a1 : V1.cell? ⟨pq0, 1, none⟩ = some (.int .i64 s.days) := q0.cell 1
    have a2 : V1.cell? ⟨pq0, 2, none⟩ = some (.slice Am s.moves.length cm) := q0.cell 2
    have a3 : V1.cell? ⟨pq0, 3, none⟩ = some (.slice Aw s.wgs.length cw) := q0.cell 3
    have la := q0.lt
    clear g0 g1 g2 g3 lg
    have g0 : V1.cell? ⟨pqm, 0, none⟩ = some (.int .i64 um.room) := qm.cell 0
    have g1 : V1.cell? ⟨pqm, 1, none⟩ = some (.int .i64 um.day) := qm.cell 1
    have g2 : V1.cell? ⟨pqm, 2, none⟩ = some (.int .i64 um.g.lo) := qm.cell 2
    have g3 : V1.cell? ⟨pqm, 3, none⟩ = some (.int .i64 um.g.hi) := qm.cell 3
    have lg := qm.lt
    go_wp2_with fail
    refine (awake_any _).mono ?_
    rintro e Wz ⟨rfl, hz⟩
    go_wp2
    go_ret
    exact ⟨rfl, ex_trans (ex_alloc (ex_alloc B_V1 _) _) hz⟩
  have HLX := Lib.hid hlx
  clear hlx
  replace hx : WsIn V1 V1.heap.size (s.wg L) Ar Am A3 := ⟨hs.rooms, hs.moves, hx⟩
  clear a0 a1 a2 a3 la
  have a0 : V1.cell? ⟨pq0, 0, none⟩ = some (.slice Ar s.rooms.length cr) := q0.cell 0
  have a1 : V1.cell? ⟨pq0, 1, none⟩ = some (.int .i64 s.days) := q0.cell 1
  have a2 : V1.cell? ⟨pq0, 2, none⟩ = some (.slice Am s.moves.length cm) := q0.cell 2
  have a3 : V1.cell? ⟨pq0, 3, none⟩ = some (.slice Aw s.wgs.length cw) := q0.cell 3
  have la := q0.lt
  clear g0 g1 g2 g3 lg
  have g0 : V1.cell? ⟨pqm, 0, none⟩ = some (.int .i64 um.room) := qm.cell 0
  have g1 : V1.cell? ⟨pqm, 1, none⟩ = some (.int .i64 um.day) := qm.cell 1
  have g2 : V1.cell? ⟨pqm, 2, none⟩ = some (.int .i64 um.g.lo) := qm.cell 2
  have g3 : V1.cell? ⟨pqm, 3, none⟩ = some (.int .i64 um.g.hi) := qm.cell 3
  have lg := qm.lt
  have N2 := ex_alloc (ex_alloc (Below.refl V1.heap.size V1) (.cells #[.slice Ar s.rooms.length cr, .int .i64 s.days, .slice Am s.moves.length cm, .slice A3 L.length c3] 26)) (.cells #[.slice A4 t.fs.length c4, .slice A5 t.vs.length c5, .slice A6 t.gs.length c6] 31)
  have qx : Blk ((V1.alloc (.cells #[.slice Ar s.rooms.length cr, .int .i64 s.days, .slice Am s.moves.length cm, .slice A3 L.length c3] 26)).alloc (.cells #[.slice A4 t.fs.length c4, .slice A5 t.vs.length c5, .slice A6 t.gs.length c6] 31)) V1.heap.size 26 #[.slice Ar s.rooms.length cr, .int .i64 s.days, .slice Am s.moves.length cm, .slice A3 L.length c3] := (Blk.new _ _ _).alloc _
  have qt : Blk ((V1.alloc (.cells #[.slice Ar s.rooms.length cr, .int .i64 s.days, .slice Am s.moves.length cm, .slice A3 L.length c3] 26)).alloc (.cells #[.slice A4 t.fs.length c4, .slice A5 t.vs.length c5, .slice A6 t.gs.length c6] 31)) (V1.heap.size + 1) 31 #[.slice A4 t.fs.length c4, .slice A5 t.vs.length c5, .slice A6 t.gs.length c6] := Blk.new' _ _ _ (by simp)
  go_upto_region 4 with fail
  clear a0 a1 a2 a3 la
  clear g0 g1 g2 g3 lg
  replace hs := hs.go N2
  replace hwd := (hwd.below N2).up N2.size
  replace q0 := q0.below N2 q0.lt
  replace qm := qm.below N2 qm.lt
  replace hx := hx.go N2
  replace ht := ht.go N2
  replace hM := hM.go N2
  have B_V2 := ex_trans B_V1 N2
  obtain ⟨pqx, hpqx⟩ : ∃ p, V1.heap.size = p := ⟨_, rfl⟩
  rw [hpqx] at qx qt ⊢
  clear N2
  generalize (V1.alloc (.cells #[.slice Ar s.rooms.length cr, .int .i64 s.days, .slice Am s.moves.length cm, .slice A3 L.length c3] 26)).alloc (.cells #[.slice A4 t.fs.length c4, .slice A5 t.vs.length c5, .slice A6 t.gs.length c6] 31) = V2 at *
  clear hpqx
  have HSX : Hid ((s.wg L).rooms.length ≤ 1000 ∧ (s.wg L).moves.length ≤ 1000 ∧ (s.wg L).wgs.length ≤ 1000) := Lib.hid HLX.out.sm
  have HWO := Lib.hid HLX.out.wo.1
  have HDD := Lib.hid HLX.out.wo.2
  have HWX := Lib.hid HLX.out.wox.1
  have HDX := Lib.hid HLX.out.wox.2
  have hr3 : 1 ≤ s.rooms.length ∧ s.rooms.length ≤ 3 := HWO.out.len.elim (fun a b => ⟨a, b.1⟩)
  have hm12 : s.moves.length ≤ 12 := HWO.out.len.2.2.1
  have hl8 : L.length ≤ 8 := HWX.out.len.2.2.2
  have hwl8 : s.wgs.length ≤ 8 := HWO.out.len.2.2.2
  have x0 : V2.cell? ⟨pqx, 0, none⟩ = some (.slice Ar s.rooms.length cr) := qx.cell 0
  have x1 : V2.cell? ⟨pqx, 1, none⟩ = some (.int .i64 s.days) := qx.cell 1
  have x2 : V2.cell? ⟨pqx, 2, none⟩ = some (.slice Am s.moves.length cm) := qx.cell 2
  have x3 : V2.cell? ⟨pqx, 3, none⟩ = some (.slice A3 L.length c3) := qx.cell 3
  have lx := qx.lt
  have hm12' : s.moves.length ≤ 12 := hm12
  have NY := ex_alloc (Below.refl V2.heap.size V2) (.cells #[.slice Ar s.rooms.length cr, .int .i64 s.days, .slice Am s.moves.length cm, .slice A3 L.length c3] 26)
  have qy : Blk (V2.alloc (.cells #[.slice Ar s.rooms.length cr, .int .i64 s.days, .slice Am s.moves.length cm, .slice A3 L.length c3] 26)) V2.heap.size 26 #[.slice Ar s.rooms.length cr, .int .i64 s.days, .slice Am s.moves.length cm, .slice A3 L.length c3] := Blk.new _ _ _
  have hpx : pqx < V2.heap.size := qx.lt
  have hx0 := Lib.hid hx
  have qx0 := Lib.hid qx
  have hpm : pqm < V2.heap.size := qm.lt
  go_upto_region 5 with fail
  clear x0 x1 x2 x3 lx
  obtain ⟨py, hpy⟩ : ∃ p, V2.heap.size = p := ⟨_, rfl⟩
  rw [hpy] at qy hpx hpm ⊢
  have hpy0 : V2.heap.size ≤ py := by omega
  clear hpy
  have hqx := qx.below NY qx.lt
  have hqm := qm.below NY qm.lt
  have hxr := (hx.rooms.below NY).up NY.size
  have hxm := (hx.moves.below NY).up NY.size
  have hxw := (hx.wgs.below NY).up NY.size
  generalize V2.alloc (.cells #[.slice Ar s.rooms.length cr, .int .i64 s.days, .slice Am s.moves.length cm, .slice A3 L.length c3] 26) = Ve at *
  obtain ⟨B0, hB0⟩ : ∃ b, Ve.heap.size = b := ⟨_, rfl⟩
  have HB0 := Lib.hid hB0
  have hpB : py < B0 := by have := qy.lt; omega
  clear hB0
  obtain ⟨K0, hK0⟩ : ∃ K0, L ++ [um] = K0 := ⟨_, rfl⟩
  have HK0 := Lib.hid hK0
  have HKL : Hid (L.length + 1 = K0.length) := Lib.hid (by rw [← hK0]; simp)
  have hK9 : K0.length ≤ 9 := by rw [← HKL.out]; omega
  clear hK0
  rename_i Q' K hK
  have hrest5 : ∀ (W : World) (B1 B2 : Option Addr) (k1 k2 : Nat) (a : Act), Fr (fun b => b = py) Ve W → Blk W py 26 #[.slice B1 s.rooms.length k1, .int .i64 s.days, .slice B2 s.moves.length k2, .slice A3 L.length c3] → W.ownsRow B0 76 4 (.slice B1 s.rooms.length k1) s.rooms.length (s.rooms.flatMap cRm) → W.ownsRow B0 78 5 (.slice B2 s.moves.length k2) s.moves.length (s.moves.flatMap cMv) → (∃ u : Nat → Value, a = ⟨List.toArray (u 0 :: u 1 :: u 2 :: u 3 :: .int .u8 m4 :: .int .u8 m5 :: .pointer (some ⟨pq0, 0, none⟩) :: u 7 :: u 8 :: .pointer (some ⟨pqm, 0, none⟩) :: u 10 :: u 11 :: .bool false :: .pointer (some ⟨pqx, 0, none⟩) :: .pointer (some ⟨pqx + 1, 0, none⟩) :: u 15 :: u 16 :: .pointer (some ⟨py, 0, none⟩) :: u 18 :: u 19 :: u 20 :: u 21 :: u 22 :: u 23 :: u 24 :: u 25 :: u 26 :: u 27 :: u 28 :: u 29 :: u 30 :: u 31 :: u 32 :: u 33 :: u 34 :: u 35 :: u 36 :: u 37 :: u 38 :: u 39 :: u 40 :: u 41 :: u 42 :: u 43 :: u 44 :: u 45 :: u 46 :: u 47 :: u 48 :: u 49 :: u 50 :: u 51 :: u 52 :: u 53 :: u 54 :: u 55 :: u 56 :: u 57 :: u 58 :: u 59 :: u 60 :: u 61 :: u 62 :: u 63 :: u 64 :: u 65 :: u 66 :: u 67 :: u 68 :: u 69 :: u 70 :: u 71 :: u 72 :: u 73 :: u 74 :: u 75 :: u 76 :: u 77 :: u 78 :: u 79 :: u 80 :: u 81 :: u 82 :: u 83 :: u 84 :: u 85 :: u 86 :: u 87 :: u 88 :: u 89 :: u 90 :: u 91 :: u 92 :: u 93 :: u 94 :: u 95 :: u 96 :: u 97 :: u 98 :: u 99 :: u 100 :: u 101 :: u 102 :: u 103 :: u 104 :: u 105 :: u 106 :: u 107 :: u 108 :: u 109 :: u 110 :: u 111 :: u 112 :: u 113 :: u 114 :: u 115 :: u 116 :: u 117 :: u 118 :: u 119 :: u 120 :: u 121 :: u 122 :: u 123 :: u 124 :: u 125 :: u 126 :: u 127 :: u 128 :: u 129 :: u 130 :: u 131 :: u 132 :: u 133 :: u 134 :: u 135 :: u 136 :: u 137 :: u 138 :: u 139 :: u 140 :: u 141 :: u 142 :: u 143 :: u 144 :: u 145 :: u 146 :: u 147 :: u 148 :: u 149 :: u 150 :: u 151 :: u 152 :: u 153 :: u 154 :: u 155 :: u 156 :: u 157 :: u 158 :: u 159 :: u 160 :: u 161 :: u 162 :: u 163 :: u 164 :: u 165 :: u 166 :: u 167 :: u 168 :: u 169 :: u 170 :: u 171 :: u 172 :: u 173 :: u 174 :: u 175 :: u 176 :: u 177 :: u 178 :: u 179 :: u 180 :: u 181 :: u 182 :: u 183 :: u 184 :: u 185 :: u 186 :: u 187 :: u 188 :: u 189 :: u 190 :: u 191 :: u 192 :: u 193 :: u 194 :: u 195 :: u 196 :: u 197 :: u 198 :: u 199 :: u 200 :: u 201 :: u 202 :: u 203 :: u 204 :: u 205 :: u 206 :: u 207 :: u 208 :: u 209 :: u 210 :: u 211 :: u 212 :: u 213 :: u 214 :: u 215 :: u 216 :: u 217 :: u 218 :: u 219 :: u 220 :: u 221 :: u 222 :: u 223 :: u 224 :: u 225 :: u 226 :: u 227 :: u 228 :: u 229 :: u 230 :: u 231 :: u 232 :: u 233 :: u 234 :: u 235 :: u 236 :: u 237 :: u 238 :: u 239 :: u 240 :: u 241 :: []), []⟩) → K a W := by
    clear qy
    rintro W B1 B2 k1 k2 a hF qy o1 o2 ⟨u, rfl⟩
    refine hK _ _ ?_
    clear hK
    go_upto_region 6 with fail
    rename_i K6 hK6
    have hrest6 : ∀ (W : World) (B3 : Option Addr) (k3 : Nat) (a : Act), Fr (fun b => b = py) Ve W → Blk W py 26 #[.slice B1 s.rooms.length k1, .int .i64 s.days, .slice B2 s.moves.length k2, .slice B3 K0.length k3] → W.ownsRow B0 76 4 (.slice B1 s.rooms.length k1) s.rooms.length (s.rooms.flatMap cRm) → W.ownsRow B0 78 5 (.slice B2 s.moves.length k2) s.moves.length (s.moves.flatMap cMv) → W.ownsRow B0 72 4 (.slice B3 K0.length k3) K0.length (K0.flatMap cWg) → (∃ u : Nat → Value, a = ⟨List.toArray (u 0 :: u 1 :: u 2 :: u 3 :: .int .u8 m4 :: .int .u8 m5 :: .pointer (some ⟨pq0, 0, none⟩) :: u 7 :: u 8 :: .pointer (some ⟨pqm, 0, none⟩) :: u 10 :: u 11 :: .bool false :: .pointer (some ⟨pqx, 0, none⟩) :: .pointer (some ⟨pqx + 1, 0, none⟩) :: u 15 :: u 16 :: .pointer (some ⟨py, 0, none⟩) :: u 18 :: u 19 :: u 20 :: u 21 :: u 22 :: u 23 :: u 24 :: u 25 :: u 26 :: u 27 :: u 28 :: u 29 :: u 30 :: u 31 :: u 32 :: u 33 :: u 34 :: u 35 :: u 36 :: u 37 :: u 38 :: u 39 :: u 40 :: u 41 :: u 42 :: u 43 :: u 44 :: u 45 :: u 46 :: u 47 :: u 48 :: u 49 :: u 50 :: u 51 :: u 52 :: u 53 :: u 54 :: u 55 :: u 56 :: u 57 :: u 58 :: u 59 :: u 60 :: u 61 :: u 62 :: u 63 :: u 64 :: u 65 :: u 66 :: u 67 :: u 68 :: u 69 :: u 70 :: u 71 :: u 72 :: u 73 :: u 74 :: u 75 :: u 76 :: u 77 :: u 78 :: u 79 :: u 80 :: u 81 :: u 82 :: u 83 :: u 84 :: u 85 :: u 86 :: u 87 :: u 88 :: u 89 :: u 90 :: u 91 :: u 92 :: u 93 :: u 94 :: u 95 :: u 96 :: u 97 :: u 98 :: u 99 :: u 100 :: u 101 :: u 102 :: u 103 :: u 104 :: u 105 :: u 106 :: u 107 :: u 108 :: u 109 :: u 110 :: u 111 :: u 112 :: u 113 :: u 114 :: u 115 :: u 116 :: u 117 :: u 118 :: u 119 :: u 120 :: u 121 :: u 122 :: u 123 :: u 124 :: u 125 :: u 126 :: u 127 :: u 128 :: u 129 :: u 130 :: u 131 :: u 132 :: u 133 :: u 134 :: u 135 :: u 136 :: u 137 :: u 138 :: u 139 :: u 140 :: u 141 :: u 142 :: u 143 :: u 144 :: u 145 :: u 146 :: u 147 :: u 148 :: u 149 :: u 150 :: u 151 :: u 152 :: u 153 :: u 154 :: u 155 :: u 156 :: u 157 :: u 158 :: u 159 :: u 160 :: u 161 :: u 162 :: u 163 :: u 164 :: u 165 :: u 166 :: u 167 :: u 168 :: u 169 :: u 170 :: u 171 :: u 172 :: u 173 :: u 174 :: u 175 :: u 176 :: u 177 :: u 178 :: u 179 :: u 180 :: u 181 :: u 182 :: u 183 :: u 184 :: u 185 :: u 186 :: u 187 :: u 188 :: u 189 :: u 190 :: u 191 :: u 192 :: u 193 :: u 194 :: u 195 :: u 196 :: u 197 :: u 198 :: u 199 :: u 200 :: u 201 :: u 202 :: u 203 :: u 204 :: u 205 :: u 206 :: u 207 :: u 208 :: u 209 :: u 210 :: u 211 :: u 212 :: u 213 :: u 214 :: u 215 :: u 216 :: u 217 :: u 218 :: u 219 :: u 220 :: u 221 :: u 222 :: u 223 :: u 224 :: u 225 :: u 226 :: u 227 :: u 228 :: u 229 :: u 230 :: u 231 :: u 232 :: u 233 :: u 234 :: u 235 :: u 236 :: u 237 :: u 238 :: u 239 :: u 240 :: u 241 :: []), []⟩) → K6 a W := by
      as_aux_lemma =>
        clear hF qy o1 o2 W
        rintro W B3 k3 a hF qy o1 o2 o3 ⟨u, rfl⟩
        refine hK6 _ _ ?_
        clear hK6
        have N6 := hF.toBelow NY NY.size (fun x hx => by omega)
        replace hs := hs.go N6
        replace hwd := (hwd.below N6).up N6.size
        replace q0 := q0.below N6 q0.lt
        replace qm := qm.below N6 qm.lt
        replace hx := hx.go N6
        replace ht := ht.go N6
        replace hM := hM.go N6
        replace qx := qx.below N6 qx.lt
        replace qt := qt.below N6 qt.lt
        have B_W := ex_trans B_V2 N6
        have hz6 : B0 ≤ W.heap.size := by have := hF.size; have := HB0.out; omega
        have R3 : Rows3 W B0 (.slice B1 s.rooms.length k1) (.slice B2 s.moves.length k2) (.slice B3 K0.length k3) s.rooms s.moves K0 := ⟨o1, o2, o3⟩
        clear o1 o2 o3 hF
        have m50 : 0 ≤ m5 := h5.1
        have m40 : 0 ≤ m4 := h4.1
        have i_0 : 0 ≤ (m5 : Int) % (s.rooms.length : Int) := Int.emod_nonneg _ (by omega)
        have i_1 : (m5 : Int) % (s.rooms.length : Int) < (s.rooms.length : Int) := Int.emod_lt_of_pos _ (by omega)
        obtain ⟨i, eq_i⟩ : ∃ x : Nat, (m5 : Int) % (s.rooms.length : Int) = (x : Int) := ⟨((m5 : Int) % (s.rooms.length : Int)).toNat, by omega⟩
        rw [eq_i] at i_0 i_1
        have li : i < s.rooms.length := by omega
        clear i_0
        have i_n : ¬ (s.rooms.length : Int) = 0 := by omega
        have i_n' : ((s.rooms.length : Int) == 0) = false := by rw [beq_eq_false_iff_ne]; exact i_n
        obtain ⟨g, cap, ev, T7⟩ := tgt_fst HK0.out R3 li
        injection ev with ev1 _ ev2
        subst ev1 ev2
        have T7x := T7
        skip
        have y0 : W.cell? ⟨py, 0, none⟩ = some (.slice (some ⟨g, 0, none⟩) s.rooms.length k1) := qy.cell 0
        have y1 : W.cell? ⟨py, 1, none⟩ = some (.int .i64 s.days) := qy.cell 1
        have y2 : W.cell? ⟨py, 2, none⟩ = some (.slice B2 s.moves.length k2) := qy.cell 2
        have y3 : W.cell? ⟨py, 3, none⟩ = some (.slice B3 K0.length k3) := qy.cell 3
        have ly := qy.lt
        clear T7
        go_upto_region 7 with fail
        have D7 := (Below.refl W.heap.size W).drew
        refine wp_region_ext_mix 10 [(false, 0), (false, 1), (false, 2), (false, 3), (false, 4), (false, 5), (false, 6), (false, 7), (false, 8), (false, 9)] (by kernel_rfl) (by kernel_rfl) (by intro d _ _ _ _ h; cases d <;> exact h) ?_
        repeat (refine mix_quiet rfl ?_; go_big_quiet_step (fail); refine wpQuiet_nil ?_)
        obtain ⟨Y7, hY⟩ : ∃ Y, W.drew = Y := ⟨_, rfl⟩
        rw [hY] at D7 ⊢
        clear hY
        clear y0 y1 y2 y3 ly
        replace hs := hs.go D7
        replace hwd := (hwd.below D7).up D7.size
        replace q0 := q0.below D7 q0.lt
        replace qm := qm.below D7 qm.lt
        replace hx := hx.go D7
        replace ht := ht.go D7
        replace hM := hM.go D7
        replace qx := qx.below D7 qx.lt
        replace qt := qt.below D7 qt.lt
        replace qy := qy.below D7 qy.lt
        replace R3 := R3.below D7
        have B_Y7 := ex_trans B_W D7
        refine mix_nil (r := [_]) rfl ?_
        rw [eq_i]
        go_upto_region 8 with fail
        rename_i K14 hK14 K8 hK8
        have hrest14 : ∀ (W2 : World) (p o : Nat) (lo hi : Int) (a : Act), Below Y7.heap.size Y7 W2 → Tgt s L K0 B0 (.slice (some ⟨g, 0, none⟩) s.rooms.length k1) (.slice B2 s.moves.length k2) (.slice B3 K0.length k3) W2 p o lo hi → (∃ u : Nat → Value, a = ⟨List.toArray (u 0 :: u 1 :: u 2 :: u 3 :: .int .u8 m4 :: .int .u8 m5 :: .pointer (some ⟨pq0, 0, none⟩) :: u 7 :: u 8 :: .pointer (some ⟨pqm, 0, none⟩) :: u 10 :: u 11 :: .bool false :: .pointer (some ⟨pqx, 0, none⟩) :: .pointer (some ⟨pqx + 1, 0, none⟩) :: u 15 :: u 16 :: .pointer (some ⟨py, 0, none⟩) :: .pointer (some ⟨p, o, none⟩) :: u 19 :: u 20 :: u 21 :: u 22 :: u 23 :: u 24 :: u 25 :: u 26 :: u 27 :: u 28 :: u 29 :: u 30 :: u 31 :: u 32 :: u 33 :: u 34 :: u 35 :: u 36 :: u 37 :: u 38 :: u 39 :: u 40 :: u 41 :: u 42 :: u 43 :: u 44 :: u 45 :: u 46 :: u 47 :: u 48 :: u 49 :: u 50 :: u 51 :: u 52 :: u 53 :: u 54 :: u 55 :: u 56 :: u 57 :: u 58 :: u 59 :: u 60 :: u 61 :: u 62 :: u 63 :: u 64 :: u 65 :: u 66 :: u 67 :: u 68 :: u 69 :: u 70 :: u 71 :: u 72 :: u 73 :: u 74 :: u 75 :: u 76 :: u 77 :: u 78 :: u 79 :: u 80 :: u 81 :: u 82 :: u 83 :: u 84 :: u 85 :: u 86 :: u 87 :: u 88 :: u 89 :: u 90 :: u 91 :: u 92 :: u 93 :: u 94 :: u 95 :: u 96 :: u 97 :: u 98 :: u 99 :: u 100 :: u 101 :: u 102 :: u 103 :: u 104 :: u 105 :: u 106 :: u 107 :: u 108 :: u 109 :: u 110 :: u 111 :: u 112 :: u 113 :: u 114 :: u 115 :: u 116 :: u 117 :: u 118 :: u 119 :: u 120 :: u 121 :: u 122 :: u 123 :: u 124 :: u 125 :: u 126 :: u 127 :: u 128 :: u 129 :: u 130 :: u 131 :: u 132 :: u 133 :: u 134 :: u 135 :: u 136 :: u 137 :: u 138 :: u 139 :: u 140 :: u 141 :: u 142 :: u 143 :: u 144 :: u 145 :: u 146 :: u 147 :: u 148 :: u 149 :: u 150 :: u 151 :: u 152 :: u 153 :: u 154 :: u 155 :: u 156 :: u 157 :: u 158 :: u 159 :: u 160 :: u 161 :: u 162 :: u 163 :: u 164 :: u 165 :: u 166 :: u 167 :: u 168 :: u 169 :: u 170 :: u 171 :: u 172 :: u 173 :: u 174 :: u 175 :: u 176 :: u 177 :: u 178 :: u 179 :: u 180 :: u 181 :: u 182 :: u 183 :: u 184 :: u 185 :: u 186 :: u 187 :: u 188 :: u 189 :: u 190 :: u 191 :: u 192 :: u 193 :: u 194 :: u 195 :: u 196 :: u 197 :: u 198 :: u 199 :: u 200 :: u 201 :: u 202 :: u 203 :: u 204 :: u 205 :: u 206 :: u 207 :: u 208 :: u 209 :: u 210 :: u 211 :: u 212 :: u 213 :: u 214 :: u 215 :: u 216 :: u 217 :: u 218 :: u 219 :: u 220 :: u 221 :: u 222 :: u 223 :: u 224 :: u 225 :: u 226 :: u 227 :: u 228 :: u 229 :: u 230 :: u 231 :: u 232 :: u 233 :: u 234 :: u 235 :: u 236 :: u 237 :: u 238 :: u 239 :: u 240 :: u 241 :: []), []⟩) → K14 a W2 := by
          as_aux_lemma =>
            rintro W2 p o lo hi a hb TG ⟨u, rfl⟩
            refine hK14 _ _ ?_
            clear hK14 hK8 K8
            have NW2 := ex_trans (ex_trans N6 D7) hb
            replace hs := hs.go hb
            replace hwd := (hwd.below hb).up hb.size
            replace q0 := q0.below hb q0.lt
            replace qm := qm.below hb qm.lt
            replace hx := hx.go hb
            replace ht := ht.go hb
            replace hM := hM.go hb
            replace qx := qx.below hb qx.lt
            replace qt := qt.below hb qt.lt
            replace qy := qy.below hb qy.lt
            replace R3 := R3.below hb
            have B_W2 := ex_trans B_Y7 hb
            have y0 : W2.cell? ⟨py, 0, none⟩ = some (.slice (some ⟨g, 0, none⟩) s.rooms.length k1) := qy.cell 0
            have y1 : W2.cell? ⟨py, 1, none⟩ = some (.int .i64 s.days) := qy.cell 1
            have y2 : W2.cell? ⟨py, 2, none⟩ = some (.slice B2 s.moves.length k2) := qy.cell 2
            have y3 : W2.cell? ⟨py, 3, none⟩ = some (.slice B3 K0.length k3) := qy.cell 3
            have ly := qy.lt
            obtain ⟨A6', c6', e6, _, _, ro1⟩ := lay_Rm 76 R3.o1
            injection e6 with e61 _ e62
            subst e61 e62
            obtain ⟨A7', c7', e7, _, _, ro2⟩ := lay_Mv 78 R3.o2
            injection e7 with e71 _ e72
            subst e71 e72
            obtain ⟨A8', c8', e8, _, _, ro3⟩ := lay_Wg 72 R3.o3
            injection e8 with e81 _ e82
            subst e81 e82
            have hy : WsIn W2 W2.heap.size (s.wg K0) (some ⟨g, 0, none⟩) B2 B3 := ⟨ro1.sl, ro2.sl, ro3.sl⟩
            clear ro1 ro2 ro3
            go_wp2_with fail
            refine (fault_any (s.wg K0) (some ⟨g, 0, none⟩) B2 B3 k1 k2 k3 W2 hy).mono ?_
            rintro e W3 ⟨rfl, hW3⟩
            by_cases hck : ckWs (s.wg K0) = 0
            rotate_left
            · have e1 : (ckWs (s.wg K0) != 0) = true := by simp [hck]
              have e2 : (ckWs (s.wg K0) == 0) = false := by simp [hck]
              generalize ckWs (s.wg K0) = cy at *
              clear hck
              clear y0 y1 y2 y3 ly
              replace hs := hs.go hW3
              replace hwd := (hwd.below hW3).up hW3.size
              replace q0 := q0.below hW3 q0.lt
              replace qm := qm.below hW3 qm.lt
              replace hx := hx.go hW3
              replace ht := ht.go hW3
              replace hM := hM.go hW3
              replace qx := qx.below hW3 qx.lt
              replace qt := qt.below hW3 qt.lt
              replace qy := qy.below hW3 qy.lt
              replace R3 := R3.below hW3
              have B_W3 := ex_trans B_W2 hW3
              go_wp2_with fail
              refine (awake_any W3).mono ?_
              rintro e Wz ⟨rfl, hz⟩
              go_wp2
              go_ret
              exact ⟨rfl, ex_trans B_W3 hz⟩
            have hbd := TG.bd hck
            have hput := TG.put hck
            have HPUT := Lib.hid hput
            rw [hck]
            clear hck hput
            have c0 := (hW3.cell (p := ⟨p, o, none⟩) TG.lt).trans TG.c0
            have c1 := (hW3.cell (p := ⟨p, o + 1, none⟩) TG.lt).trans TG.c1
            obtain ⟨TT', cs', hpb⟩ := TG.blk
            replace hpb := hpb.below hW3 TG.lt
            have hpf := TG.far
            clear TG hy
            clear y0 y1 y2 y3 ly
            have lp := hpb.lt
            have fp := hpb.frozen0
            obtain ⟨n3, hn3⟩ : ∃ n3, m5 % 3 = n3 := ⟨_, rfl⟩
            have hn3b : 0 ≤ n3 ∧ n3 < 3 := by rw [← hn3]; exact ⟨Int.emod_nonneg _ (by omega), Int.emod_lt_of_pos _ (by omega)⟩
            obtain ⟨n8, hn8⟩ : ∃ n8, m5 / 8 % 3 = n8 := ⟨_, rfl⟩
            have hn8b : 0 ≤ n8 ∧ n8 < 3 := by rw [← hn8]; exact ⟨Int.emod_nonneg _ (by omega), Int.emod_lt_of_pos _ (by omega)⟩
            have HN3 := Lib.hid hn3
            have HN8 := Lib.hid hn8
            have hn3c : 0 ≤ m5 % 3 ∧ m5 % 3 < 3 := by rw [hn3]; exact hn3b
            have hn8c : 0 ≤ m5 / 8 % 3 ∧ m5 / 8 % 3 < 3 := by rw [hn8]; exact hn8b
            clear hn3 hn8
            go_upto_region 16 with fail
            have D16 := (Below.refl W3.heap.size W3).drew
            refine wp_region_ext_mix 16 [(false, 0), (false, 1), (false, 2), (false, 3), (false, 4), (false, 5), (false, 6), (false, 7), (false, 8), (false, 9), (false, 10), (false, 11), (false, 12), (true, 13), (false, 14), (false, 15)] (by kernel_rfl) (by kernel_rfl) (by intro d _ _ _ _ h; cases d <;> exact h) ?_
            repeat (refine mix_quiet rfl ?_; go_big_quiet_step (fail); refine wpQuiet_nil ?_)
            obtain ⟨Y16, hY⟩ : ∃ Y, W3.drew = Y := ⟨_, rfl⟩
            rw [hY] at D16 ⊢
            clear hY
            have c0' := (D16.cell (p := ⟨p, o, none⟩) lp).trans c0
            have c1' := (D16.cell (p := ⟨p, o + 1, none⟩) lp).trans c1
            replace hpb := hpb.below D16 lp
            clear c0 c1 lp fp
            have lp := hpb.lt
            have fp := hpb.frozen0
            refine mix_loud rfl ?_
            go_wp2_with fail
            refine ⟨inEx D16, ?_⟩
            repeat (refine mix_quiet rfl ?_; go_big_quiet_step (fail); refine wpQuiet_nil ?_)
            refine mix_nil (r := [_]) rfl ?_
            rw [HN3.out]
            clear hn3c
            obtain ⟨lo', hlo'⟩ : ∃ x, min hi (lo + n3) = x := ⟨_, rfl⟩
            rw [hlo']
            have hlob : lo ≤ lo' ∧ lo' ≤ hi := by omega
            clear hlo'
            obtain ⟨d0, d1⟩ := blk_two hpb c0' c1' (.int .i64 lo')
            have hpb2 := hpb.set_ o (.int .i64 lo')
            go_upto_region 17 with fail
            clear c0' c1' lp fp
            generalize hZ : Y16.setCell ⟨p, o, none⟩ (.int .i64 lo') = Z at *
            have lp := hpb2.lt
            have fp := hpb2.frozen0
            have D17 := (Below.refl Z.heap.size Z).drew
            refine wp_region_ext_mix 17 [(false, 0), (false, 1), (false, 2), (false, 3), (false, 4), (false, 5), (false, 6), (false, 7), (false, 8), (false, 9), (false, 10), (false, 11), (false, 12), (false, 13), (true, 14), (false, 15), (false, 16)] (by kernel_rfl) (by kernel_rfl) (by intro d _ _ _ _ h; cases d <;> exact h) ?_
            repeat (refine mix_quiet rfl ?_; go_big_quiet_step (fail); refine wpQuiet_nil ?_)
            refine mix_loud rfl ?_
            go_wp2_with fail
            refine ⟨inEx D17, ?_⟩
            repeat (refine mix_quiet rfl ?_; go_big_quiet_step (fail); refine wpQuiet_nil ?_)
            refine mix_nil (r := [_]) rfl ?_
            rw [HN8.out]
            clear hn8c
            obtain ⟨hi', hhi'⟩ : ∃ x, max lo' (hi - n8) = x := ⟨_, rfl⟩
            rw [hhi']
            have hhib : lo' ≤ hi' ∧ hi' ≤ hi := by omega
            clear hhi'
            have hN3 : Below W2.heap.size W2 Y16.drew := ex_trans (ex_trans hW3 D16) (Below.refl Y16.heap.size Y16).drew
            obtain ⟨R2, M2, K2, HN, l1, l2, l3, R4⟩ := HPUT.out Y16.drew hN3 lo' hi' hlob.1 hhib.1 hhib.2
            have HWF : Hid ((Z.setCell ⟨p, o + 1, none⟩ (.int .i64 hi')).drew = (Y16.drew.setCell ⟨p, o, none⟩ (.int .i64 lo')).setCell ⟨p, o + 1, none⟩ (.int .i64 hi')) := Lib.hid (by rw [← hZ]; rfl)
            clear hZ
            have c9 : Z.drew.cell? ⟨p, o + 1, none⟩ = some (.int .i64 hi) := d1
            have f9 : ∀ i, Z.drew.frozen? ⟨p, i, none⟩ = false := fp
            have l9 : p < Z.drew.heap.size := lp
            go_upto_region 18 with fail
            rw [HWF.out]
            clear HWF d0 d1 lp fp c9 f9 l9 hpb hpb2
            have hNF : Below V2.heap.size V2 ((Y16.drew.setCell ⟨p, o, none⟩ (.int .i64 lo')).setCell ⟨p, o + 1, none⟩ (.int .i64 hi')) := ex_set (ex_set (ex_trans NW2 hN3) (by show V2.heap.size ≤ p; omega) _) (by show V2.heap.size ≤ p; omega) _
            have qyF := ((qy.below hN3 qy.lt).far (p := ⟨p, o, none⟩) (by show py ≠ p; omega) (.int .i64 lo')).far (p := ⟨p, o + 1, none⟩) (by show py ≠ p; omega) (.int .i64 hi')
            generalize (Y16.drew.setCell ⟨p, o, none⟩ (.int .i64 lo')).setCell ⟨p, o + 1, none⟩ (.int .i64 hi') = WF at *
            clear hN3 D16 D17 hW3
            rw [← l1, ← l2, ← l3] at qyF
            have BF := ex_trans B_V2 hNF
            have hxF := hx0.out.go hNF
            have qxF := qx0.out.below hNF qx0.out.lt
            obtain ⟨A6', c6', e6, _, _, ro1⟩ := lay_Rm 76 R4.o1
            rw [← l1] at e6
            injection e6 with e61 _ e62
            subst e61 e62
            obtain ⟨A7', c7', e7, _, _, ro2⟩ := lay_Mv 78 R4.o2
            rw [← l2] at e7
            injection e7 with e71 _ e72
            subst e71 e72
            obtain ⟨A8', c8', e8, _, _, ro3⟩ := lay_Wg 72 R4.o3
            rw [← l3] at e8
            injection e8 with e81 _ e82
            subst e81 e82
            have hyF : WsIn WF WF.heap.size (⟨R2, s.days, M2, K2⟩ : Ws) (some ⟨g, 0, none⟩) B2 B3 := ⟨ro1.sl, ro2.sl, ro3.sl⟩
            clear ro1 ro2 ro3 R4
            have HFI := Lib.hid (fin_is HLX.out.ckx HN.ck HN.fin (fw_yes HLX.out.ckx ⟨_, _, _, HLX.out.good⟩))
            have HFE := Lib.hid (fw_yes HLX.out.ckx ⟨_, _, _, HLX.out.good⟩)
            have HSY : Hid ((⟨R2, s.days, M2, K2⟩ : Ws).rooms.length ≤ 1000 ∧ (⟨R2, s.days, M2, K2⟩ : Ws).moves.length ≤ 1000 ∧ (⟨R2, s.days, M2, K2⟩ : Ws).wgs.length ≤ 1000) := Lib.hid ⟨by show R2.length ≤ 1000; omega, by show M2.length ≤ 1000; omega, by show K2.length ≤ 1000; omega⟩
            have HL1 := Lib.hid l1
            clear l1 l2 l3 HPUT HN
            have x0 : WF.cell? ⟨pqx, 0, none⟩ = some (.slice Ar s.rooms.length cr) := qxF.cell 0
            have x1 : WF.cell? ⟨pqx, 1, none⟩ = some (.int .i64 s.days) := qxF.cell 1
            have x2 : WF.cell? ⟨pqx, 2, none⟩ = some (.slice Am s.moves.length cm) := qxF.cell 2
            have x3 : WF.cell? ⟨pqx, 3, none⟩ = some (.slice A3 L.length c3) := qxF.cell 3
            have lx := qxF.lt
            have y0 : WF.cell? ⟨py, 0, none⟩ = some (.slice (some ⟨g, 0, none⟩) R2.length k1) := qyF.cell 0
            have y1 : WF.cell? ⟨py, 1, none⟩ = some (.int .i64 s.days) := qyF.cell 1
            have y2 : WF.cell? ⟨py, 2, none⟩ = some (.slice B2 M2.length k2) := qyF.cell 2
            have y3 : WF.cell? ⟨py, 3, none⟩ = some (.slice B3 K2.length k3) := qyF.cell 3
            have ly := qyF.lt
            go_wp2_with fail
            refine (Works_any (s.wg L) Ar Am A3 cr cm c3 WF hxF HSX.out).mono ?_
            rintro e V22 ⟨⟨⟨Ar1, Am1, Aw1, cr1, cm1, cw1, rfl, hw1⟩⟩, hV22⟩
            replace hxF := hxF.go hV22
            replace hyF := hyF.go hV22
            replace qxF := qxF.below hV22 qxF.lt
            replace qyF := qyF.below hV22 qyF.lt
            have B_V22 := ex_trans BF hV22
            clear x0 x1 x2 x3 lx
            have x0 : V22.cell? ⟨pqx, 0, none⟩ = some (.slice Ar s.rooms.length cr) := qxF.cell 0
            have x1 : V22.cell? ⟨pqx, 1, none⟩ = some (.int .i64 s.days) := qxF.cell 1
            have x2 : V22.cell? ⟨pqx, 2, none⟩ = some (.slice Am s.moves.length cm) := qxF.cell 2
            have x3 : V22.cell? ⟨pqx, 3, none⟩ = some (.slice A3 L.length c3) := qxF.cell 3
            have lx := qxF.lt
            clear y0 y1 y2 y3 ly
            have y0 : V22.cell? ⟨py, 0, none⟩ = some (.slice (some ⟨g, 0, none⟩) R2.length k1) := qyF.cell 0
            have y1 : V22.cell? ⟨py, 1, none⟩ = some (.int .i64 s.days) := qyF.cell 1
            have y2 : V22.cell? ⟨py, 2, none⟩ = some (.slice B2 M2.length k2) := qyF.cell 2
            have y3 : V22.cell? ⟨py, 3, none⟩ = some (.slice B3 K2.length k3) := qyF.cell 3
            have ly := qyF.lt
            go_wp2_with fail
            refine (Stocks_any (s.wg L) Ar1 Am1 Aw1 cr1 cm1 cw1 V22 hw1).mono ?_
            rintro e V23 ⟨⟨nS, AS, cS, rS, rcS, rfl, hsvS⟩, hV23⟩
            replace hxF := hxF.go hV23
            replace hyF := hyF.go hV23
            replace qxF := qxF.below hV23 qxF.lt
            replace qyF := qyF.below hV23 qyF.lt
            replace hw1 := hw1.go hV23
            have B_V23 := ex_trans B_V22 hV23
            clear hw1
            clear x0 x1 x2 x3 lx
            have x0 : V23.cell? ⟨pqx, 0, none⟩ = some (.slice Ar s.rooms.length cr) := qxF.cell 0
            have x1 : V23.cell? ⟨pqx, 1, none⟩ = some (.int .i64 s.days) := qxF.cell 1
            have x2 : V23.cell? ⟨pqx, 2, none⟩ = some (.slice Am s.moves.length cm) := qxF.cell 2
            have x3 : V23.cell? ⟨pqx, 3, none⟩ = some (.slice A3 L.length c3) := qxF.cell 3
            have lx := qxF.lt
            clear y0 y1 y2 y3 ly
            have y0 : V23.cell? ⟨py, 0, none⟩ = some (.slice (some ⟨g, 0, none⟩) R2.length k1) := qyF.cell 0
            have y1 : V23.cell? ⟨py, 1, none⟩ = some (.int .i64 s.days) := qyF.cell 1
            have y2 : V23.cell? ⟨py, 2, none⟩ = some (.slice B2 M2.length k2) := qyF.cell 2
            have y3 : V23.cell? ⟨py, 3, none⟩ = some (.slice B3 K2.length k3) := qyF.cell 3
            have ly := qyF.lt
            go_wp2_with fail
            refine (Works_any (⟨R2, s.days, M2, K2⟩ : Ws) (some ⟨g, 0, none⟩) B2 B3 k1 k2 k3 V23 hyF HSY.out).mono ?_
            rintro e V24 ⟨⟨⟨Ar2, Am2, Aw2, cr2, cm2, cw2, rfl, hw2⟩⟩, hV24⟩
            replace hsvS := hsvS.go hV24
            replace hxF := hxF.go hV24
            replace hyF := hyF.go hV24
            replace qxF := qxF.below hV24 qxF.lt
            replace qyF := qyF.below hV24 qyF.lt
            have B_V24 := ex_trans B_V23 hV24
            clear x0 x1 x2 x3 lx
            have x0 : V24.cell? ⟨pqx, 0, none⟩ = some (.slice Ar s.rooms.length cr) := qxF.cell 0
            have x1 : V24.cell? ⟨pqx, 1, none⟩ = some (.int .i64 s.days) := qxF.cell 1
            have x2 : V24.cell? ⟨pqx, 2, none⟩ = some (.slice Am s.moves.length cm) := qxF.cell 2
            have x3 : V24.cell? ⟨pqx, 3, none⟩ = some (.slice A3 L.length c3) := qxF.cell 3
            have lx := qxF.lt
            clear y0 y1 y2 y3 ly
            have y0 : V24.cell? ⟨py, 0, none⟩ = some (.slice (some ⟨g, 0, none⟩) R2.length k1) := qyF.cell 0
            have y1 : V24.cell? ⟨py, 1, none⟩ = some (.int .i64 s.days) := qyF.cell 1
            have y2 : V24.cell? ⟨py, 2, none⟩ = some (.slice B2 M2.length k2) := qyF.cell 2
            have y3 : V24.cell? ⟨py, 3, none⟩ = some (.slice B3 K2.length k3) := qyF.cell 3
            have ly := qyF.lt
            go_wp2_with fail
            refine (Stocks_any (⟨R2, s.days, M2, K2⟩ : Ws) Ar2 Am2 Aw2 cr2 cm2 cw2 V24 hw2).mono ?_
            rintro e V25 ⟨⟨nT, AT, cT, rT, rcT, rfl, hsvT⟩, hV25⟩
            replace hsvS := hsvS.go hV25
            replace hxF := hxF.go hV25
            replace hyF := hyF.go hV25
            replace qxF := qxF.below hV25 qxF.lt
            replace qyF := qyF.below hV25 qyF.lt
            replace hw2 := hw2.go hV25
            have B_V25 := ex_trans B_V24 hV25
            clear hw2
            clear x0 x1 x2 x3 lx
            have x0 : V25.cell? ⟨pqx, 0, none⟩ = some (.slice Ar s.rooms.length cr) := qxF.cell 0
            have x1 : V25.cell? ⟨pqx, 1, none⟩ = some (.int .i64 s.days) := qxF.cell 1
            have x2 : V25.cell? ⟨pqx, 2, none⟩ = some (.slice Am s.moves.length cm) := qxF.cell 2
            have x3 : V25.cell? ⟨pqx, 3, none⟩ = some (.slice A3 L.length c3) := qxF.cell 3
            have lx := qxF.lt
            clear y0 y1 y2 y3 ly
            have y0 : V25.cell? ⟨py, 0, none⟩ = some (.slice (some ⟨g, 0, none⟩) R2.length k1) := qyF.cell 0
            have y1 : V25.cell? ⟨py, 1, none⟩ = some (.int .i64 s.days) := qyF.cell 1
            have y2 : V25.cell? ⟨py, 2, none⟩ = some (.slice B2 M2.length k2) := qyF.cell 2
            have y3 : V25.cell? ⟨py, 3, none⟩ = some (.slice B3 K2.length k3) := qyF.cell 3
            have ly := qyF.lt
            go_wp2_with fail
            refine (Works_any (s.wg L) Ar Am A3 cr cm c3 V25 hxF HSX.out).mono ?_
            rintro e V26 ⟨⟨⟨Ar3, Am3, Aw3, cr3, cm3, cw3, rfl, hw3⟩⟩, hV26⟩
            replace hsvS := hsvS.go hV26
            replace hsvT := hsvT.go hV26
            replace hxF := hxF.go hV26
            replace hyF := hyF.go hV26
            replace qxF := qxF.below hV26 qxF.lt
            replace qyF := qyF.below hV26 qyF.lt
            have B_V26 := ex_trans B_V25 hV26
            clear x0 x1 x2 x3 lx
            have x0 : V26.cell? ⟨pqx, 0, none⟩ = some (.slice Ar s.rooms.length cr) := qxF.cell 0
            have x1 : V26.cell? ⟨pqx, 1, none⟩ = some (.int .i64 s.days) := qxF.cell 1
            have x2 : V26.cell? ⟨pqx, 2, none⟩ = some (.slice Am s.moves.length cm) := qxF.cell 2
            have x3 : V26.cell? ⟨pqx, 3, none⟩ = some (.slice A3 L.length c3) := qxF.cell 3
            have lx := qxF.lt
            clear y0 y1 y2 y3 ly
            have y0 : V26.cell? ⟨py, 0, none⟩ = some (.slice (some ⟨g, 0, none⟩) R2.length k1) := qyF.cell 0
            have y1 : V26.cell? ⟨py, 1, none⟩ = some (.int .i64 s.days) := qyF.cell 1
            have y2 : V26.cell? ⟨py, 2, none⟩ = some (.slice B2 M2.length k2) := qyF.cell 2
            have y3 : V26.cell? ⟨py, 3, none⟩ = some (.slice B3 K2.length k3) := qyF.cell 3
            have ly := qyF.lt
            go_wp2_with fail
            refine (Fewest_any (s.wg L) Ar3 Am3 Aw3 cr3 cm3 cw3 V26 hw3).mono ?_
            rintro e V27 ⟨⟨⟨AP, cP, rfl, hflP⟩⟩, hV27⟩
            replace hsvS := hsvS.go hV27
            replace hsvT := hsvT.go hV27
            replace hxF := hxF.go hV27
            replace hyF := hyF.go hV27
            replace qxF := qxF.below hV27 qxF.lt
            replace qyF := qyF.below hV27 qyF.lt
            replace hw3 := hw3.go hV27
            have B_V27 := ex_trans B_V26 hV27
            clear hw3
            clear hflP
            clear x0 x1 x2 x3 lx
            have x0 : V27.cell? ⟨pqx, 0, none⟩ = some (.slice Ar s.rooms.length cr) := qxF.cell 0
            have x1 : V27.cell? ⟨pqx, 1, none⟩ = some (.int .i64 s.days) := qxF.cell 1
            have x2 : V27.cell? ⟨pqx, 2, none⟩ = some (.slice Am s.moves.length cm) := qxF.cell 2
            have x3 : V27.cell? ⟨pqx, 3, none⟩ = some (.slice A3 L.length c3) := qxF.cell 3
            have lx := qxF.lt
            clear y0 y1 y2 y3 ly
            have y0 : V27.cell? ⟨py, 0, none⟩ = some (.slice (some ⟨g, 0, none⟩) R2.length k1) := qyF.cell 0
            have y1 : V27.cell? ⟨py, 1, none⟩ = some (.int .i64 s.days) := qyF.cell 1
            have y2 : V27.cell? ⟨py, 2, none⟩ = some (.slice B2 M2.length k2) := qyF.cell 2
            have y3 : V27.cell? ⟨py, 3, none⟩ = some (.slice B3 K2.length k3) := qyF.cell 3
            have ly := qyF.lt
            go_wp2_with fail
            refine (Works_any (⟨R2, s.days, M2, K2⟩ : Ws) (some ⟨g, 0, none⟩) B2 B3 k1 k2 k3 V27 hyF HSY.out).mono ?_
            rintro e V28 ⟨⟨⟨Ar4, Am4, Aw4, cr4, cm4, cw4, rfl, hw4⟩⟩, hV28⟩
            replace hsvS := hsvS.go hV28
            replace hsvT := hsvT.go hV28
            replace hxF := hxF.go hV28
            replace hyF := hyF.go hV28
            replace qxF := qxF.below hV28 qxF.lt
            replace qyF := qyF.below hV28 qyF.lt
            have B_V28 := ex_trans B_V27 hV28
            clear x0 x1 x2 x3 lx
            have x0 : V28.cell? ⟨pqx, 0, none⟩ = some (.slice Ar s.rooms.length cr) := qxF.cell 0
            have x1 : V28.cell? ⟨pqx, 1, none⟩ = some (.int .i64 s.days) := qxF.cell 1
            have x2 : V28.cell? ⟨pqx, 2, none⟩ = some (.slice Am s.moves.length cm) := qxF.cell 2
            have x3 : V28.cell? ⟨pqx, 3, none⟩ = some (.slice A3 L.length c3) := qxF.cell 3
            have lx := qxF.lt
            clear y0 y1 y2 y3 ly
            have y0 : V28.cell? ⟨py, 0, none⟩ = some (.slice (some ⟨g, 0, none⟩) R2.length k1) := qyF.cell 0
            have y1 : V28.cell? ⟨py, 1, none⟩ = some (.int .i64 s.days) := qyF.cell 1
            have y2 : V28.cell? ⟨py, 2, none⟩ = some (.slice B2 M2.length k2) := qyF.cell 2
            have y3 : V28.cell? ⟨py, 3, none⟩ = some (.slice B3 K2.length k3) := qyF.cell 3
            have ly := qyF.lt
            go_wp2_with fail
            refine (Fewest_any (⟨R2, s.days, M2, K2⟩ : Ws) Ar4 Am4 Aw4 cr4 cm4 cw4 V28 hw4).mono ?_
            rintro e V29 ⟨⟨⟨AU, cU, rfl, hflU⟩⟩, hV29⟩
            replace hsvS := hsvS.go hV29
            replace hsvT := hsvT.go hV29
            replace hxF := hxF.go hV29
            replace hyF := hyF.go hV29
            replace qxF := qxF.below hV29 qxF.lt
            replace qyF := qyF.below hV29 qyF.lt
            replace hw4 := hw4.go hV29
            have B_V29 := ex_trans B_V28 hV29
            clear hw4
            clear hflU
            clear x0 x1 x2 x3 lx
            have x0 : V29.cell? ⟨pqx, 0, none⟩ = some (.slice Ar s.rooms.length cr) := qxF.cell 0
            have x1 : V29.cell? ⟨pqx, 1, none⟩ = some (.int .i64 s.days) := qxF.cell 1
            have x2 : V29.cell? ⟨pqx, 2, none⟩ = some (.slice Am s.moves.length cm) := qxF.cell 2
            have x3 : V29.cell? ⟨pqx, 3, none⟩ = some (.slice A3 L.length c3) := qxF.cell 3
            have lx := qxF.lt
            clear y0 y1 y2 y3 ly
            have y0 : V29.cell? ⟨py, 0, none⟩ = some (.slice (some ⟨g, 0, none⟩) R2.length k1) := qyF.cell 0
            have y1 : V29.cell? ⟨py, 1, none⟩ = some (.int .i64 s.days) := qyF.cell 1
            have y2 : V29.cell? ⟨py, 2, none⟩ = some (.slice B2 M2.length k2) := qyF.cell 2
            have y3 : V29.cell? ⟨py, 3, none⟩ = some (.slice B3 K2.length k3) := qyF.cell 3
            have ly := qyF.lt
            rw [HFE.out]
            obtain ⟨nl, hnl⟩ : ∃ n, (fwL (s.wg L)).length = n := ⟨_, rfl⟩
            obtain ⟨nm, hnm⟩ : ∃ n, (fwL (⟨R2, s.days, M2, K2⟩ : Ws)).length = n := ⟨_, rfl⟩
            have hfi := HFI.out
            rcases hfi with ⟨he, hf, hh, hl, hm', hr⟩ | ⟨hf, he, hh⟩
            · obtain ⟨hn1, hRa⟩ := hsvS.yes he
              obtain ⟨hn2, hRb⟩ := hsvT.yes hf
              rw [he, hf, hh]
              rw [hnl] at hl ⊢
              rw [hnm] at hm' ⊢
              subst hl hm' hn1 hn2
              have hRb' : RgsIn V29 V29.heap.size AT s.rooms.length s.wo.days (stkR (⟨R2, s.days, M2, K2⟩ : Ws).wo off0) rT rcT := HL1.out ▸ hRb
              rw [show (⟨R2, s.days, M2, K2⟩ : Ws).rooms.length = s.rooms.length from HL1.out]
              clear hsvS hsvT hnl hnm he hf hh hRb
              go_wp2_with fail
              refine (in_any AT AS cT cS s.rooms.length s.wo.days (stkR (⟨R2, s.days, M2, K2⟩ : Ws).wo off0) (stkR (s.wg L).wo off0) rT rS rcT rcS V29 hRb' hRa (by omega) (by have := HWO.out.days; omega) hr).mono ?_
              rintro e V30 ⟨rfl, hV30⟩
              replace hxF := hxF.go hV30
              replace hyF := hyF.go hV30
              replace qxF := qxF.below hV30 qxF.lt
              replace qyF := qyF.below hV30 qyF.lt
              have B_V30 := ex_trans B_V29 hV30
              go_wp2_with fail
              refine (awake_any V30).mono ?_
              rintro e Wz ⟨rfl, hz⟩
              go_wp2
              go_ret
              exact ⟨rfl, ex_trans B_V30 hz⟩
            · rw [hf, hnl, hnm]
              rw [hnl] at he hh
              rw [hnm] at hh
              clear hsvS hsvT hnl hnm hf
              rcases he with ⟨he, hl⟩ | ⟨he, hl⟩
              · rw [he]
                clear he
                subst hl
                rcases hh with ⟨hh, hm'⟩ | ⟨hh, hm', hlm⟩
                · rw [hh]
                  clear hh
                  subst hm'
                  go_wp2_with fail
                  refine (awake_any V29).mono ?_
                  rintro e Wz ⟨rfl, hz⟩
                  go_wp2
                  go_ret
                  exact ⟨rfl, ex_trans B_V29 hz⟩
                · rw [hh]
                  clear hh
                  have q2 : (0 : Int) < (nm : Int) := by omega
                  have q3 : ¬ (nm : Int) < (((0 : Nat)) : Int) := by omega
                  go_wp2_with fail
                  refine (awake_any V29).mono ?_
                  rintro e Wz ⟨rfl, hz⟩
                  go_wp2
                  go_ret
                  exact ⟨rfl, ex_trans B_V29 hz⟩
              · rw [he]
                clear he
                have q1 : ((nl : Int) == 0) = false := by rw [beq_eq_false_iff_ne]; omega
                rcases hh with ⟨hh, hm'⟩ | ⟨hh, hm', hlm⟩
                · rw [hh]
                  clear hh
                  subst hm'
                  go_wp2_with fail
                  refine (awake_any V29).mono ?_
                  rintro e Wz ⟨rfl, hz⟩
                  go_wp2
                  go_ret
                  exact ⟨rfl, ex_trans B_V29 hz⟩
                · rw [hh]
                  clear hh
                  have q2 : (0 : Int) < (nm : Int) := by omega
                  have q3 : ¬ (nm : Int) < (nl : Int) := by omega
                  go_wp2_with fail
                  refine (awake_any V29).mono ?_
                  rintro e Wz ⟨rfl, hz⟩
                  go_wp2
                  go_ret
                  exact ⟨rfl, ex_trans B_V29 hz⟩
        clear hK14
        by_cases c1 : m4 % 4 = 1
        · have e1 : (m4 % 4 == 1) = true := by rw [c1]; rfl
          clear c1
          obtain ⟨g2, cap2, ev, T9⟩ := tgt_vap HK0.out R3 li
          injection ev with ev1 _ ev2
          injection ev1 with ev1
          injection ev1 with ev1
          subst ev1 ev2
          have y0 : Y7.cell? ⟨py, 0, none⟩ = some (.slice (some ⟨g, 0, none⟩) s.rooms.length k1) := qy.cell 0
          have y1 : Y7.cell? ⟨py, 1, none⟩ = some (.int .i64 s.days) := qy.cell 1
          have y2 : Y7.cell? ⟨py, 2, none⟩ = some (.slice B2 s.moves.length k2) := qy.cell 2
          have y3 : Y7.cell? ⟨py, 3, none⟩ = some (.slice B3 K0.length k3) := qy.cell 3
          have ly := qy.lt
          clear T9
          go_upto_region 9 with fail
          have D9 := (Below.refl Y7.heap.size Y7).drew
          refine wp_region_ext_mix 10 [(false, 0), (false, 1), (false, 2), (false, 3), (false, 4), (false, 5), (false, 6), (false, 7), (false, 8), (false, 9)] (by kernel_rfl) (by kernel_rfl) (by intro d _ _ _ _ h; cases d <;> exact h) ?_
          repeat (refine mix_quiet rfl ?_; go_big_quiet_step (fail); refine wpQuiet_nil ?_)
          obtain ⟨Y9, hY⟩ : ∃ Y, Y7.drew = Y := ⟨_, rfl⟩
          rw [hY] at D9 ⊢
          clear hY
          clear y0 y1 y2 y3 ly
          replace hs := hs.go D9
          replace hwd := (hwd.below D9).up D9.size
          replace q0 := q0.below D9 q0.lt
          replace qm := qm.below D9 qm.lt
          replace hx := hx.go D9
          replace ht := ht.go D9
          replace hM := hM.go D9
          replace qx := qx.below D9 qx.lt
          replace qt := qt.below D9 qt.lt
          replace qy := qy.below D9 qy.lt
          have B_Y9 := ex_trans B_Y7 D9
          refine mix_nil (r := [_]) rfl ?_
          rw [eq_i]
          obtain ⟨g2, cap2, ev, T9⟩ := tgt_vap HK0.out (R3.below D9) li
          injection ev with ev1 _ ev2
          injection ev1 with ev1
          injection ev1 with ev1
          subst ev1 ev2
          go_wp2_with fail
          exact hrest14 _ g (i * 4 + 2) _ _ _ D9 T9 (exFrame (by kernel_rfl))
        have e1 : (m4 % 4 == 1) = false := by rw [beq_eq_false_iff_ne]; exact c1
        clear c1
        by_cases c2 : m4 % 4 = 2
        · have e2 : (m4 % 4 == 2) = true := by rw [c2]; rfl
          by_cases c0 : s.moves.length = 0
          · have e0 : ¬ (0 : Int) < (s.moves.length : Int) := by omega
            have e3 : (m4 % 4 == 3) = false := by rw [c2]; rfl
            clear c2 c0
            obtain ⟨g2, cap2, ev, T9⟩ := tgt_fst HK0.out R3 li
            injection ev with ev1 _ ev2
            injection ev1 with ev1
            injection ev1 with ev1
            subst ev1 ev2
            have y0 : Y7.cell? ⟨py, 0, none⟩ = some (.slice (some ⟨g, 0, none⟩) s.rooms.length k1) := qy.cell 0
            have y1 : Y7.cell? ⟨py, 1, none⟩ = some (.int .i64 s.days) := qy.cell 1
            have y2 : Y7.cell? ⟨py, 2, none⟩ = some (.slice B2 s.moves.length k2) := qy.cell 2
            have y3 : Y7.cell? ⟨py, 3, none⟩ = some (.slice B3 K0.length k3) := qy.cell 3
            have ly := qy.lt
            go_wp2_with fail
            exact hrest14 _ g (i * 4) _ _ _ (Below.refl _ _) T9 (exFrame (by kernel_rfl))
          · have e0 : (0 : Int) < (s.moves.length : Int) := by omega
            clear c2
            have l_0 : 0 ≤ (m5 : Int) % (s.moves.length : Int) := Int.emod_nonneg _ (by omega)
            have l_1 : (m5 : Int) % (s.moves.length : Int) < (s.moves.length : Int) := Int.emod_lt_of_pos _ (by omega)
            obtain ⟨l, eq_l⟩ : ∃ x : Nat, (m5 : Int) % (s.moves.length : Int) = (x : Int) := ⟨((m5 : Int) % (s.moves.length : Int)).toNat, by omega⟩
            rw [eq_l] at l_0 l_1
            have ll : l < s.moves.length := by omega
            clear l_0
            have l_n : ¬ (s.moves.length : Int) = 0 := by omega
            have l_n' : ((s.moves.length : Int) == 0) = false := by rw [beq_eq_false_iff_ne]; exact l_n
            obtain ⟨g3, cap3, ev, T11⟩ := tgt_mov HK0.out R3 ll
            injection ev with ev1 _ ev2
            subst ev1 ev2
            clear T11
            have y0 : Y7.cell? ⟨py, 0, none⟩ = some (.slice (some ⟨g, 0, none⟩) s.rooms.length k1) := qy.cell 0
            have y1 : Y7.cell? ⟨py, 1, none⟩ = some (.int .i64 s.days) := qy.cell 1
            have y2 : Y7.cell? ⟨py, 2, none⟩ = some (.slice (some ⟨g3, 0, none⟩) s.moves.length k2) := qy.cell 2
            have y3 : Y7.cell? ⟨py, 3, none⟩ = some (.slice B3 K0.length k3) := qy.cell 3
            have ly := qy.lt
            go_upto_region 11 with fail
            have D11 := (Below.refl Y7.heap.size Y7).drew
            refine wp_region_ext_mix 10 [(false, 0), (false, 1), (false, 2), (false, 3), (false, 4), (false, 5), (false, 6), (false, 7), (false, 8), (false, 9)] (by kernel_rfl) (by kernel_rfl) (by intro d _ _ _ _ h; cases d <;> exact h) ?_
            repeat (refine mix_quiet rfl ?_; go_big_quiet_step (fail); refine wpQuiet_nil ?_)
            obtain ⟨Y11, hY⟩ : ∃ Y, Y7.drew = Y := ⟨_, rfl⟩
            rw [hY] at D11 ⊢
            clear hY
            clear y0 y1 y2 y3 ly
            replace hs := hs.go D11
            replace hwd := (hwd.below D11).up D11.size
            replace q0 := q0.below D11 q0.lt
            replace qm := qm.below D11 qm.lt
            replace hx := hx.go D11
            replace ht := ht.go D11
            replace hM := hM.go D11
            replace qx := qx.below D11 qx.lt
            replace qt := qt.below D11 qt.lt
            replace qy := qy.below D11 qy.lt
            have B_Y11 := ex_trans B_Y7 D11
            refine mix_nil (r := [_]) rfl ?_
            rw [eq_l]
            obtain ⟨g4, cap4, ev, T11⟩ := tgt_mov HK0.out (R3.below D11) ll
            injection ev with ev1 _ ev2
            injection ev1 with ev1
            injection ev1 with ev1
            subst ev1 ev2
            go_wp2_with fail
            exact hrest14 _ g3 (l * 5 + 3) _ _ _ D11 T11 (exFrame (by kernel_rfl))
        · have e2 : (m4 % 4 == 2) = false := by rw [beq_eq_false_iff_ne]; exact c2
          clear c2
          by_cases c3 : m4 % 4 = 3
          · have e3 : (m4 % 4 == 3) = true := by rw [c3]; rfl
            clear c3
            have hkl0 : 0 < K0.length := by rw [← HKL.out]; omega
            have l_0 : 0 ≤ (m5 : Int) % (K0.length : Int) := Int.emod_nonneg _ (by omega)
            have l_1 : (m5 : Int) % (K0.length : Int) < (K0.length : Int) := Int.emod_lt_of_pos _ (by omega)
            obtain ⟨l, eq_l⟩ : ∃ x : Nat, (m5 : Int) % (K0.length : Int) = (x : Int) := ⟨((m5 : Int) % (K0.length : Int)).toNat, by omega⟩
            rw [eq_l] at l_0 l_1
            have ll : l < K0.length := by omega
            clear l_0
            have l_n : ¬ (K0.length : Int) = 0 := by omega
            have l_n' : ((K0.length : Int) == 0) = false := by rw [beq_eq_false_iff_ne]; exact l_n
            obtain ⟨g3, cap3, ev, T13⟩ := tgt_wg HK0.out R3 ll
            injection ev with ev1 _ ev2
            subst ev1 ev2
            clear T13
            have y0 : Y7.cell? ⟨py, 0, none⟩ = some (.slice (some ⟨g, 0, none⟩) s.rooms.length k1) := qy.cell 0
            have y1 : Y7.cell? ⟨py, 1, none⟩ = some (.int .i64 s.days) := qy.cell 1
            have y2 : Y7.cell? ⟨py, 2, none⟩ = some (.slice B2 s.moves.length k2) := qy.cell 2
            have y3 : Y7.cell? ⟨py, 3, none⟩ = some (.slice (some ⟨g3, 0, none⟩) K0.length k3) := qy.cell 3
            have ly := qy.lt
            go_upto_region 13 with fail
            have D13 := (Below.refl Y7.heap.size Y7).drew
            refine wp_region_ext_mix 10 [(false, 0), (false, 1), (false, 2), (false, 3), (false, 4), (false, 5), (false, 6), (false, 7), (false, 8), (false, 9)] (by kernel_rfl) (by kernel_rfl) (by intro d _ _ _ _ h; cases d <;> exact h) ?_
            repeat (refine mix_quiet rfl ?_; go_big_quiet_step (fail); refine wpQuiet_nil ?_)
            obtain ⟨Y13, hY⟩ : ∃ Y, Y7.drew = Y := ⟨_, rfl⟩
            rw [hY] at D13 ⊢
            clear hY
            clear y0 y1 y2 y3 ly
            replace hs := hs.go D13
            replace hwd := (hwd.below D13).up D13.size
            replace q0 := q0.below D13 q0.lt
            replace qm := qm.below D13 qm.lt
            replace hx := hx.go D13
            replace ht := ht.go D13
            replace hM := hM.go D13
            replace qx := qx.below D13 qx.lt
            replace qt := qt.below D13 qt.lt
            replace qy := qy.below D13 qy.lt
            have B_Y13 := ex_trans B_Y7 D13
            refine mix_nil (r := [_]) rfl ?_
            rw [eq_l]
            obtain ⟨g4, cap4, ev, T13⟩ := tgt_wg HK0.out (R3.below D13) ll
            injection ev with ev1 _ ev2
            injection ev1 with ev1
            injection ev1 with ev1
            subst ev1 ev2
            go_wp2_with fail
            exact hrest14 _ g3 (l * 4 + 2) _ _ _ D13 T13 (exFrame (by kernel_rfl))
          · have e3 : (m4 % 4 == 3) = false := by rw [beq_eq_false_iff_ne]; exact c3
            clear c3
            obtain ⟨g2, cap2, ev, T9⟩ := tgt_fst HK0.out R3 li
            injection ev with ev1 _ ev2
            injection ev1 with ev1
            injection ev1 with ev1
            subst ev1 ev2
            have y0 : Y7.cell? ⟨py, 0, none⟩ = some (.slice (some ⟨g, 0, none⟩) s.rooms.length k1) := qy.cell 0
            have y1 : Y7.cell? ⟨py, 1, none⟩ = some (.int .i64 s.days) := qy.cell 1
            have y2 : Y7.cell? ⟨py, 2, none⟩ = some (.slice B2 s.moves.length k2) := qy.cell 2
            have y3 : Y7.cell? ⟨py, 3, none⟩ = some (.slice B3 K0.length k3) := qy.cell 3
            have ly := qy.lt
            go_wp2_with fail
            exact hrest14 _ g (i * 4) _ _ _ (Below.refl _ _) T9 (exFrame (by kernel_rfl))
    have N5 := hF.toBelow NY NY.size (fun x hx => by omega)
    have qx5 := qx0.out.below N5 qx0.out.lt
    have qm5 := qm.below N5 qm.lt
    have hw5 := (hx0.out.wgs.below N5).up N5.size
    have hz5 : B0 ≤ W.heap.size := by have := hF.size; have := HB0.out; omega
    have y3 : W.cell? ⟨py, 3, none⟩ = some (.slice A3 L.length c3) := qy.cell 3
    have ly := qy.lt
    have x3 : W.cell? ⟨pqx, 3, none⟩ = some (.slice A3 L.length c3) := qx5.cell 3
    have lx := qx5.lt
    have g0 : W.cell? ⟨pqm, 0, none⟩ = some (.int .i64 um.room) := qm5.cell 0
    have g1 : W.cell? ⟨pqm, 1, none⟩ = some (.int .i64 um.day) := qm5.cell 1
    have g2 : W.cell? ⟨pqm, 2, none⟩ = some (.int .i64 um.g.lo) := qm5.cell 2
    have g3 : W.cell? ⟨pqm, 3, none⟩ = some (.int .i64 um.g.hi) := qm5.cell 3
    have lg := qm5.lt
    clear hK6
    have D := (Below.refl W.heap.size W).drew
    refine wp_region_ext_tqF 8 (.quiet 1 (.quiet 2 (.quiet 4 (.fork 0 (.fork 3 (.loud 5 (.loud 6 (.quiet 7 .done))) 5 (.loud 3 (.loud 6 (.quiet 7 .done)))) 5 (.loud 0 (.loud 3 (.loud 6 (.quiet 7 .done)))))))) (by kernel_rfl) (by kernel_rfl) (by intro d _ _ _ _ h; cases d <;> exact h) ?_
    repeat (refine tq_quiet rfl ?_; go_big_quiet_step (fail); refine wpQuiet_nil ?_)
    obtain ⟨U0, hY⟩ : ∃ Y, W.drew = Y := ⟨_, rfl⟩
    rw [hY] at D ⊢
    clear hY y3 ly x3 lx g0 g1 g2 g3 lg qx5 qm5
    have X := D
    replace qy := qy.below D qy.lt
    replace o1 := own_below o1 D
    replace o2 := own_below o2 D
    refine tq_fork rfl rfl ?_ ?_
    · go_wp2_with fail
      have N := ex_alloc (Below.refl U0.heap.size U0) (.cells #[] 72)
      have E3 : Blk (U0.alloc (.cells #[] 72)) U0.heap.size 72 #[] := Blk.new _ _ _
      have he3 : W.heap.size ≤ U0.heap.size := by have := X.size; omega
      replace qy := qy.below N qy.lt
      replace o1 := own_below o1 N
      replace o2 := own_below o2 N
      replace X := ex_trans X N
      obtain ⟨e3, hpp⟩ : ∃ p, U0.heap.size = p := ⟨_, rfl⟩
      rw [hpp] at E3 he3 ⊢
      clear N hpp
      generalize U0.alloc (.cells #[] 72) = U1 at *
      refine ⟨inEx X, ?_⟩
      repeat (refine tq_quiet rfl ?_; go_big_quiet_step (fail); refine wpQuiet_nil ?_)
      refine tq_fork rfl rfl ?_ ?_
      · have hsl' := (hw5.below X).up X.size
        have hbs : W.heap.size ≤ U1.heap.size := by have := X.size; omega
        go_wp2_with (at_builtin; refine wpList_append_list (α := Wg) (f := cWg) (F := fWg) (sz := 4) (fun _ => rfl) cWg_at cWg_one rfl _ _ _ rfl (W.heap.size) 72 i2 _ 32 Try.underlying24 HI2.out hz0 hz1 hz2 rfl (by omega) (some ⟨e3, 0, none⟩) 0 [] rfl (own_empty E3 he3) A3 c3 L rfl hsl' (by simp; unfold maxLen; omega) (by simp; omega) hbs (U1.heap.size) rfl ?_; intro LX Bx kx U2 HLX' o3 g nX)
        obtain rfl : L = LX := HLX'.out.symm
        clear HLX' nX hsl' hbs
        have hrow : ∀ x : Nat, some x = (Value.slice (some ⟨e3, 0, none⟩) 0 0).ownBlock → x = e3 := fun x e => by have e' : some x = some e3 := e; injection e'
        have hrow2 : ∀ x : Nat, (Value.slice (some ⟨e3, 0, none⟩) 0 0).ownBlock = some x → x = e3 := fun x e => hrow x e.symm
        replace qy := qy.grown g (fun e => by have := hrow _ e; omega)
        replace o1 := own_grow o1 g (fun b hb e => own_blkne o1 E3 (by decide) (by rw [hb, hrow2 b e]))
        replace o2 := own_grow o2 g (fun b hb e => own_blkne o2 E3 (by decide) (by rw [hb, hrow2 b e]))
        replace X := X.grown g X.size (fun b e => by have := hrow2 b e; omega)
        clear hrow hrow2 E3 he3
        clear g
        refine ⟨inEx X, ?_⟩
        repeat (refine tq_quiet rfl ?_; go_big_quiet_step (fail); refine wpQuiet_nil ?_)
        refine tq_loud rfl ?_
        go_wp2_with fail
        have N := ex_alloc (Below.refl U2.heap.size U2) (.cells #[.int .i64 um.room, .int .i64 um.day, .int .i64 um.g.lo, .int .i64 um.g.hi] 72)
        have E5 : Blk (U2.alloc (.cells #[.int .i64 um.room, .int .i64 um.day, .int .i64 um.g.lo, .int .i64 um.g.hi] 72)) U2.heap.size 72 #[.int .i64 um.room, .int .i64 um.day, .int .i64 um.g.lo, .int .i64 um.g.hi] := Blk.new _ _ _
        have he5 : W.heap.size ≤ U2.heap.size := by have := X.size; omega
        replace qy := qy.below N qy.lt
        replace o1 := own_below o1 N
        replace o2 := own_below o2 N
        replace o3 := own_below o3 N
        replace X := ex_trans X N
        obtain ⟨e5, hpp⟩ : ∃ p, U2.heap.size = p := ⟨_, rfl⟩
        rw [hpp] at E5 he5 ⊢
        clear N hpp
        generalize U2.alloc (.cells #[.int .i64 um.room, .int .i64 um.day, .int .i64 um.g.lo, .int .i64 um.g.hi] 72) = U3 at *
        refine ⟨inEx X, ?_⟩
        repeat (refine tq_quiet rfl ?_; go_big_quiet_step (fail); refine wpQuiet_nil ?_)
        refine tq_loud rfl ?_
        have c63 : L.length + 1 ≤ maxLen := by unfold maxLen; omega
        have cby : (L.length + 1) * 32 ≤ 140737488355328 := by omega
        have hbs : W.heap.size ≤ U3.heap.size := by have := X.size; omega
        go_wp2_with (at_builtin; refine wpList_append_lies _ rfl _ _ _ rfl (W.heap.size) 72 i2 _ 4 32 Try.underlying24 HI2.out hz0 hz1 hz2 rfl (by omega) (.slice Bx L.length kx) _ _ rfl o3 ⟨e5, 0, none⟩ 1 1 [.int .i64 um.room, .int .i64 um.day, .int .i64 um.g.lo, .int .i64 um.g.hi] rfl rfl (World.news_of_block E5) (by simp [Value.oneCell']) (by omega) c63 cby hbs (U3.heap.size) rfl ?_; intro gg cap U4 hown' g hat hlt')
        replace qy := qy.grown g (fun e => by have := own_ge o3 e.symm; omega)
        replace o1 := own_grow o1 g (fun b hb => own_ownne o1 o3 (by decide) hb)
        replace o2 := own_grow o2 g (fun b hb => own_ownne o2 o3 (by decide) hb)
        replace X := X.grown g X.size (fun b hb => by have := own_ge o3 hb; omega)
        have own7 := own_push (f := cWg) (x := um) rfl hown'
        rw [HK0.out] at own7
        skip
        clear hown' hat hlt' c63 cby hbs g o3
        refine ⟨inEx X, ?_⟩
        repeat (refine tq_quiet rfl ?_; go_big_quiet_step (fail); refine wpQuiet_nil ?_)
        skip
        have e9 : (Value.slice (some ⟨gg, 0, none⟩) (L.length + 1) cap) = .slice (some ⟨gg, 0, none⟩) K0.length cap := by rw [HKL.out]
        rw [e9] at own7 ⊢
        clear e9
        have y3 : U4.cell? ⟨py, 3, none⟩ = some (.slice A3 L.length c3) := qy.cell 3
        have ly := qy.lt
        have fy := qy.frozen0
        have qz := qy.set_ 3 (.slice (some ⟨gg, 0, none⟩) K0.length cap)
        simp only [List.setIfInBounds_toArray, List.set_cons_zero, List.set_cons_succ] at qz
        have hFz := (hF.trans (Fr.below X) (fun _ _ h => h)).andSet (b := py) (i := 3) (v := (.slice (some ⟨gg, 0, none⟩) K0.length cap)) rfl
        have o1z := own_far o1 (p := ⟨py, 3, none⟩) (by show py < B0; omega) (.slice (some ⟨gg, 0, none⟩) K0.length cap)
        have o2z := own_far o2 (p := ⟨py, 3, none⟩) (by show py < B0; omega) (.slice (some ⟨gg, 0, none⟩) K0.length cap)
        have o3z := own_far (own_base own7 hz5) (p := ⟨py, 3, none⟩) (by show py < B0; omega) (.slice (some ⟨gg, 0, none⟩) K0.length cap)
        refine tq_done (r := [_]) rfl ?_
        go_wp2_with fail
        refine hrest6 (U4.setCell ⟨py, 3, none⟩ (.slice (some ⟨gg, 0, none⟩) K0.length cap)) (some ⟨gg, 0, none⟩) cap _ hFz qz o1z o2z o3z ?_
        exact exFrame (by kernel_rfl)
      · go_wp2_with fail
        have N := ex_alloc (Below.refl U1.heap.size U1) (.cells #[.int .i64 um.room, .int .i64 um.day, .int .i64 um.g.lo, .int .i64 um.g.hi] 72)
        have E5 : Blk (U1.alloc (.cells #[.int .i64 um.room, .int .i64 um.day, .int .i64 um.g.lo, .int .i64 um.g.hi] 72)) U1.heap.size 72 #[.int .i64 um.room, .int .i64 um.day, .int .i64 um.g.lo, .int .i64 um.g.hi] := Blk.new _ _ _
        have he5 : W.heap.size ≤ U1.heap.size := by have := X.size; omega
        have nE3_e5 : e3 < U1.heap.size := E3.lt
        replace qy := qy.below N qy.lt
        replace o1 := own_below o1 N
        replace o2 := own_below o2 N
        replace E3 := E3.below N E3.lt
        replace X := ex_trans X N
        obtain ⟨e5, hpp⟩ : ∃ p, U1.heap.size = p := ⟨_, rfl⟩
        rw [hpp] at E5 he5 nE3_e5 ⊢
        clear N hpp
        generalize U1.alloc (.cells #[.int .i64 um.room, .int .i64 um.day, .int .i64 um.g.lo, .int .i64 um.g.hi] 72) = U5 at *
        refine ⟨inEx X, ?_⟩
        repeat (refine tq_quiet rfl ?_; go_big_quiet_step (fail); refine wpQuiet_nil ?_)
        refine tq_loud rfl ?_
        have hsl' := (hw5.below X).up X.size
        have hbs : W.heap.size ≤ U5.heap.size := by have := X.size; omega
        go_wp2_with (at_builtin; refine wpList_append_list (α := Wg) (f := cWg) (F := fWg) (sz := 4) (fun _ => rfl) cWg_at cWg_one rfl _ _ _ rfl (W.heap.size) 72 i2 _ 32 Try.underlying24 HI2.out hz0 hz1 hz2 rfl (by omega) (some ⟨e3, 0, none⟩) 0 [] rfl (own_empty E3 he3) A3 c3 L rfl hsl' (by simp; unfold maxLen; omega) (by simp; omega) hbs (U5.heap.size) rfl ?_; intro LX Bx kx U6 HLX' o3 g nX)
        obtain rfl : L = LX := HLX'.out.symm
        clear HLX' nX hsl' hbs
        have hrow : ∀ x : Nat, some x = (Value.slice (some ⟨e3, 0, none⟩) 0 0).ownBlock → x = e3 := fun x e => by have e' : some x = some e3 := e; injection e'
        have hrow2 : ∀ x : Nat, (Value.slice (some ⟨e3, 0, none⟩) 0 0).ownBlock = some x → x = e3 := fun x e => hrow x e.symm
        replace qy := qy.grown g (fun e => by have := hrow _ e; omega)
        replace o1 := own_grow o1 g (fun b hb e => own_blkne o1 E3 (by decide) (by rw [hb, hrow2 b e]))
        replace o2 := own_grow o2 g (fun b hb e => own_blkne o2 E3 (by decide) (by rw [hb, hrow2 b e]))
        replace E5 := E5.grown g (fun e => by have := hrow _ e; omega)
        replace X := X.grown g X.size (fun b e => by have := hrow2 b e; omega)
        clear hrow hrow2 E3 he3
        clear g
        refine ⟨inEx X, ?_⟩
        repeat (refine tq_quiet rfl ?_; go_big_quiet_step (fail); refine wpQuiet_nil ?_)
        refine tq_loud rfl ?_
        have c63 : L.length + 1 ≤ maxLen := by unfold maxLen; omega
        have cby : (L.length + 1) * 32 ≤ 140737488355328 := by omega
        have hbs : W.heap.size ≤ U6.heap.size := by have := X.size; omega
        go_wp2_with (at_builtin; refine wpList_append_lies _ rfl _ _ _ rfl (W.heap.size) 72 i2 _ 4 32 Try.underlying24 HI2.out hz0 hz1 hz2 rfl (by omega) (.slice Bx L.length kx) _ _ rfl o3 ⟨e5, 0, none⟩ 1 1 [.int .i64 um.room, .int .i64 um.day, .int .i64 um.g.lo, .int .i64 um.g.hi] rfl rfl (World.news_of_block E5) (by simp [Value.oneCell']) (by omega) c63 cby hbs (U6.heap.size) rfl ?_; intro gg cap U7 hown' g hat hlt')
        replace qy := qy.grown g (fun e => by have := own_ge o3 e.symm; omega)
        replace o1 := own_grow o1 g (fun b hb => own_ownne o1 o3 (by decide) hb)
        replace o2 := own_grow o2 g (fun b hb => own_ownne o2 o3 (by decide) hb)
        replace X := X.grown g X.size (fun b hb => by have := own_ge o3 hb; omega)
        have own7 := own_push (f := cWg) (x := um) rfl hown'
        rw [HK0.out] at own7
        skip
        clear hown' hat hlt' c63 cby hbs g o3
        refine ⟨inEx X, ?_⟩
        repeat (refine tq_quiet rfl ?_; go_big_quiet_step (fail); refine wpQuiet_nil ?_)
        skip
        have e9 : (Value.slice (some ⟨gg, 0, none⟩) (L.length + 1) cap) = .slice (some ⟨gg, 0, none⟩) K0.length cap := by rw [HKL.out]
        rw [e9] at own7 ⊢
        clear e9
        have y3 : U7.cell? ⟨py, 3, none⟩ = some (.slice A3 L.length c3) := qy.cell 3
        have ly := qy.lt
        have fy := qy.frozen0
        have qz := qy.set_ 3 (.slice (some ⟨gg, 0, none⟩) K0.length cap)
        simp only [List.setIfInBounds_toArray, List.set_cons_zero, List.set_cons_succ] at qz
        have hFz := (hF.trans (Fr.below X) (fun _ _ h => h)).andSet (b := py) (i := 3) (v := (.slice (some ⟨gg, 0, none⟩) K0.length cap)) rfl
        have o1z := own_far o1 (p := ⟨py, 3, none⟩) (by show py < B0; omega) (.slice (some ⟨gg, 0, none⟩) K0.length cap)
        have o2z := own_far o2 (p := ⟨py, 3, none⟩) (by show py < B0; omega) (.slice (some ⟨gg, 0, none⟩) K0.length cap)
        have o3z := own_far (own_base own7 hz5) (p := ⟨py, 3, none⟩) (by show py < B0; omega) (.slice (some ⟨gg, 0, none⟩) K0.length cap)
        refine tq_done (r := [_]) rfl ?_
        go_wp2_with fail
        refine hrest6 (U7.setCell ⟨py, 3, none⟩ (.slice (some ⟨gg, 0, none⟩) K0.length cap)) (some ⟨gg, 0, none⟩) cap _ hFz qz o1z o2z o3z ?_
        exact exFrame (by kernel_rfl)
    · go_wp2_with fail
      have N := ex_alloc (Below.refl U0.heap.size U0) (.cells #[.int .i64 um.room, .int .i64 um.day, .int .i64 um.g.lo, .int .i64 um.g.hi] 72)
      have E5 : Blk (U0.alloc (.cells #[.int .i64 um.room, .int .i64 um.day, .int .i64 um.g.lo, .int .i64 um.g.hi] 72)) U0.heap.size 72 #[.int .i64 um.room, .int .i64 um.day, .int .i64 um.g.lo, .int .i64 um.g.hi] := Blk.new _ _ _
      have he5 : W.heap.size ≤ U0.heap.size := by have := X.size; omega
      replace qy := qy.below N qy.lt
      replace o1 := own_below o1 N
      replace o2 := own_below o2 N
      replace X := ex_trans X N
      obtain ⟨e5, hpp⟩ : ∃ p, U0.heap.size = p := ⟨_, rfl⟩
      rw [hpp] at E5 he5 ⊢
      clear N hpp
      generalize U0.alloc (.cells #[.int .i64 um.room, .int .i64 um.day, .int .i64 um.g.lo, .int .i64 um.g.hi] 72) = U8 at *
      refine ⟨inEx X, ?_⟩
      repeat (refine tq_quiet rfl ?_; go_big_quiet_step (fail); refine wpQuiet_nil ?_)
      refine tq_loud rfl ?_
      go_wp2_with fail
      have N := ex_alloc (Below.refl U8.heap.size U8) (.cells #[] 72)
      have E3 : Blk (U8.alloc (.cells #[] 72)) U8.heap.size 72 #[] := Blk.new _ _ _
      have he3 : W.heap.size ≤ U8.heap.size := by have := X.size; omega
      have nE5_e3 : e5 < U8.heap.size := E5.lt
      replace qy := qy.below N qy.lt
      replace o1 := own_below o1 N
      replace o2 := own_below o2 N
      replace E5 := E5.below N E5.lt
      replace X := ex_trans X N
      obtain ⟨e3, hpp⟩ : ∃ p, U8.heap.size = p := ⟨_, rfl⟩
      rw [hpp] at E3 he3 nE5_e3 ⊢
      clear N hpp
      generalize U8.alloc (.cells #[] 72) = U9 at *
      refine ⟨inEx X, ?_⟩
      repeat (refine tq_quiet rfl ?_; go_big_quiet_step (fail); refine wpQuiet_nil ?_)
      refine tq_loud rfl ?_
      have hsl' := (hw5.below X).up X.size
      have hbs : W.heap.size ≤ U9.heap.size := by have := X.size; omega
      go_wp2_with (at_builtin; refine wpList_append_list (α := Wg) (f := cWg) (F := fWg) (sz := 4) (fun _ => rfl) cWg_at cWg_one rfl _ _ _ rfl (W.heap.size) 72 i2 _ 32 Try.underlying24 HI2.out hz0 hz1 hz2 rfl (by omega) (some ⟨e3, 0, none⟩) 0 [] rfl (own_empty E3 he3) A3 c3 L rfl hsl' (by simp; unfold maxLen; omega) (by simp; omega) hbs (U9.heap.size) rfl ?_; intro LX Bx kx U10 HLX' o3 g nX)
      obtain rfl : L = LX := HLX'.out.symm
      clear HLX' nX hsl' hbs
      have hrow : ∀ x : Nat, some x = (Value.slice (some ⟨e3, 0, none⟩) 0 0).ownBlock → x = e3 := fun x e => by have e' : some x = some e3 := e; injection e'
      have hrow2 : ∀ x : Nat, (Value.slice (some ⟨e3, 0, none⟩) 0 0).ownBlock = some x → x = e3 := fun x e => hrow x e.symm
      replace qy := qy.grown g (fun e => by have := hrow _ e; omega)
      replace o1 := own_grow o1 g (fun b hb e => own_blkne o1 E3 (by decide) (by rw [hb, hrow2 b e]))
      replace o2 := own_grow o2 g (fun b hb e => own_blkne o2 E3 (by decide) (by rw [hb, hrow2 b e]))
      replace E5 := E5.grown g (fun e => by have := hrow _ e; omega)
      replace X := X.grown g X.size (fun b e => by have := hrow2 b e; omega)
      clear hrow hrow2 E3 he3
      clear g
      refine ⟨inEx X, ?_⟩
      repeat (refine tq_quiet rfl ?_; go_big_quiet_step (fail); refine wpQuiet_nil ?_)
      refine tq_loud rfl ?_
      have c63 : L.length + 1 ≤ maxLen := by unfold maxLen; omega
      have cby : (L.length + 1) * 32 ≤ 140737488355328 := by omega
      have hbs : W.heap.size ≤ U10.heap.size := by have := X.size; omega
      go_wp2_with (at_builtin; refine wpList_append_lies _ rfl _ _ _ rfl (W.heap.size) 72 i2 _ 4 32 Try.underlying24 HI2.out hz0 hz1 hz2 rfl (by omega) (.slice Bx L.length kx) _ _ rfl o3 ⟨e5, 0, none⟩ 1 1 [.int .i64 um.room, .int .i64 um.day, .int .i64 um.g.lo, .int .i64 um.g.hi] rfl rfl (World.news_of_block E5) (by simp [Value.oneCell']) (by omega) c63 cby hbs (U10.heap.size) rfl ?_; intro gg cap U11 hown' g hat hlt')
      replace qy := qy.grown g (fun e => by have := own_ge o3 e.symm; omega)
      replace o1 := own_grow o1 g (fun b hb => own_ownne o1 o3 (by decide) hb)
      replace o2 := own_grow o2 g (fun b hb => own_ownne o2 o3 (by decide) hb)
      replace X := X.grown g X.size (fun b hb => by have := own_ge o3 hb; omega)
      have own7 := own_push (f := cWg) (x := um) rfl hown'
      rw [HK0.out] at own7
      skip
      clear hown' hat hlt' c63 cby hbs g o3
      refine ⟨inEx X, ?_⟩
      repeat (refine tq_quiet rfl ?_; go_big_quiet_step (fail); refine wpQuiet_nil ?_)
      skip
      have e9 : (Value.slice (some ⟨gg, 0, none⟩) (L.length + 1) cap) = .slice (some ⟨gg, 0, none⟩) K0.length cap := by rw [HKL.out]
      rw [e9] at own7 ⊢
      clear e9
      have y3 : U11.cell? ⟨py, 3, none⟩ = some (.slice A3 L.length c3) := qy.cell 3
      have ly := qy.lt
      have fy := qy.frozen0
      have qz := qy.set_ 3 (.slice (some ⟨gg, 0, none⟩) K0.length cap)
      simp only [List.setIfInBounds_toArray, List.set_cons_zero, List.set_cons_succ] at qz
      have hFz := (hF.trans (Fr.below X) (fun _ _ h => h)).andSet (b := py) (i := 3) (v := (.slice (some ⟨gg, 0, none⟩) K0.length cap)) rfl
      have o1z := own_far o1 (p := ⟨py, 3, none⟩) (by show py < B0; omega) (.slice (some ⟨gg, 0, none⟩) K0.length cap)
      have o2z := own_far o2 (p := ⟨py, 3, none⟩) (by show py < B0; omega) (.slice (some ⟨gg, 0, none⟩) K0.length cap)
      have o3z := own_far (own_base own7 hz5) (p := ⟨py, 3, none⟩) (by show py < B0; omega) (.slice (some ⟨gg, 0, none⟩) K0.length cap)
      refine tq_done (r := [_]) rfl ?_
      go_wp2_with fail
      refine hrest6 (U11.setCell ⟨py, 3, none⟩ (.slice (some ⟨gg, 0, none⟩) K0.length cap)) (some ⟨gg, 0, none⟩) cap _ hFz qz o1z o2z o3z ?_
      exact exFrame (by kernel_rfl)
  clear hK
  have y0 : Ve.cell? ⟨py, 0, none⟩ = some (.slice Ar s.rooms.length cr) := qy.cell 0
  have y2 : Ve.cell? ⟨py, 2, none⟩ = some (.slice Am s.moves.length cm) := qy.cell 2
  have ly := qy.lt
  have x0 : Ve.cell? ⟨pqx, 0, none⟩ = some (.slice Ar s.rooms.length cr) := hqx.cell 0
  have x2 : Ve.cell? ⟨pqx, 2, none⟩ = some (.slice Am s.moves.length cm) := hqx.cell 2
  have lx := hqx.lt
  have nx : ¬ pqx = py := by omega
  have D := (Below.refl Ve.heap.size Ve).drew
  refine wp_region_fx_tq (fun b => b = py) 11 (.quiet 1 (.quiet 2 (.quiet 5 (.quiet 6 (.fork 0 (.fork 3 (.quiet 8 (.loud 4 (.loud 7 (.loud 9 (.quiet 10 .done))))) 4 (.loud 3 (.quiet 8 (.loud 7 (.loud 9 (.quiet 10 .done)))))) 4 (.loud 0 (.loud 3 (.quiet 8 (.loud 7 (.loud 9 (.quiet 10 .done))))))))))) (by kernel_rfl) (by kernel_rfl) (by intro d _ _ _ _ h; cases d <;> exact h) ?_
  repeat (refine tq_quiet rfl ?_; go_big_quiet_step (fail); refine wpQuiet_nil ?_)
  obtain ⟨U0, hY⟩ : ∃ Y, Ve.drew = Y := ⟨_, rfl⟩
  rw [hY] at D ⊢
  clear hY y0 y2 ly x0 x2 lx
  have F : Fr (fun b => b = py) Ve U0 := Fr.below D
  replace qy := qy.below D qy.lt
  refine tq_fork rfl rfl ?_ ?_
  · go_wp2_with fail
    have N := ex_alloc (Below.refl U0.heap.size U0) (.cells #[] 76)
    have E1 : Blk (U0.alloc (.cells #[] 76)) U0.heap.size 76 #[] := Blk.new _ _ _
    have he1 : B0 ≤ U0.heap.size := by have := F.size; have := HB0.out; omega
    replace qy := qy.below N qy.lt
    replace F := F.trans (Fr.below N) (fun _ _ h => h)
    obtain ⟨e1, hpp⟩ : ∃ p, U0.heap.size = p := ⟨_, rfl⟩
    rw [hpp] at E1 he1 ⊢
    clear N hpp
    generalize U0.alloc (.cells #[] 76) = U12 at *
    refine ⟨inFx F, ?_⟩
    repeat (refine tq_quiet rfl ?_; go_big_quiet_step (fail); refine wpQuiet_nil ?_)
    refine tq_fork rfl rfl ?_ ?_
    · have hsl' := (hx0.out.rooms.below (F.toBelow NY NY.size (fun x hx => by omega))).up (F.toBelow NY NY.size (fun x hx => by omega)).size
      have hbs : B0 ≤ U12.heap.size := by have := F.size; have := HB0.out; omega
      go_wp2_with (at_builtin; refine wpList_append_list (α := Rm) (f := cRm) (F := fRm) (sz := 4) (fun _ => rfl) cRm_at cRm_one rfl _ _ _ rfl (B0) 76 i0 _ 32 Try.underlying22 HI0.out hv0 hv1 hv2 rfl (by omega) (some ⟨e1, 0, none⟩) 0 [] rfl (own_empty E1 he1) Ar cr s.rooms rfl hsl' (by simp; unfold maxLen; omega) (by simp; omega) hbs (U12.heap.size) rfl ?_; intro LX B1 k1 U13 HLX' o1 g nX)
      have hLX : LX = s.rooms := HLX'.out
      subst hLX
      clear HLX' nX hsl' hbs
      have hrow : ∀ x : Nat, some x = (Value.slice (some ⟨e1, 0, none⟩) 0 0).ownBlock → x = e1 := fun x e => by have e' : some x = some e1 := e; injection e'
      have hrow2 : ∀ x : Nat, (Value.slice (some ⟨e1, 0, none⟩) 0 0).ownBlock = some x → x = e1 := fun x e => hrow x e.symm
      replace qy := qy.grown g (fun e => by have := hrow _ e; omega)
      replace F := F.trans (Fr.grown (R := fun b => b = e1) g (fun b e => .inl (hrow2 b e))) (fun x hx h => by have := HB0.out; omega)
      clear hrow hrow2 E1 he1
      clear g
      refine ⟨inFx F, ?_⟩
      repeat (refine tq_quiet rfl ?_; go_big_quiet_step (fail); refine wpQuiet_nil ?_)
      refine tq_loud rfl ?_
      go_wp2_with fail
      have N := ex_alloc (Below.refl U13.heap.size U13) (.cells #[] 78)
      have E2 : Blk (U13.alloc (.cells #[] 78)) U13.heap.size 78 #[] := Blk.new _ _ _
      have he2 : B0 ≤ U13.heap.size := by have := F.size; have := HB0.out; omega
      replace qy := qy.below N qy.lt
      replace o1 := own_below o1 N
      replace F := F.trans (Fr.below N) (fun _ _ h => h)
      obtain ⟨e2, hpp⟩ : ∃ p, U13.heap.size = p := ⟨_, rfl⟩
      rw [hpp] at E2 he2 ⊢
      clear N hpp
      generalize U13.alloc (.cells #[] 78) = U14 at *
      refine ⟨inFx F, ?_⟩
      repeat (refine tq_quiet rfl ?_; go_big_quiet_step (fail); refine wpQuiet_nil ?_)
      refine tq_loud rfl ?_
      have hsl' := (hx0.out.moves.below (F.toBelow NY NY.size (fun x hx => by omega))).up (F.toBelow NY NY.size (fun x hx => by omega)).size
      have hbs : B0 ≤ U14.heap.size := by have := F.size; have := HB0.out; omega
      go_wp2_with (at_builtin; refine wpList_append_list (α := Mv) (f := cMv) (F := fMv) (sz := 5) (fun _ => rfl) cMv_at cMv_one rfl _ _ _ rfl (B0) 78 i1 _ 40 Try.underlying23 HI1.out hw0 hw1 hw2 rfl (by omega) (some ⟨e2, 0, none⟩) 0 [] rfl (own_empty E2 he2) Am cm s.moves rfl hsl' (by simp; unfold maxLen; omega) (by simp; omega) hbs (U14.heap.size) rfl ?_; intro LX B2 k2 U15 HLX' o2 g nX)
      have hLX : LX = s.moves := HLX'.out
      subst hLX
      clear HLX' nX hsl' hbs
      have hrow : ∀ x : Nat, some x = (Value.slice (some ⟨e2, 0, none⟩) 0 0).ownBlock → x = e2 := fun x e => by have e' : some x = some e2 := e; injection e'
      have hrow2 : ∀ x : Nat, (Value.slice (some ⟨e2, 0, none⟩) 0 0).ownBlock = some x → x = e2 := fun x e => hrow x e.symm
      replace qy := qy.grown g (fun e => by have := hrow _ e; omega)
      replace o1 := own_grow o1 g (fun b hb e => own_blkne o1 E2 (by decide) (by rw [hb, hrow2 b e]))
      replace F := F.trans (Fr.grown (R := fun b => b = e2) g (fun b e => .inl (hrow2 b e))) (fun x hx h => by have := HB0.out; omega)
      clear hrow hrow2 E2 he2
      clear g
      refine ⟨inFx F, ?_⟩
      repeat (refine tq_quiet rfl ?_; go_big_quiet_step (fail); refine wpQuiet_nil ?_)
      have y0 : U15.cell? ⟨py, 0, none⟩ = some (.slice Ar s.rooms.length cr) := qy.cell 0
      have ly := qy.lt
      have fy := qy.frozen0
      have qz := qy.set_ 0 (.slice B1 s.rooms.length k1)
      simp only [List.setIfInBounds_toArray, List.set_cons_zero, List.set_cons_succ] at qz
      have Fz := F.andSet (b := py) (i := 0) (v := (.slice B1 s.rooms.length k1)) rfl
      have o1z := own_far o1 (p := ⟨py, 0, none⟩) (by show py < B0; omega) (.slice B1 s.rooms.length k1)
      have o2z := own_far o2 (p := ⟨py, 0, none⟩) (by show py < B0; omega) (.slice B1 s.rooms.length k1)
      refine tq_loud rfl ?_
      go_wp2_with fail
      refine ⟨inFx Fz, ?_⟩
      generalize U15.setCell ⟨py, 0, none⟩ (.slice B1 s.rooms.length k1) = U16 at *
      clear y0 ly fy o1 o2 qy F
      repeat (refine tq_quiet rfl ?_; go_big_quiet_step (fail); refine wpQuiet_nil ?_)
      have y2 : U16.cell? ⟨py, 2, none⟩ = some (.slice Am s.moves.length cm) := qz.cell 2
      have ly := qz.lt
      have fy := qz.frozen0
      have qw := qz.set_ 2 (.slice B2 s.moves.length k2)
      simp only [List.setIfInBounds_toArray, List.set_cons_zero, List.set_cons_succ] at qw
      have Fw := Fz.andSet (b := py) (i := 2) (v := (.slice B2 s.moves.length k2)) rfl
      have o1w := own_far o1z (p := ⟨py, 2, none⟩) (by show py < B0; omega) (.slice B2 s.moves.length k2)
      have o2w := own_far o2z (p := ⟨py, 2, none⟩) (by show py < B0; omega) (.slice B2 s.moves.length k2)
      refine tq_done (r := [_]) rfl ?_
      go_wp2_with fail
      exact hrest5 _ _ _ _ _ _ Fw qw o1w o2w (exFrame (by kernel_rfl))
    · go_wp2_with fail
      have N := ex_alloc (Below.refl U12.heap.size U12) (.cells #[] 78)
      have E2 : Blk (U12.alloc (.cells #[] 78)) U12.heap.size 78 #[] := Blk.new _ _ _
      have he2 : B0 ≤ U12.heap.size := by have := F.size; have := HB0.out; omega
      have nE1_e2 : e1 < U12.heap.size := E1.lt
      replace qy := qy.below N qy.lt
      replace E1 := E1.below N E1.lt
      replace F := F.trans (Fr.below N) (fun _ _ h => h)
      obtain ⟨e2, hpp⟩ : ∃ p, U12.heap.size = p := ⟨_, rfl⟩
      rw [hpp] at E2 he2 nE1_e2 ⊢
      clear N hpp
      generalize U12.alloc (.cells #[] 78) = U17 at *
      refine ⟨inFx F, ?_⟩
      repeat (refine tq_quiet rfl ?_; go_big_quiet_step (fail); refine wpQuiet_nil ?_)
      refine tq_loud rfl ?_
      have hsl' := (hx0.out.rooms.below (F.toBelow NY NY.size (fun x hx => by omega))).up (F.toBelow NY NY.size (fun x hx => by omega)).size
      have hbs : B0 ≤ U17.heap.size := by have := F.size; have := HB0.out; omega
      go_wp2_with (at_builtin; refine wpList_append_list (α := Rm) (f := cRm) (F := fRm) (sz := 4) (fun _ => rfl) cRm_at cRm_one rfl _ _ _ rfl (B0) 76 i0 _ 32 Try.underlying22 HI0.out hv0 hv1 hv2 rfl (by omega) (some ⟨e1, 0, none⟩) 0 [] rfl (own_empty E1 he1) Ar cr s.rooms rfl hsl' (by simp; unfold maxLen; omega) (by simp; omega) hbs (U17.heap.size) rfl ?_; intro LX B1 k1 U18 HLX' o1 g nX)
      have hLX : LX = s.rooms := HLX'.out
      subst hLX
      clear HLX' nX hsl' hbs
      have hrow : ∀ x : Nat, some x = (Value.slice (some ⟨e1, 0, none⟩) 0 0).ownBlock → x = e1 := fun x e => by have e' : some x = some e1 := e; injection e'
      have hrow2 : ∀ x : Nat, (Value.slice (some ⟨e1, 0, none⟩) 0 0).ownBlock = some x → x = e1 := fun x e => hrow x e.symm
      replace qy := qy.grown g (fun e => by have := hrow _ e; omega)
      replace E2 := E2.grown g (fun e => blk_ne E2 E1 (by decide) (hrow _ e))
      replace F := F.trans (Fr.grown (R := fun b => b = e1) g (fun b e => .inl (hrow2 b e))) (fun x hx h => by have := HB0.out; omega)
      clear hrow hrow2 E1 he1
      clear g
      refine ⟨inFx F, ?_⟩
      repeat (refine tq_quiet rfl ?_; go_big_quiet_step (fail); refine wpQuiet_nil ?_)
      refine tq_loud rfl ?_
      have hsl' := (hx0.out.moves.below (F.toBelow NY NY.size (fun x hx => by omega))).up (F.toBelow NY NY.size (fun x hx => by omega)).size
      have hbs : B0 ≤ U18.heap.size := by have := F.size; have := HB0.out; omega
      go_wp2_with (at_builtin; refine wpList_append_list (α := Mv) (f := cMv) (F := fMv) (sz := 5) (fun _ => rfl) cMv_at cMv_one rfl _ _ _ rfl (B0) 78 i1 _ 40 Try.underlying23 HI1.out hw0 hw1 hw2 rfl (by omega) (some ⟨e2, 0, none⟩) 0 [] rfl (own_empty E2 he2) Am cm s.moves rfl hsl' (by simp; unfold maxLen; omega) (by simp; omega) hbs (U18.heap.size) rfl ?_; intro LX B2 k2 U19 HLX' o2 g nX)
      have hLX : LX = s.moves := HLX'.out
      subst hLX
      clear HLX' nX hsl' hbs
      have hrow : ∀ x : Nat, some x = (Value.slice (some ⟨e2, 0, none⟩) 0 0).ownBlock → x = e2 := fun x e => by have e' : some x = some e2 := e; injection e'
      have hrow2 : ∀ x : Nat, (Value.slice (some ⟨e2, 0, none⟩) 0 0).ownBlock = some x → x = e2 := fun x e => hrow x e.symm
      replace qy := qy.grown g (fun e => by have := hrow _ e; omega)
      replace o1 := own_grow o1 g (fun b hb e => own_blkne o1 E2 (by decide) (by rw [hb, hrow2 b e]))
      replace F := F.trans (Fr.grown (R := fun b => b = e2) g (fun b e => .inl (hrow2 b e))) (fun x hx h => by have := HB0.out; omega)
      clear hrow hrow2 E2 he2
      clear g
      refine ⟨inFx F, ?_⟩
      repeat (refine tq_quiet rfl ?_; go_big_quiet_step (fail); refine wpQuiet_nil ?_)
      have y0 : U19.cell? ⟨py, 0, none⟩ = some (.slice Ar s.rooms.length cr) := qy.cell 0
      have ly := qy.lt
      have fy := qy.frozen0
      have qz := qy.set_ 0 (.slice B1 s.rooms.length k1)
      simp only [List.setIfInBounds_toArray, List.set_cons_zero, List.set_cons_succ] at qz
      have Fz := F.andSet (b := py) (i := 0) (v := (.slice B1 s.rooms.length k1)) rfl
      have o1z := own_far o1 (p := ⟨py, 0, none⟩) (by show py < B0; omega) (.slice B1 s.rooms.length k1)
      have o2z := own_far o2 (p := ⟨py, 0, none⟩) (by show py < B0; omega) (.slice B1 s.rooms.length k1)
      refine tq_loud rfl ?_
      go_wp2_with fail
      refine ⟨inFx Fz, ?_⟩
      generalize U19.setCell ⟨py, 0, none⟩ (.slice B1 s.rooms.length k1) = U20 at *
      clear y0 ly fy o1 o2 qy F
      repeat (refine tq_quiet rfl ?_; go_big_quiet_step (fail); refine wpQuiet_nil ?_)
      have y2 : U20.cell? ⟨py, 2, none⟩ = some (.slice Am s.moves.length cm) := qz.cell 2
      have ly := qz.lt
      have fy := qz.frozen0
      have qw := qz.set_ 2 (.slice B2 s.moves.length k2)
      simp only [List.setIfInBounds_toArray, List.set_cons_zero, List.set_cons_succ] at qw
      have Fw := Fz.andSet (b := py) (i := 2) (v := (.slice B2 s.moves.length k2)) rfl
      have o1w := own_far o1z (p := ⟨py, 2, none⟩) (by show py < B0; omega) (.slice B2 s.moves.length k2)
      have o2w := own_far o2z (p := ⟨py, 2, none⟩) (by show py < B0; omega) (.slice B2 s.moves.length k2)
      refine tq_done (r := [_]) rfl ?_
      go_wp2_with fail
      exact hrest5 _ _ _ _ _ _ Fw qw o1w o2w (exFrame (by kernel_rfl))
  · go_wp2_with fail
    have N := ex_alloc (Below.refl U0.heap.size U0) (.cells #[] 78)
    have E2 : Blk (U0.alloc (.cells #[] 78)) U0.heap.size 78 #[] := Blk.new _ _ _
    have he2 : B0 ≤ U0.heap.size := by have := F.size; have := HB0.out; omega
    replace qy := qy.below N qy.lt
    replace F := F.trans (Fr.below N) (fun _ _ h => h)
    obtain ⟨e2, hpp⟩ : ∃ p, U0.heap.size = p := ⟨_, rfl⟩
    rw [hpp] at E2 he2 ⊢
    clear N hpp
    generalize U0.alloc (.cells #[] 78) = U21 at *
    refine ⟨inFx F, ?_⟩
    repeat (refine tq_quiet rfl ?_; go_big_quiet_step (fail); refine wpQuiet_nil ?_)
    refine tq_loud rfl ?_
    go_wp2_with fail
    have N := ex_alloc (Below.refl U21.heap.size U21) (.cells #[] 76)
    have E1 : Blk (U21.alloc (.cells #[] 76)) U21.heap.size 76 #[] := Blk.new _ _ _
    have he1 : B0 ≤ U21.heap.size := by have := F.size; have := HB0.out; omega
    have nE2_e1 : e2 < U21.heap.size := E2.lt
    replace qy := qy.below N qy.lt
    replace E2 := E2.below N E2.lt
    replace F := F.trans (Fr.below N) (fun _ _ h => h)
    obtain ⟨e1, hpp⟩ : ∃ p, U21.heap.size = p := ⟨_, rfl⟩
    rw [hpp] at E1 he1 nE2_e1 ⊢
    clear N hpp
    generalize U21.alloc (.cells #[] 76) = U22 at *
    refine ⟨inFx F, ?_⟩
    repeat (refine tq_quiet rfl ?_; go_big_quiet_step (fail); refine wpQuiet_nil ?_)
    refine tq_loud rfl ?_
    have hsl' := (hx0.out.rooms.below (F.toBelow NY NY.size (fun x hx => by omega))).up (F.toBelow NY NY.size (fun x hx => by omega)).size
    have hbs : B0 ≤ U22.heap.size := by have := F.size; have := HB0.out; omega
    go_wp2_with (at_builtin; refine wpList_append_list (α := Rm) (f := cRm) (F := fRm) (sz := 4) (fun _ => rfl) cRm_at cRm_one rfl _ _ _ rfl (B0) 76 i0 _ 32 Try.underlying22 HI0.out hv0 hv1 hv2 rfl (by omega) (some ⟨e1, 0, none⟩) 0 [] rfl (own_empty E1 he1) Ar cr s.rooms rfl hsl' (by simp; unfold maxLen; omega) (by simp; omega) hbs (U22.heap.size) rfl ?_; intro LX B1 k1 U23 HLX' o1 g nX)
    have hLX : LX = s.rooms := HLX'.out
    subst hLX
    clear HLX' nX hsl' hbs
    have hrow : ∀ x : Nat, some x = (Value.slice (some ⟨e1, 0, none⟩) 0 0).ownBlock → x = e1 := fun x e => by have e' : some x = some e1 := e; injection e'
    have hrow2 : ∀ x : Nat, (Value.slice (some ⟨e1, 0, none⟩) 0 0).ownBlock = some x → x = e1 := fun x e => hrow x e.symm
    replace qy := qy.grown g (fun e => by have := hrow _ e; omega)
    replace E2 := E2.grown g (fun e => blk_ne E2 E1 (by decide) (hrow _ e))
    replace F := F.trans (Fr.grown (R := fun b => b = e1) g (fun b e => .inl (hrow2 b e))) (fun x hx h => by have := HB0.out; omega)
    clear hrow hrow2 E1 he1
    clear g
    refine ⟨inFx F, ?_⟩
    repeat (refine tq_quiet rfl ?_; go_big_quiet_step (fail); refine wpQuiet_nil ?_)
    refine tq_loud rfl ?_
    have hsl' := (hx0.out.moves.below (F.toBelow NY NY.size (fun x hx => by omega))).up (F.toBelow NY NY.size (fun x hx => by omega)).size
    have hbs : B0 ≤ U23.heap.size := by have := F.size; have := HB0.out; omega
    go_wp2_with (at_builtin; refine wpList_append_list (α := Mv) (f := cMv) (F := fMv) (sz := 5) (fun _ => rfl) cMv_at cMv_one rfl _ _ _ rfl (B0) 78 i1 _ 40 Try.underlying23 HI1.out hw0 hw1 hw2 rfl (by omega) (some ⟨e2, 0, none⟩) 0 [] rfl (own_empty E2 he2) Am cm s.moves rfl hsl' (by simp; unfold maxLen; omega) (by simp; omega) hbs (U23.heap.size) rfl ?_; intro LX B2 k2 U24 HLX' o2 g nX)
    have hLX : LX = s.moves := HLX'.out
    subst hLX
    clear HLX' nX hsl' hbs
    have hrow : ∀ x : Nat, some x = (Value.slice (some ⟨e2, 0, none⟩) 0 0).ownBlock → x = e2 := fun x e => by have e' : some x = some e2 := e; injection e'
    have hrow2 : ∀ x : Nat, (Value.slice (some ⟨e2, 0, none⟩) 0 0).ownBlock = some x → x = e2 := fun x e => hrow x e.symm
    replace qy := qy.grown g (fun e => by have := hrow _ e; omega)
    replace o1 := own_grow o1 g (fun b hb e => own_blkne o1 E2 (by decide) (by rw [hb, hrow2 b e]))
    replace F := F.trans (Fr.grown (R := fun b => b = e2) g (fun b e => .inl (hrow2 b e))) (fun x hx h => by have := HB0.out; omega)
    clear hrow hrow2 E2 he2
    clear g
    refine ⟨inFx F, ?_⟩
    repeat (refine tq_quiet rfl ?_; go_big_quiet_step (fail); refine wpQuiet_nil ?_)
    have y0 : U24.cell? ⟨py, 0, none⟩ = some (.slice Ar s.rooms.length cr) := qy.cell 0
    have ly := qy.lt
    have fy := qy.frozen0
    have qz := qy.set_ 0 (.slice B1 s.rooms.length k1)
    simp only [List.setIfInBounds_toArray, List.set_cons_zero, List.set_cons_succ] at qz
    have Fz := F.andSet (b := py) (i := 0) (v := (.slice B1 s.rooms.length k1)) rfl
    have o1z := own_far o1 (p := ⟨py, 0, none⟩) (by show py < B0; omega) (.slice B1 s.rooms.length k1)
    have o2z := own_far o2 (p := ⟨py, 0, none⟩) (by show py < B0; omega) (.slice B1 s.rooms.length k1)
    refine tq_loud rfl ?_
    go_wp2_with fail
    refine ⟨inFx Fz, ?_⟩
    generalize U24.setCell ⟨py, 0, none⟩ (.slice B1 s.rooms.length k1) = U25 at *
    clear y0 ly fy o1 o2 qy F
    repeat (refine tq_quiet rfl ?_; go_big_quiet_step (fail); refine wpQuiet_nil ?_)
    have y2 : U25.cell? ⟨py, 2, none⟩ = some (.slice Am s.moves.length cm) := qz.cell 2
    have ly := qz.lt
    have fy := qz.frozen0
    have qw := qz.set_ 2 (.slice B2 s.moves.length k2)
    simp only [List.setIfInBounds_toArray, List.set_cons_zero, List.set_cons_succ] at qw
    have Fw := Fz.andSet (b := py) (i := 2) (v := (.slice B2 s.moves.length k2)) rfl
    have o1w := own_far o1z (p := ⟨py, 2, none⟩) (by show py < B0; omega) (.slice B2 s.moves.length k2)
    have o2w := own_far o2z (p := ⟨py, 2, none⟩) (by show py < B0; omega) (.slice B2 s.moves.length k2)
    refine tq_done (r := [_]) rfl ?_
    go_wp2_with fail
    exact hrest5 _ _ _ _ _ _ Fw qw o1w o2w (exFrame (by kernel_rfl))
end Go.Proofs.Ythihdiilokdidaa
end

section
namespace Go.Proofs.Ythihdiilokdidaa.spillMore
open Go.ChangeShapes Go.WideShapes Go.ChangeAt Go.RowKit
set_option linter.unusedVariables false

set_option maxRecDepth 100000 in
theorem lifted (os : Os) (started : os.Started) (H : Type) (enc : TypeId × Value → H) :
    ReturnsInHanded {} Try.checked os 6 .any (Rows.spillMoreSpec.pre6 enc Try.prog Try.f6 Rows.spillMoreRow.domain false) (Rows.spillMoreSpec.post enc Try.prog Try.f6 false true false false) := by
  refine returnsInHanded_of_change (C := Try.checked) own started (by kernel_rfl) Try.func6
    (ChangeSpec.witness6 (enc := enc) (C := Try.checked) false ⟨#[], #[.agg #[.slice none 0 0, .int .i64 0, .slice none 0 0, .slice none 0 0], .slice none 0 0, .int .u8 0, .agg #[.int .i64 0, .int .i64 0, .int .i64 0, .int .i64 0], .int .u8 0, .int .u8 0], []⟩ 8 (by kernel_rfl) (by kernel_rfl) (by kernel_rfl) (by kernel_rfl)) ?_
  intro W base args ds gs before hval0 hW hcnd _
  have hval : ∀ (j : Nat) t v, Try.f6.params[j]? = some t → args[j]? = some v → Value.okWide Try.prog W .any base t v := hval0
  have hW0 := hW
  obtain ⟨p, q, hA0, hV, rfl, hfz, hnd⟩ := hW
  have hA : DataW.TrodAll enc Try.prog W 0 (fun _ => true) true Try.f6.params.toList args.toList ds p := hA0
  rw [Try.params6] at hA hval
  obtain ⟨v0, vs0, d0, ds0, p0, q0, ea0, ed0, ep0, h0, hA0⟩ := trodAll_cons hA
  obtain ⟨v1, vs1, d1, ds1, p1, q1, ea1, ed1, ep1, h1, hA1⟩ := trodAll_cons hA0
  obtain ⟨v2, vs2, d2, ds2, p2, q2, ea2, ed2, ep2, h2, hA2⟩ := trodAll_cons hA1
  obtain ⟨v3, vs3, d3, ds3, p3, q3, ea3, ed3, ep3, h3, hA3⟩ := trodAll_cons hA2
  obtain ⟨v4, vs4, d4, ds4, p4, q4, ea4, ed4, ep4, h4, hA4⟩ := trodAll_cons hA3
  obtain ⟨v5, vs5, d5, ds5, p5, q5, ea5, ed5, ep5, h5, hA5⟩ := trodAll_cons hA4
  obtain ⟨ea, ed, ep⟩ := trodAll_nil hA5
  have eargs : args = #[v0, v1, v2, v3, v4, v5] := by rw [← Array.toArray_toList (xs := args), ea0, ea1, ea2, ea3, ea4, ea5, ea]
  have eds : ds = [d0, d1, d2, d3, d4, d5] := by rw [ed0, ed1, ed2, ed3, ed4, ed5, ed]
  subst eargs eds
  obtain ⟨rfl, rfl⟩ := trodVars_none hV
  obtain ⟨s, Ar, Am, Aw, cr, cm, cw, rfl, hsl, hs⟩ := open_worksT (hval 0 _ _ rfl rfl) h0
  obtain ⟨AW, ws, cW, rfl, hwl, hw, hwb⟩ := open_words (hval 1 _ _ rfl rfl) h1
  obtain ⟨m2, rfl, hm2⟩ := open_int Try.underlying5 (hval 2 _ _ rfl rfl) h2
  obtain ⟨n2, rfl⟩ : ∃ n : Nat, m2 = (n : Int) := ⟨m2.toNat, by have := wf_u8 hm2; omega⟩
  obtain ⟨um, rfl⟩ := open_wgT (hval 3 _ _ rfl rfl) h3
  obtain ⟨m4, rfl, hm4⟩ := open_int Try.underlying5 (hval 4 _ _ rfl rfl) h4
  obtain ⟨m5, rfl, hm5⟩ := open_int Try.underlying5 (hval 5 _ _ rfl rfl) h5
  refine (MoreLaw_any s Ar Am Aw cr cm cw W hs AW cW ws hw hwb hwl n2 (wf_u8 hm2).2 um m4 m5 (wf_u8 hm4) (wf_u8 hm5)).mono fun e W' he => ?_
  obtain ⟨rfl, hb⟩ := he
  exact ⟨_, rfl, post_law rfl hW0 rfl rfl ⟨⟨by kernel_rfl, of_decide_eq_true (by kernel_rfl)⟩, ⟨by kernel_rfl, of_decide_eq_true (by kernel_rfl)⟩, ⟨by kernel_rfl, of_decide_eq_true (by kernel_rfl)⟩, ⟨by kernel_rfl, of_decide_eq_true (by kernel_rfl)⟩, ⟨by kernel_rfl, of_decide_eq_true (by kernel_rfl)⟩, ⟨by kernel_rfl, of_decide_eq_true (by kernel_rfl)⟩, trivial⟩ hb⟩

theorem over : Rows.spillMoreRow.holds Try.pinned (OpenSpec.ofChange Rows.spillMoreSpec) :=
  OpenClaim.holds_of_wide 6 Try.f6 rfl rfl rfl rfl rfl rfl rfl ⟨rfl, rfl, rfl, rfl, rfl⟩ rfl rfl rfl rfl rfl (by kernel_rfl) Try.func6 (by kernel_rfl)
    (of_decide_eq_true (by kernel_rfl)) (by unfold Func.isWrapper; first | (rw [if_pos (by decide +kernel)]; kernel_rfl) | (rw [if_neg (by decide +kernel)]; exact ⟨rfl, rfl⟩))
    (fun os started H enc _ => lifted os started H enc)

/-- the statement. -/
theorem proved : Rows.SpillMoreSaid :=
  over
#print axioms proved
end Go.Proofs.Ythihdiilokdidaa.spillMore
end
