/- Spill's laws: Picked (walk): a truth by words. · Spill's outright laws (plain): other weighings, narrower ranges, a day more, what is left out. · Spill's laws: Weighed (walk): weighings by words, true of some stocks but for those of bits. · Spill's laws: thin works and truths (plain). · Spill's laws: lives (walk). · Spill's outright laws (plain): what lives tells; ends of a range. · Spill: Fewest and Blame (plain): the lists that are tried. · Spill's outright laws (plain): what Missing and Lost tell. · Spill's law SpillNames (plain): the examples' numbers. · Spill's law SpillNames: the works of the chapter in rows of the call's own; the dry and the wild works. · Spill's law SpillNames: what each call of the examples tells, with its cells written out. · Boxes; loads and stores of whole structs (Spill). · Regions in several parts: trees one behind the other (what is done ahead of each is the same on each way); so the ways of one part do not multiply those of the next. -/
import Derived.Great.BuildSlice
import Derived.Laws.Tables
import Derived.Test.YthihdiilokdidaaV11
import Derived.Test.YthihdiilokdidaaV9
import Derived.Test.YthihdiilokdidaaV2
set_option linter.unusedVariables false
set_option linter.unusedSimpArgs false
set_option linter.unusedSectionVars false
section
namespace Go.Proofs.Ythihdiilokdidaa
open Go.RowKit
attribute [local go_sem] Ex.cell? Ex.frozen? Gx.cell?

theorem own_grow {W W' : World} {base : Nat} {e : TypeId} {sz n : Nat} {v : Value} {xs : List Value} {row : Option Nat} (h : W.ownsRow base e sz v n xs) (hg : W.grownBy W' row) (hn : ∀ b, v.ownBlock = some b → row ≠ some b) : W'.ownsRow base e sz v n xs :=
  own_fr h (Fr.grown (R := fun b => row = some b) hg (fun b e => .inl e)) (fun b hb => hn b hb)
theorem RowAt.grownNe {W W' : World} {B sz n : Nat} {T : TypeId} {A : Option Addr} {f : Nat → Nat → Value} {row : Option Nat} (h : RowAt W B T sz A n f) (hg : W.grownBy W' row) (hn : ∀ g, A = some ⟨g, 0, none⟩ → n ≠ 0 → some g ≠ row) : RowAt W' B T sz A n f := by
  by_cases h0 : n = 0
  · exact .inl h0
  rcases h with h | ⟨g, cur, e, h1, h2, h3⟩
  · exact .inl h
  · exact .inr ⟨g, cur, e, h1, h2.grown hg (hn g e h0), h3⟩
def Apart (X : List IRow) (v : Value) : Prop := ∀ x ∈ X, ∀ g, x.1 = some ⟨g, 0, none⟩ → x.2.2.length ≠ 0 → v.ownBlock ≠ some g
theorem IOwn.grownA {W W' : World} {B B1 n : Nat} {v v1 : Value} {X : List IRow} {xs : List Value} (h : IOwn W B v X) (hg : W.grownBy W' v1.ownBlock) (o1 : W.ownsRow B1 3 1 v1 n xs) (ap : Apart X v1) : IOwn W' B v X :=
  ⟨own_grow h.own hg (fun b hb => own_ownne h.own o1 (by decide) hb), fun x hx => (h.ins x hx).grownNe hg (fun g e hn e2 => ap x hx g e hn e2.symm)⟩
theorem Apart.next {W : World} {B : Nat} {v v1 v1' : Value} {X : List IRow} {gg : Nat} (h : Apart X v1) (hN : IOwn W B v X) (he : v1'.ownBlock = some gg) (hat : v1.ownBlock = some gg ∨ W.heap.size ≤ gg) : Apart X v1' := fun x hx g e hn e2 => by
  rw [he] at e2
  injection e2 with e2
  subst e2
  rcases hat with h1 | h1
  · exact h x hx _ e hn h1
  · rcases hN.ins x hx with h3 | ⟨g, cur, e3, _, k2, _⟩
    · exact hn h3
    · rw [e] at e3
      injection e3 with e3
      injection e3 with e3
      have := k2.lt
      omega
theorem Apart.push {X : List IRow} {v : Value} {x : IRow} {B : Nat} (h : Apart X v) (hx : ∀ g, x.1 = some ⟨g, 0, none⟩ → x.2.2.length ≠ 0 → B ≤ g) (hv : ∀ b, v.ownBlock = some b → b < B) : Apart (X ++ [x]) v := fun y hy g e hn e2 => by
  rcases List.mem_append.1 hy with h1 | h1
  · exact h y h1 g e hn e2
  · obtain rfl := List.mem_singleton.1 h1
    have := hx g e hn
    have := hv g e2
    omega
structure PickOk (s : Ws) (n : Int) (l : List Int) (j : Nat) : Prop where
  fst : inR n (gRm s.rooms j).fst
  len : l.length = s.wo.days
  vap : ∀ d, d < s.wo.days → inR (gI l d) (gRm s.rooms j).vap
structure PickTo (s : Ws) (l1 : List Int) (L : List (List Int)) (k : Nat) : Prop where
  n1 : l1.length = k
  n2 : L.length = k
  ok : ∀ j, j < k → PickOk s (gI l1 j) (gL L j) j
theorem PickTo.snoc {s : Ws} {l1 : List Int} {L : List (List Int)} {k : Nat} (h : PickTo s l1 L k) {n : Int} {l : List Int} (hn : PickOk s n l k) : PickTo s (l1 ++ [n]) (L ++ [l]) (k + 1) where
  n1 := by simp [h.n1]
  n2 := by simp [h.n2]
  ok := fun j hj => by
    rcases Nat.lt_succ_iff_lt_or_eq.1 hj with hlt | rfl
    · have e1 : gI (l1 ++ [n]) j = gI l1 j := getD_l _ (by rw [h.n1]; exact hlt)
      have e2 : gL (L ++ [l]) j = gL L j := getD_l _ (by rw [h.n2]; exact hlt)
      rw [e1, e2]; exact h.ok j hlt
    · have e1 : gI (l1 ++ [n]) j = n := by rw [← h.n1]; exact getD_r _ _ _
      have e2 : gL (L ++ [l]) j = l := by rw [← h.n2]; exact getD_r _ _ _
      rw [e1, e2]; exact hn
theorem PickTo.tru {s : Ws} {t : Tt} (hd : s.days = (s.wo.days : Int)) (h : PickTo s t.fs t.vs s.rooms.length) (hg : t.gs.length = s.moves.length) (hm : ∀ i, i < s.moves.length → inR (gI t.gs i) (gMv s.moves i).g) : truT s t = true :=
  (truT_iff hd).2 ⟨⟨h.n1, h.n2, hg⟩, fun r hr => (h.ok r hr).len, ⟨fun r hr => (h.ok r hr).fst, fun r d hr hd => (h.ok r hr).vap d hd, hm⟩⟩
structure TruP (s : Ws) (t : Tt) : Prop where
  pt : PickTo s t.fs t.vs s.rooms.length
  gl : t.gs.length = s.moves.length
  mv : ∀ i, i < s.moves.length → inR (gI t.gs i) (gMv s.moves i).g
theorem TruP.tru {s : Ws} {t : Tt} (h : TruP s t) (hd : s.days = (s.wo.days : Int)) : truT s t = true := PickTo.tru hd h.pt h.gl h.mv
structure PkA (s : Ws) (wc : Array Value) (w : World) (p0 B0 : Nat) (v1 : Value) (l1 : List Int) (v2 : Value) (X : List IRow) (W : World) : Prop where
  bw : Below w.heap.size w W
  sz : B0 ≤ W.heap.size
  q0 : Blk W p0 26 wc
  q1 : Blk W (p0 + 1) 31 #[.slice none 0 0, .slice none 0 0, .slice none 0 0]
  q2 : Blk W (p0 + 1 + 1) 31 #[v1, v2, .slice none 0 0]
  o1 : W.ownsRow B0 3 1 v1 l1.length (l1.flatMap cI1)
  o2 : IOwn W B0 v2 X
  ap : Apart X v1
theorem PkA.below {s : Ws} {wc : Array Value} {w W W' : World} {p0 B0 : Nat} {v1 : Value} {l1 : List Int} {v2 : Value} {X : List IRow} (h : PkA s wc w p0 B0 v1 l1 v2 X W) (hb : Below W.heap.size W W') : PkA s wc w p0 B0 v1 l1 v2 X W' :=
  ⟨ex_trans h.bw hb, Nat.le_trans h.sz hb.size, h.q0.below hb h.q0.lt, h.q1.below hb h.q1.lt, h.q2.below hb h.q2.lt, own_below h.o1 hb, h.o2.below hb, h.ap⟩
theorem PkA.fst {s : Ws} {wc : Array Value} {w W W' : World} {p0 B0 : Nat} {v1 : Value} {l1 : List Int} {v2 : Value} {X : List IRow} (h : PkA s wc w p0 B0 v1 l1 v2 X W) (hB : p0 + 1 + 1 < B0) (hw : w.heap.size ≤ p0) (hg : W.grownBy W' v1.ownBlock) {gg cap : Nat} {x : Int} (ho : W'.ownsRow B0 3 1 (.slice (some ⟨gg, 0, none⟩) (l1.length + 1) cap) (l1.length + 1) (l1.flatMap cI1 ++ [.int .i64 x])) (hat : v1.ownBlock = some gg ∨ W.heap.size ≤ gg) :
    PkA s wc w p0 B0 (.slice (some ⟨gg, 0, none⟩) (l1.length + 1) cap) (l1 ++ [x]) v2 X (W'.setCell ⟨p0 + 1 + 1, 0, none⟩ (.slice (some ⟨gg, 0, none⟩) (l1.length + 1) cap)) := by
  have hge := fun (j : Nat) (hj : v1.ownBlock = some j) => own_ge h.o1 hj
  have hne : ∀ p, p < B0 → some p ≠ v1.ownBlock := fun p hp e => by have := hge p e.symm; omega
  have q2' := h.q2.grown hg (hne _ hB)
  have hs2 : B0 ≤ W'.heap.size := by have := hg.size; have := h.sz; omega
  have q2s := q2'.set_ 0 (.slice (some ⟨gg, 0, none⟩) (l1.length + 1) cap)
  simp only [List.setIfInBounds_toArray, List.set_cons_zero, List.set_cons_succ] at q2s
  refine ⟨ex_set (h.bw.grown hg h.bw.size (fun b hb => by have := hge b hb; omega)) (by show w.heap.size ≤ p0 + 1 + 1; omega) _, by simpa using hs2, (h.q0.grown hg (hne _ (by omega))).far (by show p0 ≠ p0 + 1 + 1; omega) _, (h.q1.grown hg (hne _ (by omega))).far (by show p0 + 1 ≠ p0 + 1 + 1; omega) _, q2s, ?_, ?_, h.ap.next h.o2 rfl hat⟩
  · exact own_far (own_push (f := cI1) (x := x) rfl ho) (by show p0 + 1 + 1 < B0; omega) _
  · exact (h.o2.grownA hg h.o1 h.ap).set q2' (by decide) (by decide) 0 _
theorem PkA.vap {s : Ws} {wc : Array Value} {w W W' : World} {p0 B0 : Nat} {v1 : Value} {l1 : List Int} {v2 : Value} {X : List IRow} (h : PkA s wc w p0 B0 v1 l1 v2 X W) (hB : p0 + 1 + 1 < B0) (hw : w.heap.size ≤ p0) (hg : W.grownBy W' v2.ownBlock) {gg cap : Nat} {x : IRow} (ho : W'.ownsRow B0 28 1 (.slice (some ⟨gg, 0, none⟩) (X.length + 1) cap) (X.length + 1) (X.flatMap cIR ++ cIR x)) {B1 : Nat} (hx : RowAt W B1 3 1 x.1 x.2.2.length (fI x.2.2)) (hB1 : B0 ≤ B1) (hv : ∀ b, v1.ownBlock = some b → b < B1) :
    PkA s wc w p0 B0 v1 l1 (.slice (some ⟨gg, 0, none⟩) (X.length + 1) cap) (X ++ [x]) (W'.setCell ⟨p0 + 1 + 1, 1, none⟩ (.slice (some ⟨gg, 0, none⟩) (X.length + 1) cap)) := by
  have hge := fun (j : Nat) (hj : v2.ownBlock = some j) => own_ge h.o2.own hj
  have hne : ∀ p, p < B0 → some p ≠ v2.ownBlock := fun p hp e => by have := hge p e.symm; omega
  have q2' := h.q2.grown hg (hne _ hB)
  have hs2 : B0 ≤ W'.heap.size := by have := hg.size; have := h.sz; omega
  have q2s := q2'.set_ 1 (.slice (some ⟨gg, 0, none⟩) (X.length + 1) cap)
  simp only [List.setIfInBounds_toArray, List.set_cons_zero, List.set_cons_succ] at q2s
  have o2' : IOwn W' B0 (.slice (some ⟨gg, 0, none⟩) (X.length + 1) cap) (X ++ [x]) := NOwn.push h.o2 hg (by decide) rfl (own_push (f := cIR) (x := x) rfl ho) (fun y hy => by
    obtain rfl := List.mem_singleton.1 hy
    exact hx.base hB1)
  refine ⟨ex_set (h.bw.grown hg h.bw.size (fun b hb => by have := hge b hb; omega)) (by show w.heap.size ≤ p0 + 1 + 1; omega) _, by simpa using hs2, (h.q0.grown hg (hne _ (by omega))).far (by show p0 ≠ p0 + 1 + 1; omega) _, (h.q1.grown hg (hne _ (by omega))).far (by show p0 + 1 ≠ p0 + 1 + 1; omega) _, q2s, ?_, ?_, h.ap.push (B := B1) (fun g e hn => ?_) hv⟩
  · exact own_far (own_grow h.o1 hg (fun b hb => own_ownne h.o1 h.o2.own (by decide) hb)) (by show p0 + 1 + 1 < B0; omega) _
  · exact o2'.set q2' (by decide) (by decide) 1 _
  · rcases hx with h3 | ⟨g', cur, e3, k1, k2, _⟩
    · exact absurd h3 hn
    · rw [e] at e3
      injection e3 with e3
      injection e3 with e3
      omega
structure TtOwn (w : World) (B : Nat) (t : Tt) (A1 A2 A3 : Option Addr) (c2 : Nat) : Prop where
  fs : RowAt w B 3 1 A1 t.fs.length (fI t.fs)
  vs : ∃ X : List IRow, IOwn w B (.slice A2 t.vs.length c2) X ∧ X.map (fun x => x.2.2) = t.vs
  gs : RowAt w B 3 1 A3 t.gs.length (fI t.gs)
theorem TtOwn.below {w w' : World} {B : Nat} {t : Tt} {A1 A2 A3 : Option Addr} {c2 : Nat} (h : TtOwn w B t A1 A2 A3 c2) (hb : Below w.heap.size w w') : TtOwn w' B t A1 A2 A3 c2 := by
  obtain ⟨h1, ⟨X, h2, h3⟩, h4⟩ := h
  exact ⟨h1.below hb, ⟨X, h2.below hb, h3⟩, h4.below hb⟩
theorem TtOwn.fr {R : Nat → Prop} {w w' : World} {B : Nat} {t : Tt} {A1 A2 A3 : Option Addr} {c2 : Nat} (h : TtOwn w B t A1 A2 A3 c2) (hf : Fr R w w') (hn : ∀ g, B ≤ g → g < w.heap.size → ¬ R g) : TtOwn w' B t A1 A2 A3 c2 := by
  obtain ⟨h1, ⟨X, h2, h3⟩, h4⟩ := h
  exact ⟨h1.fr hf hn, ⟨X, h2.fr hf hn, h3⟩, h4.fr hf hn⟩
theorem TtOwn.base {w : World} {B B' : Nat} {t : Tt} {A1 A2 A3 : Option Addr} {c2 : Nat} (h : TtOwn w B t A1 A2 A3 c2) (hb : B' ≤ B) : TtOwn w B' t A1 A2 A3 c2 := by
  obtain ⟨h1, ⟨X, h2, h3⟩, h4⟩ := h
  exact ⟨h1.base hb, ⟨X, h2.base hb, h3⟩, h4.base hb⟩
structure PkV (s : Ws) (B : Nat) (w' : World) (e : Ending) : Prop where
  out : ∃ t : Tt, ∃ A1 A2 A3 c1 c2 c3, e = .returned (.agg #[.slice A1 t.fs.length c1, .slice A2 t.vs.length c2, .slice A3 t.gs.length c3]) ∧ truT s t = true ∧ TtOwn w' B t A1 A2 A3 c2
end Go.Proofs.Ythihdiilokdidaa
end

section
namespace Go.Proofs.Ythihdiilokdidaa

section
variable {x y : Wo} {F : Nat → Int} {V : Nat → Nat → Int} {G : Nat → Int} {out : Nat → Bool}
structure SameMv (x y : Wo) : Prop where
 nr : y.rooms.length = x.rooms.length
 nm : y.moves.length = x.moves.length
 mv : ∀ i, i < x.moves.length → (gMv y.moves i).day = (gMv x.moves i).day ∧ (gMv y.moves i).src = (gMv x.moves i).src ∧ (gMv y.moves i).dst = (gMv x.moves i).dst
theorem SameMv.comes (h : SameMv x y) (G : Nat → Int) (r d : Int) : ∀ k, k ≤ x.moves.length → comes y G r d k = comes x G r d k := by
 intro k hk
 unfold Proofs.Ythihdiilokdidaa.comes
 refine esum_congr (fun i hi => ?_)
 have hi : i < k := by simpa using hi
 obtain ⟨h1, h2, h3⟩ := h.mv i (by omega)
 rw [h1, h2, h3]
theorem SameMv.stk (h : SameMv x y) (F : Nat → Int) (V : Nat → Nat → Int) (G : Nat → Int) (r : Nat) : ∀ d, stk y F V G r d = stk x F V G r d
 | 0 => by
  show F r + (Proofs.Ythihdiilokdidaa.comes y G r 0 y.moves.length - V r 0) = F r + (Proofs.Ythihdiilokdidaa.comes x G r 0 x.moves.length - V r 0)
  rw [h.nm, h.comes G _ _ _ (Nat.le_refl _)]
 | d + 1 => by
  show Proofs.Ythihdiilokdidaa.stk y F V G r d + (Proofs.Ythihdiilokdidaa.comes y G r ((d : Int) + 1) y.moves.length - V r (d + 1)) = Proofs.Ythihdiilokdidaa.stk x F V G r d + (Proofs.Ythihdiilokdidaa.comes x G r ((d : Int) + 1) x.moves.length - V r (d + 1))
  rw [h.nm, h.comes G _ _ _ (Nat.le_refl _), h.stk F V G r d]
structure Finer (x y : Wo) : Prop extends SameMv x y where
 days : y.days = x.days
 fst : ∀ r, r < x.rooms.length → ∀ n, inR n (gRm y.rooms r).fst → inR n (gRm x.rooms r).fst
 vap : ∀ r, r < x.rooms.length → ∀ n, inR n (gRm y.rooms r).vap → inR n (gRm x.rooms r).vap
 mov : ∀ i, i < x.moves.length → ∀ n, inR n (gMv y.moves i).g → inR n (gMv x.moves i).g
 nw : x.wgs.length ≤ y.wgs.length
 wg : ∀ i, i < x.wgs.length → (gWg y.wgs i).room = (gWg x.wgs i).room ∧ (gWg y.wgs i).day = (gWg x.wgs i).day ∧ ∀ n, inR n (gWg y.wgs i).g → inR n (gWg x.wgs i).g
theorem Finer.good (h : Finer x y) (hg : GoodF y out F V G) : GoodF x out F V G where
 tru := ⟨fun r hr => h.fst r hr _ (hg.tru.fst r (by rw [h.nr]; exact hr)), fun r d hr hd => h.vap r hr _ (hg.tru.vap r d (by rw [h.nr]; exact hr) (by rw [h.days]; exact hd)), fun i hi => h.mov i hi _ (hg.tru.mov i (by rw [h.nm]; exact hi))⟩
 can := fun r d hr hd => by rw [← h.stk]; exact hg.can r d (by rw [h.nr]; exact hr) (by rw [h.days]; exact hd)
 agr := fun i hi ho => by
  obtain ⟨h1, h2, h3⟩ := h.wg i hi
  have := h3 _ (hg.agr i (by have := h.nw; omega) ho)
  rw [h1, h2, h.stk] at this
  exact this
def Wo.wg (w : Wo) (l : List Wg) : Wo := ⟨w.rooms, w.days, w.moves, l⟩
theorem SameMv.wgs (w : Wo) (l m : List Wg) : SameMv (w.wg l) (w.wg m) := ⟨rfl, rfl, fun _ _ => ⟨rfl, rfl, rfl⟩⟩
theorem gWg_l {l m : List Wg} {k : Nat} (h : k < l.length) : gWg (l ++ m) k = gWg l k := getD_l _ h
theorem gWg_r (l : List Wg) (x : Wg) : gWg (l ++ [x]) l.length = x := getD_r _ _ _
end

section
variable {x y : Wo}
structure Later (x y : Wo) : Prop where
 rooms : y.rooms = x.rooms
 days : y.days = x.days + 1
 moves : y.moves = x.moves
 wgs : y.wgs = x.wgs
theorem Later.same (h : Later x y) : SameMv x y := ⟨by rw [h.rooms], by rw [h.moves], fun i _ => by rw [h.moves]; exact ⟨rfl, rfl, rfl⟩⟩
end

section
variable {w : Wo} {F : Nat → Int} {V : Nat → Nat → Int} {G : Nat → Int}
end
end Go.Proofs.Ythihdiilokdidaa
end

section
namespace Go.Proofs.Ythihdiilokdidaa
open Go.RowKit
attribute [local go_sem] Ex.cell? Ex.frozen? Gx.cell?

structure WgTo (s : Ws) (S : Nat → Nat → Int) (m : Nat) (L : List Wg) (i : Nat) : Prop where
 len : L.length = i
 ok : ∀ j, j < i → (gWg L j).room = (gWg s.wgs j).room ∧ (gWg L j).day = (gWg s.wgs j).day ∧ (m / 2 ^ j % 2 = 0 → inR (S (gWg s.wgs j).room.toNat (gWg s.wgs j).day.toNat) (gWg L j).g)
theorem WgTo.snoc {s : Ws} {S : Nat → Nat → Int} {m : Nat} {L : List Wg} {i : Nat} (h : WgTo s S m L i) {x : Wg} (h1 : x.room = (gWg s.wgs i).room) (h2 : x.day = (gWg s.wgs i).day) (h3 : m / 2 ^ i % 2 = 0 → inR (S (gWg s.wgs i).room.toNat (gWg s.wgs i).day.toNat) x.g) : WgTo s S m (L ++ [x]) (i + 1) where
 len := by simp [h.len]
 ok := fun j hj => by
  rcases Nat.lt_succ_iff_lt_or_eq.1 hj with hlt | rfl
  ·
   rw [gWg_l (by rw [h.len]; exact hlt)]; exact h.ok j hlt
  ·
   have e : gWg (L ++ [x]) j = x := by rw [← h.len]; exact gWg_r _ _
   rw [e]; exact ⟨h1, h2, h3⟩
structure WdV (s : Ws) (S : Nat → Nat → Int) (m : Nat) (Ar Am : Option Addr) (cr cm : Nat) (B : Nat) (w' : World) (e : Ending) : Prop where
 out : ∃ L A c, e = .returned (.agg #[.slice Ar s.rooms.length cr, .int .i64 s.days, .slice Am s.moves.length cm, .slice A L.length c]) ∧ WgTo s S m L s.wgs.length ∧ RowAt w' B 72 4 A L.length (fWg L)
end Go.Proofs.Ythihdiilokdidaa
end

section
namespace Go.Proofs.Ythihdiilokdidaa
structure Thn (s : Ws) (t : Tt) : Prop where
 nr : s.rooms.length ≤ 6
 nm : s.moves.length ≤ 15
 nw : s.wgs.length ≤ 11
 nf : t.fs.length ≤ 9
 ng : t.gs.length ≤ 18
 nv : t.vs.length ≤ 9
 row : ∀ k, k < t.vs.length → (gL t.vs k).length ≤ 9
end Go.Proofs.Ythihdiilokdidaa
end

section
namespace Go.Proofs.Ythihdiilokdidaa
open Go.RowKit
attribute [local go_sem] Ex.cell? Ex.frozen? Fx.cell?

abbrev Ws.wg (s : Ws) (L : List Wg) : Ws := ⟨s.rooms, s.days, s.moves, L⟩
structure LivX (s : Ws) (m : Nat) (t : Tt) (L : List Wg) : Prop where
 thn : Thn s ⟨[], [], []⟩
 ck : ckWs s = 0
 tru : truT s t = true
 can : canT s t = true
 wg : WgTo s (stk s.wo t.F t.V t.G) m L s.wgs.length
 ckx : ckWs (s.wg L) = 0
structure LivV (s : Ws) (m : Nat) (Ar Am : Option Addr) (cr cm : Nat) (w' : World) (e : Ending) : Prop where
 out : (∃ A1 A2 A3 A4 A5 A6 A7 c1 c2 c3 c4 c5 c6 c7, ∃ n1 n2 n3 n4 n5 n6 n7 : Nat, ∃ d : Int, e = .returned (.tuple #[.agg #[.slice A1 n1 c1, .int .i64 d, .slice A2 n2 c2, .slice A3 n3 c3], .agg #[.slice A4 n4 c4, .slice A5 n5 c5, .slice A6 n6 c6], .slice A7 n7 c7, .bool false])) ∨
  ∃ t : Tt, ∃ L : List Wg, ∃ A3 A4 A5 A6 A7 c3 c4 c5 c6 c7 rV rcV rA rc, e = .returned (.tuple #[.agg #[.slice Ar s.rooms.length cr, .int .i64 s.days, .slice Am s.moves.length cm, .slice A3 L.length c3], .agg #[.slice A4 t.fs.length c4, .slice A5 t.vs.length c5, .slice A6 t.gs.length c6], .slice A7 s.rooms.length c7, .bool true]) ∧
   LivX s m t L ∧ SlAt w' w'.heap.size 4 A3 L.length (fWg L) ∧ TtIn w' w'.heap.size t A4 A5 A6 rV rcV ∧ MatIn w' w'.heap.size A7 s.rooms.length s.wo.days (stk s.wo t.F t.V t.G) rA rc
end Go.Proofs.Ythihdiilokdidaa
end

section
namespace Go.Proofs.Ythihdiilokdidaa

def bitO (m : Nat) : Nat → Bool := fun i => decide (m / 2 ^ i % 2 = 1)
theorem bitO_zero : bitO 0 = off0 := by
 funext i
 unfold bitO off0
 rw [Nat.zero_div]
 rfl
section
variable {s : Ws} {m : Nat} {t : Tt} {L : List Wg}
theorem stk_wgL (s : Ws) (L : List Wg) (F : Nat → Int) (V : Nat → Nat → Int) (G : Nat → Int) (r d : Nat) : stk (s.wg L).wo F V G r d = stk s.wo F V G r d := (SameMv.wgs s.wo s.wgs L).stk F V G r d
theorem LivX.wo (h : LivX s m t L) : WoOk s.wo ∧ s.days = (s.wo.days : Int) := ckWs_iff.1 h.ck
theorem LivX.wox (h : LivX s m t L) : WoOk (s.wg L).wo ∧ (s.wg L).days = ((s.wg L).wo.days : Int) := ckWs_iff.1 h.ckx
theorem LivX.sm (h : LivX s m t L) : (s.wg L).rooms.length ≤ 1000 ∧ (s.wg L).moves.length ≤ 1000 ∧ (s.wg L).wgs.length ≤ 1000 := by
 have h1 := h.wox.1.len
 have a : (s.wg L).wo.rooms.length = (s.wg L).rooms.length := rfl
 have b : (s.wg L).wo.moves.length = (s.wg L).moves.length := rfl
 have c : (s.wg L).wo.wgs.length = (s.wg L).wgs.length := rfl
 omega
theorem LivX.tru' (h : LivX s m t L) : TruF s.wo t.F t.V t.G := ((truT_iff h.wo.2).1 h.tru).2.2
theorem LivX.good (h : LivX s m t L) : GoodF (s.wg L).wo (bitO m) t.F t.V t.G where
 tru := ⟨h.tru'.fst, h.tru'.vap, h.tru'.mov⟩
 can := fun r d hr hd => by rw [stk_wgL]; exact canT_iff.1 h.can r d hr hd
 agr := fun i hi ho => by
  have hl := h.wg.len
  have hi2 : i < s.wgs.length := by rw [← hl]; exact hi
  obtain ⟨h1, h2, h3⟩ := h.wg.ok i hi2
  have hz : m / 2 ^ i % 2 = 0 := by
   have := of_decide_eq_false ho
   omega
  have h4 := h3 hz
  show inR (stk (s.wg L).wo t.F t.V t.G (gWg L i).room.toNat (gWg L i).day.toNat) (gWg L i).g
  rw [stk_wgL, h1, h2]
  exact h4
theorem LivX.stk_in (h : LivX s 0 t L) {r d : Nat} : StkZ (s.wg L).wo off0 r d (stk s.wo t.F t.V t.G r d) := ⟨_, _, _, bitO_zero ▸ h.good, stk_wgL _ _ _ _ _ _ _⟩
theorem LivX.len (h : LivX s m t L) : L.length = s.wgs.length := h.wg.len
end
def endV (lo hi : Int) : Nat → Int
 | 0 => lo
 | 1 => hi
 | 2 => lo - 1
 | _ => hi + 1
end Go.Proofs.Ythihdiilokdidaa
end

section
namespace Go.Proofs.Ythihdiilokdidaa

def cnt (O : Nat → Bool) (n : Nat) : Nat → Nat
  | 0 => 0
  | f + 1 => (if O n then 1 else 0) + cnt O (n + 1) f
theorem cnt_zero {O : Nat → Bool} : ∀ {f n : Nat}, cnt O n f = 0 → ∀ j, n ≤ j → j < n + f → O j = false
  | 0, n, _, j, h1, h2 => by omega
  | f + 1, n, h, j, h1, h2 => by
    rw [cnt] at h
    cases ho : O n
    · rw [ho] at h
      rcases Nat.eq_or_lt_of_le h1 with he | hlt
      · subst he; exact ho
      · exact cnt_zero (f := f) (n := n + 1) (by simpa using h) j hlt (by omega)
    · rw [ho] at h; simp at h
theorem setO_self {o : Nat → Bool} {n : Nat} : setO o n n = true := by simp [setO]
theorem setO_ne {o : Nat → Bool} {n j : Nat} (h : j ≠ n) : setO o n j = o j := by simp [setO, h]
theorem pick_ne {A : (Nat → Bool) → Bool} {N many : Nat} {O : Nat → Bool} (hA : ∀ o, (∀ j, j < N → o j = O j) → A o = true) : ∀ (f n : Nat) (lv : List Int) (o : Nat → Bool), n + f = N → (∀ j, j < n → o j = O j) → (∀ j, n ≤ j → o j = false) → lv.length + cnt O n f = many → pickL A many f lv o n ≠ [] := by
  intro f
  induction f with
  | zero =>
    intro n lv o h1 h2 h3 h4
    unfold pickL
    rw [cnt] at h4
    rw [if_pos (by omega), if_pos (hA o (fun j hj => h2 j (by omega)))]
    simp
  | succ f ih =>
    intro n lv o h1 h2 h3 h4
    by_cases hm : lv.length = many
    · unfold pickL
      have hz := cnt_zero (show cnt O n (f + 1) = 0 by omega)
      rw [if_pos hm, if_pos (hA o (fun j hj => by
        rcases Nat.lt_or_ge j n with h | h
        · exact h2 j h
        · rw [h3 j h, hz j h (by omega)]))]
      simp
    · unfold pickL
      rw [if_neg hm, loopL_succ]
      rw [cnt] at h4
      cases ho : O n
      · rw [ho] at h4
        have := ih (n + 1) lv o (by omega) (fun j hj => by
          rcases Nat.lt_succ_iff_lt_or_eq.1 hj with h | h
          · exact h2 j h
          · subst h; rw [h3 j (Nat.le_refl _), ho]) (fun j hj => h3 j (by omega)) (by simpa using h4)
        unfold pickL at this
        rw [if_neg hm] at this
        simp [this]
      · rw [ho] at h4
        have := ih (n + 1) (lv ++ [(n : Int)]) (setO o n) (by omega) (fun j hj => by
          rcases Nat.lt_succ_iff_lt_or_eq.1 hj with h | h
          · rw [setO_ne (by omega)]; exact h2 j h
          · subst h; rw [setO_self, ho]) (fun j hj => by rw [setO_ne (by omega)]; exact h3 j (by omega)) (by simp at h4 ⊢; omega)
        simp [this]
theorem pick_mem {A : (Nat → Bool) → Bool} {many : Nat} {L : List Int} : ∀ (f n : Nat) (lv : List Int) (o : Nat → Bool), (∀ j : Nat, o j = true ↔ (j : Int) ∈ lv) → L ∈ pickL A many f lv o n → ∃ o', A o' = true ∧ (∀ j : Nat, o' j = true ↔ (j : Int) ∈ L) := by
  have hset : ∀ (n : Nat) (lv : List Int) (o : Nat → Bool), (∀ j : Nat, o j = true ↔ (j : Int) ∈ lv) → ∀ j : Nat, setO o n j = true ↔ (j : Int) ∈ lv ++ [(n : Int)] := fun n lv o h j => by
    by_cases hj : j = n
    · subst hj; simp [setO_self]
    · rw [setO_ne hj, h j]; simp; omega
  intro f
  induction f with
  | zero =>
    intro n lv o h hL
    unfold pickL at hL
    split at hL
    · split at hL
      · rename_i ha
        rw [List.mem_singleton] at hL
        subst hL; exact ⟨o, ha, h⟩
      · cases hL
    · simp [loopL] at hL
  | succ f ih =>
    intro n lv o h hL
    unfold pickL at hL
    split at hL
    · split at hL
      · rename_i ha
        rw [List.mem_singleton] at hL
        subst hL; exact ⟨o, ha, h⟩
      · cases hL
    · rename_i hm
      rw [loopL_succ, List.mem_append] at hL
      rcases hL with hL | hL
      · exact ih (n + 1) _ _ (hset n lv o h) hL
      · exact ih (n + 1) lv o h (by unfold pickL; rw [if_neg hm]; exact hL)

theorem pick_up {A : (Nat → Bool) → Bool} {many : Nat} {L : List Int} : ∀ (f n : Nat) (lv : List Int) (o : Nat → Bool), L ∈ pickL A many f lv o n → ∃ m : List Int, L = lv ++ m ∧ m.Pairwise (· < ·) ∧ ∀ x ∈ m, (n : Int) ≤ x ∧ x < (n : Int) + f := by
  intro f
  induction f with
  | zero =>
    intro n lv o hL
    unfold pickL at hL
    split at hL
    · split at hL
      · rw [List.mem_singleton] at hL
        exact ⟨[], by simp [hL], List.Pairwise.nil, fun x hx => by cases hx⟩
      · cases hL
    · simp [loopL] at hL
  | succ f ih =>
    intro n lv o hL
    unfold pickL at hL
    split at hL
    · split at hL
      · rw [List.mem_singleton] at hL
        exact ⟨[], by simp [hL], List.Pairwise.nil, fun x hx => by cases hx⟩
      · cases hL
    · rename_i hm
      rw [loopL_succ, List.mem_append] at hL
      rcases hL with hL | hL
      · obtain ⟨m, e, h1, h2⟩ := ih (n + 1) _ _ hL
        refine ⟨(n : Int) :: m, by rw [e]; simp, List.pairwise_cons.2 ⟨fun x hx => by have := h2 x hx; omega, h1⟩, fun x hx => ?_⟩
        rcases List.mem_cons.1 hx with rfl | hx
        · omega
        · have := h2 x hx; omega
      · obtain ⟨m, e, h1, h2⟩ := ih (n + 1) lv o (by unfold pickL; rw [if_neg hm]; exact hL)
        exact ⟨m, e, h1, fun x hx => by have := h2 x hx; omega⟩
def outL (L : List Int) : Nat → Bool := fun j => decide ((j : Int) ∈ L)
theorem good_off {w : Wo} {o o' : Nat → Bool} (h : ∀ j, j < w.wgs.length → o j = o' j) : Good w o ↔ Good w o' := by
  have key : ∀ o o' : Nat → Bool, (∀ j, j < w.wgs.length → o j = o' j) → Good w o → Good w o' := fun o o' h ⟨F, V, G, hg⟩ => ⟨F, V, G, hg.tru, hg.can, fun i hi ho => hg.agr i hi (by rw [h i hi]; exact ho)⟩
  exact ⟨key o o' h, key o' o (fun j hj => (h j hj).symm)⟩
structure Told (s : Ws) (L : List Int) : Prop where
  good : Good s.wo (outL L)
  up : L.Pairwise (· < ·)
  bd : ∀ x ∈ L, 0 ≤ x ∧ x < (s.wgs.length : Int)
theorem listsL_told {s : Ws} {many : Nat} {L : List Int} (h : L ∈ listsL s many) : Told s L ∧ L.length = many := by
  unfold listsL at h
  obtain ⟨m, e, h1, h2⟩ := pick_up _ _ _ _ h
  obtain ⟨o', ha, ho⟩ := pick_mem s.wgs.length 0 [] off0 (fun j => by simp [off0]) h
  simp only [List.nil_append] at e
  subst e
  refine ⟨⟨?_, h1, fun x hx => by have := h2 x hx; omega⟩, listsL_mem (s := s) (by unfold listsL; exact h)⟩
  refine (good_off (fun j _ => ?_)).1 (truB_iff.1 ha)
  unfold outL
  cases hj : o' j
  · symm; rw [decide_eq_false_iff_not]
    intro hm; rw [(ho j).2 hm] at hj; cases hj
  · symm; rw [decide_eq_true_eq]; exact (ho j).1 hj
theorem listsL_ne {s : Ws} {O : Nat → Bool} (h : Good s.wo O) : listsL s (cnt O 0 s.wgs.length) ≠ [] := by
  unfold listsL
  refine pick_ne (N := s.wgs.length) (O := O) (fun o ho => truB_iff.2 ((good_off (fun j hj => ho j hj)).2 h)) s.wgs.length 0 [] off0 (by omega) (fun j hj => by omega) (fun _ _ => rfl) (by simp)
theorem cnt_le (O : Nat → Bool) : ∀ f n, cnt O n f ≤ f
  | 0, _ => Nat.le_refl _
  | f + 1, n => by
    have := cnt_le O f (n + 1)
    rw [cnt]; split <;> omega
theorem fewK_le {s : Ws} {O : Nat → Bool} (h : Good s.wo O) : 0 ≤ fewK s ∧ fewK s ≤ (cnt O 0 s.wgs.length : Nat) := by
  have hc := cnt_le O s.wgs.length 0
  have hne := listsL_ne h
  have hpos : decide (0 < (listsL s (cnt O 0 s.wgs.length)).length) = true := by
    rw [decide_eq_true_eq]; exact List.length_pos_iff.2 hne
  have key : ∀ n k : Nat, k < n → (fun k => decide (0 < (listsL s k).length)) k = true → 0 ≤ firstOf (fun k => decide (0 < (listsL s k).length)) n ∧ firstOf (fun k => decide (0 < (listsL s k).length)) n ≤ k := by
    intro n
    induction n with
    | zero => intro k hk; omega
    | succ n ih =>
      intro k hk hf
      rw [firstOf]
      rcases Nat.lt_succ_iff_lt_or_eq.1 hk with hlt | rfl
      · have := ih k hlt hf
        rw [if_neg (by omega)]; exact this
      · by_cases hn : firstOf (fun k => decide (0 < (listsL s k).length)) k < 0
        · rw [if_pos hn, if_pos hf]; omega
        · rw [if_neg hn]
          refine ⟨by omega, ?_⟩
          have hb : ∀ n, firstOf (fun k => decide (0 < (listsL s k).length)) n < (n : Int) := by
            intro n
            induction n with
            | zero => simp [firstOf]
            | succ n ih => rw [firstOf]; split <;> (try split) <;> omega
          have := hb k; omega
  exact key _ _ (by omega) hpos
theorem firstOf_hit {f : Nat → Bool} : ∀ {n : Nat}, 0 ≤ firstOf f n → f (firstOf f n).toNat = true ∧ (firstOf f n).toNat < n
  | 0, h => by simp [firstOf] at h
  | n + 1, h => by
    rw [firstOf] at h ⊢
    by_cases hn : firstOf f n < 0
    · rw [if_pos hn] at h ⊢
      by_cases hf : f n = true
      · rw [if_pos hf]; simp [hf]
      · rw [if_neg hf] at h; omega
    · rw [if_neg hn] at h ⊢
      have := firstOf_hit (f := f) (n := n) (by omega)
      exact ⟨this.1, by omega⟩
theorem firstOf_min {f : Nat → Bool} {k : Nat} : ∀ {n : Nat}, k < n → f k = true → 0 ≤ firstOf f n ∧ firstOf f n ≤ k
  | 0, hk, _ => by omega
  | n + 1, hk, hf => by
    rw [firstOf]
    rcases Nat.lt_succ_iff_lt_or_eq.1 hk with hlt | rfl
    · have := firstOf_min (n := n) hlt hf
      rw [if_neg (by omega)]; exact this
    · by_cases hn : firstOf f k < 0
      · rw [if_pos hn, if_pos hf]; omega
      · rw [if_neg hn]
        have := (firstOf_hit (f := f) (n := k) (by omega)).2
        omega
theorem headD_mem {α : Type} {l : List α} (z : α) (h : l ≠ []) : l.headD z ∈ l := by cases l with
  | nil => exact absurd rfl h
  | cons a l => simp
structure FwIs (s : Ws) : Prop where
  told : Told s (fwL s)
  min : ∀ O, Good s.wo O → (fwL s).length ≤ cnt O 0 s.wgs.length
theorem fw_ok {s : Ws} (hc : ckWs s = 0) (h : fwE s = 0) : FwIs s := by
  have hk : 0 ≤ fewK s := by
    unfold fwE at h
    rw [if_pos hc] at h
    by_cases hk : 0 ≤ fewK s
    · exact hk
    · rw [if_neg hk] at h; cases h
  have hh := (firstOf_hit (f := fun k => decide (0 < (listsL s k).length)) (n := s.wgs.length + 1) hk).1
  have hh' : 0 < (listsL s (fewK s).toNat).length := of_decide_eq_true hh
  have hm : fwL s ∈ listsL s (fewK s).toNat := by
    unfold fwL
    rw [if_pos h]
    exact headD_mem _ (List.length_pos_iff.1 hh')
  obtain ⟨ht, hl⟩ := listsL_told hm
  refine ⟨ht, fun O hO => ?_⟩
  have := fewK_le hO
  omega
theorem fw_yes {s : Ws} {O : Nat → Bool} (hc : ckWs s = 0) (h : Good s.wo O) : fwE s = 0 := by
  unfold fwE
  rw [if_pos hc, if_pos (fewK_le h).1]
theorem fw_no {s : Ws} (hc : ckWs s = 0) (h : ¬ fwE s = 0) : fwE s = 9 ∧ ∀ O, ¬ Good s.wo O := by
  refine ⟨?_, fun O hO => h (fw_yes hc hO)⟩
  unfold fwE at h ⊢
  rw [if_pos hc] at h ⊢
  by_cases hk : 0 ≤ fewK s
  · rw [if_pos hk] at h; exact absurd rfl h
  · rw [if_neg hk]
end Go.Proofs.Ythihdiilokdidaa
end

section
namespace Go.Proofs.Ythihdiilokdidaa
section
variable {s : Ws} {b : Bk}
theorem firstOf_before {f : Nat → Bool} {n j : Nat} (h : 0 ≤ firstOf f n) (hj : (j : Int) < firstOf f n) : f j = false := by
 cases hf : f j
 ·
  rfl
 ·
  have hn := (firstOf_hit h).2
  have := (firstOf_min (n := n) (by omega) hf).2
  omega
theorem firstOf_none {f : Nat → Bool} {n j : Nat} (h : ¬ 0 ≤ firstOf f n) (hj : j < n) : f j = false := by
 cases hf : f j
 ·
  rfl
 ·
  exact absurd (firstOf_min hj hf).1 h
theorem mis_ok (hc : ckWs s = 0) (hb : bookB s b = true) (hg : Good s.wo off0) {r d : Nat} (hr : r < s.rooms.length) (hd : d < s.wo.days) : misE s b r d = 0 ∧ misR s b r d = ⟨saysF s.wo b r d - (stkR s.wo off0 r d).hi, saysF s.wo b r d - (stkR s.wo off0 r d).lo⟩ := by
 have hdd := (ckWs_iff.1 hc).2
 have h0 : misE s b r d = 0 := by
  unfold misE
  rw [if_pos hc, hb, inB_iff.2 ⟨by omega, by omega⟩, inB_iff.2 ⟨by omega, by omega⟩, truB_iff.2 hg]
  rfl
 refine ⟨h0, ?_⟩
 unfold misR
 rw [if_pos h0]
 rfl
structure LostIs (s : Ws) (b : Bk) (r d : Nat) : Prop where
 v : losV s b = ((r : Int), (d : Int))
 hr : r < s.rooms.length
 hd : d < s.wo.days
 hit : lostB s b d r = true
 row : ∀ i, i < r → lostB s b d i = false
 day : ∀ e i, e < d → i < s.rooms.length → lostB s b e i = false
theorem los_yes (h0 : losE s b = 0) (hk : 0 ≤ losD s b) : ∃ r d, LostIs s b r d := by
 have h1 := firstOf_hit hk
 have h2 : 0 ≤ losR s b (losD s b).toNat := of_decide_eq_true h1.1
 have h3 := firstOf_hit (f := lostB s b (losD s b).toNat) (n := s.rooms.length) h2
 have e2 : losR s b (losD s b).toNat = firstOf (lostB s b (losD s b).toNat) s.rooms.length := rfl
 have e1 : losD s b = firstOf (fun d => decide (0 ≤ losR s b d)) s.wo.days := rfl
 refine ⟨(losR s b (losD s b).toNat).toNat, (losD s b).toNat, ⟨?_, by rw [e2]; exact h3.2, h1.2, by rw [e2]; exact h3.1, fun i hi => ?_, fun e i he hi => ?_⟩⟩
 ·
  unfold losV
  rw [if_pos h0, Prod.mk.injEq]
  omega
 ·
  exact firstOf_before (n := s.rooms.length) h2 (by rw [← e2]; omega)
 ·
  have hb : decide (0 ≤ losR s b e) = false := firstOf_before (f := fun d => decide (0 ≤ losR s b d)) (n := s.wo.days) hk (by rw [← e1]; omega)
  exact firstOf_none (of_decide_eq_false hb) hi
theorem los_ok (hc : ckWs s = 0) (hb : bookB s b = true) (hg : Good s.wo off0) : (losE s b = 0 ∧ ∃ r d, LostIs s b r d) ∨ (losE s b = 7 ∧ losV s b = (0, 0) ∧ ∀ d i, d < s.wo.days → i < s.rooms.length → lostB s b d i = false) := by
 have he : losE s b = if 0 ≤ losD s b then 0 else 7 := by
  unfold losE
  rw [if_pos hc, hb, if_pos rfl, if_pos (truB_iff.2 hg)]
 by_cases hk : 0 ≤ losD s b
 ·
  rw [if_pos hk] at he
  exact .inl ⟨he, los_yes he hk⟩
 ·
  rw [if_neg hk] at he
  refine .inr ⟨he, ?_, fun d i hd hi => ?_⟩
  ·
   unfold losV
   rw [if_neg (by rw [he]; decide)]
  ·
   have hb : decide (0 ≤ losR s b d) = false := firstOf_none (f := fun d => decide (0 ≤ losR s b d)) hk hd
   exact firstOf_none (of_decide_eq_false hb) hi
end
end Go.Proofs.Ythihdiilokdidaa
end

section
namespace Go.Proofs.Ythihdiilokdidaa
open Go.RowKit
attribute [local go_sem] Ex.cell? Ex.frozen?

def namT (g : Int) : Tt := ⟨[100, 3], [[1, 1, 2], [0, 1, 0]], [42, g, 5]⟩
def namB : Bk := ⟨[100, 2], [42, 20, 5]⟩
theorem nam_tru (lo hi : Int) : truT (cellS lo hi) (namT 20) = true := rfl
theorem nam_not (lo hi : Int) : truT (cellS lo hi) (namT 21) = false := rfl
theorem nam_can (lo hi : Int) : canT (cellS lo hi) (namT 20) = true := rfl
theorem nam_playE {lo hi : Int} (h : 0 ≤ lo ∧ lo ≤ hi ∧ hi ≤ 2000) : playE (cellS lo hi) (namT 20) = 0 := by unfold playE; rw [if_pos (cel_ck h), if_pos (nam_tru lo hi)]
theorem nam_playB {lo hi : Int} (h : 0 ≤ lo ∧ lo ≤ hi ∧ hi ≤ 2000) : playB (cellS lo hi) (namT 20) = true := by unfold playB; rw [nam_playE h, nam_can]; rfl
theorem nam_bad : playE (cellS 22 24) (namT 21) = 2 := by unfold playE; rw [if_pos (cel_ck (by decide)), nam_not]; rfl
theorem nam_badB : playB (cellS 22 24) (namT 21) = false := by unfold playB; rw [nam_bad]; rfl
theorem nam_yes : proveT (cellS 22 24) (namT 20) = true := by unfold proveT; rw [nam_playB (by decide)]; rfl
theorem nam_no : proveT (cellS 22 23) (namT 20) = false := by unfold proveT; rw [nam_playB (by decide)]; rfl
def namS : Nat → Nat → Int := fun r d => gI (gL [[57, 56, 49], [45, 24, 29]] r) d
theorem cel_r01 : stkR (cellS 22 24).wo off0 0 1 = ⟨51, 58⟩ := rngOf_eq ⟨⟨_, _, _, cel_mk 22 24 0 2 2 1 1 0 0 45 0 (by decide) (by decide) (by decide) (by decide) (by decide) (by decide) (by decide) (by decide) (by decide) (by decide) off0, by rw [cel_s01]; rfl⟩, ⟨_, _, _, cel_mk 22 24 2 1 1 1 0 0 0 40 0 (by decide) (by decide) (by decide) (by decide) (by decide) (by decide) (by decide) (by decide) (by decide) (by decide) off0, by rw [cel_s01]; rfl⟩, fun z ⟨F, V, G, h, e⟩ => by
    have h := (cel_good 22 24 _ _ _ off0).1 h
    rw [cel_s01] at e; have := h.f0; have := h.v00; have := h.v01; have := h.g0; omega⟩
theorem cel_r11 : stkR (cellS 22 24).wo off0 1 1 = ⟨22, 24⟩ := rngOf_eq ⟨⟨_, _, _, cel_mk 22 24 2 1 1 1 0 0 0 40 0 (by decide) (by decide) (by decide) (by decide) (by decide) (by decide) (by decide) (by decide) (by decide) (by decide) off0, by rw [cel_s11]; rfl⟩, ⟨_, _, _, cel_mk 22 24 0 1 1 1 0 1 0 45 0 (by decide) (by decide) (by decide) (by decide) (by decide) (by decide) (by decide) (by decide) (by decide) (by decide) off0, by rw [cel_s11]; rfl⟩, fun z ⟨F, V, G, h, e⟩ => by
    have h := (cel_good 22 24 _ _ _ off0).1 h
    rw [cel_s11] at e; have := h.w0 rfl; omega⟩
theorem nam_mis : misE (cellS 22 24) namB 0 1 = 0 ∧ misR (cellS 22 24) namB 0 1 = ⟨0, 7⟩ := by
  obtain ⟨h1, h2⟩ := mis_ok (b := namB) (cel_ck (lo := 22) (hi := 24) (by decide)) rfl cel_yes (r := 0) (d := 1) (by decide) (by decide)
  refine ⟨h1, h2.trans ?_⟩
  rw [cel_r01]
  rfl
theorem nam_losB : ∀ d r, d < 3 → r < 2 → lostB (cellS 22 24) namB d r = false := fun d r hd hr => by
  unfold lostB
  match r, hr, d, hd with
  | 0, _, 0, _ => rw [cel_r00]; rfl
  | 0, _, 1, _ => rw [cel_r01]; rfl
  | 0, _, 2, _ => rw [cel_r02]; rfl
  | 1, _, 0, _ => rw [cel_r10]; rfl
  | 1, _, 1, _ => rw [cel_r11]; rfl
  | 1, _, 2, _ => rw [cel_r12]; rfl
theorem nam_los : losE (cellS 22 24) namB = 7 ∧ losV (cellS 22 24) namB = (0, 0) := by
  rcases los_ok (cel_ck (lo := 22) (hi := 24) (by decide)) (show bookB (cellS 22 24) namB = true from rfl) cel_yes with ⟨_, r, d, h⟩ | ⟨h1, h2, _⟩
  · have h3 := h.hit
    rw [nam_losB d r h.hd h.hr] at h3
    cases h3
  · exact ⟨h1, h2⟩
theorem nam_out : misE (cellS 22 24) namB 2 1 = 2 := by unfold misE; rw [if_pos (cel_ck (by decide))]; rfl
theorem nam_none : misE (cellS 22 24) ⟨[], []⟩ 2 1 = 2 := by unfold misE; rw [if_pos (cel_ck (by decide))]; rfl
theorem nam_late : misE (cellS 35 40) namB 0 3 = 2 := by unfold misE; rw [if_pos (cel_ck (by decide))]; rfl
theorem nam_stE : stE (cellS 35 40) = 9 := by unfold stE; rw [if_pos (cel_ck (by decide)), truB_false cel_no]; rfl
theorem nam_blame : bmE (cellS 35 40) = 0 ∧ bmV (cellS 35 40) = 0 := by
  have h1 : bmE (cellS 35 40) = 0 := by
    unfold bmE
    rw [if_pos (cel_ck (by decide)), cel_l1, if_pos ⟨rfl, truB_false cel_no⟩]
  refine ⟨h1, ?_⟩
  unfold bmV
  rw [if_pos h1, cel_l1]
  rfl
theorem nam_blame0 : bmE (cellS 22 24) = 7 := by
  unfold bmE
  rw [if_pos (cel_ck (by decide)), if_neg]
  rintro ⟨_, h⟩
  rw [show agrO (cellS 22 24) off0 = true from truB_iff.2 cel_yes] at h
  cases h
def dryS : Ws := ⟨[⟨⟨100, 100⟩, ⟨1, 2⟩⟩, ⟨⟨0, 5⟩, ⟨0, 1⟩⟩], 3, [⟨0, 0, 1, ⟨40, 45⟩⟩, ⟨1, 1, -1, ⟨99, 99⟩⟩, ⟨2, 0, 1, ⟨0, 10⟩⟩], [⟨1, 1, ⟨0, 2000⟩⟩]⟩
theorem dry_ck : ckWs dryS = 0 := rfl
theorem dry_no (out : Nat → Bool) : ¬ Good dryS.wo out := fun ⟨F, V, G, h⟩ => by
  have a1 : 0 ≤ F 1 ∧ F 1 ≤ 5 := h.tru.fst 1 (by show 1 < 2; omega)
  have m0 : 40 ≤ G 0 ∧ G 0 ≤ 45 := h.tru.mov 0 (by show 0 < 3; omega)
  have m1 : 99 ≤ G 1 ∧ G 1 ≤ 99 := h.tru.mov 1 (by show 1 < 3; omega)
  have v0 : 0 ≤ V 1 0 ∧ V 1 0 ≤ 1 := h.tru.vap 1 0 (by decide) (by decide)
  have v1 : 0 ≤ V 1 1 ∧ V 1 1 ≤ 1 := h.tru.vap 1 1 (by decide) (by decide)
  have c := h.can 1 1 (by decide) (by decide)
  rw [show stk dryS.wo F V G 1 1 = stk (cellS 0 2000).wo F V G 1 1 from rfl, cel_s11] at c
  omega
theorem dry_few : fwE dryS = 9 := by
  by_cases h : fwE dryS = 0
  · exact absurd (fw_ok dry_ck h).told.good (dry_no _)
  · exact (fw_no dry_ck h).1
def wildS : Ws := ⟨[⟨⟨100, 100⟩, ⟨1, 2⟩⟩, ⟨⟨0, 5⟩, ⟨0, 1⟩⟩], 3, [⟨0, 1, 1, ⟨40, 45⟩⟩, ⟨1, 1, -1, ⟨20, 20⟩⟩, ⟨2, 0, 1, ⟨0, 10⟩⟩], [⟨1, 1, ⟨22, 24⟩⟩]⟩
def manyS : Ws := { cellS 22 24 with wgs := List.replicate 9 ⟨0, 0, ⟨0, 0⟩⟩ }
def noneS : Ws := { cellS 22 24 with rooms := [] }
theorem wild_ck : ckWs wildS = 1 := rfl
theorem many_ck : ckWs manyS = 3 := rfl
theorem none_ck : ckWs noneS = 1 := rfl
theorem zero_ck : ckWs ⟨[], 0, [], []⟩ = 1 := rfl
def badT : Tm := { shiftT with hours := [4] }
def tiredT : Tm := { shiftT with limit := 9 }
def freeT : Tm := ⟨[⟨0, 0⟩], [0], 0, 0⟩
theorem bad_ck : ckTm badT = 1 := rfl
theorem nil_ck : ckTm ⟨[], [], 0, 0⟩ = 1 := rfl
theorem four_ck : ckTm ⟨List.replicate 4 ⟨0, 0⟩, [], 0, 0⟩ = 3 := rfl
theorem tired_no : ∀ k l, Does tiredT k l → l.b = 0
  | 0, l, h => by
    have e : l = z3 := h
    rw [e]; rfl
  | k + 1, l, ⟨d, hd, hz⟩ => by
    have h1 := tired_no k _ hz
    have h2 := hd.may
    have b0 := hd.bd 0 (by omega)
    have b1 := hd.bd 1 (by omega)
    have h3 : brTo tiredT d 2 ≤ 9 := by
      unfold mayB at h2
      rw [Bool.and_eq_true] at h2
      exact of_decide_eq_true h2.2
    have h4 : brTo tiredT d 2 = d.a * 5 + d.b * 10 := by
      rw [brTo_succ, brTo_succ]
      show 0 + d.a * 5 + d.b * 10 = _
      omega
    have e1 : l.b - d.b = 0 := h1
    have e2 : 0 ≤ d.a := b0.1
    have e3 : 0 ≤ d.b := b1.1
    omega
theorem tired_few : fewT tiredT = 7 := by
  refine (fewT_is tiredT).uniq (.inr ⟨rfl, fun k _ h => ?_⟩)
  have := tired_no k _ h
  exact absurd (show (3 : Int) = 0 from this) (by decide)
theorem tired_roE : roE tiredT = 10 := by
  unfold roE
  rw [show ckTm tiredT = 0 from rfl, tired_few]
  rfl
theorem free_few : fewT freeT = 0 := (fewT_is freeT).uniq FewIs.zero
theorem free_roE : roE freeT = 0 := by
  unfold roE
  rw [show ckTm freeT = 0 from rfl, free_few]
  rfl
theorem nam_same : sameB 2 2 (fun _ => 3) (fun _ => 3) (stk (cellS 22 24).wo (namT 20).F (namT 20).V (namT 20).G) namS = true := rfl
theorem ros_yes : proveR shiftT [[4, 1], [0, 2]] 2 = true := rfl
theorem ros_many : proveR shiftT [[4, 1], [0, 2]] 1 = false := rfl
theorem ros_no : proveR shiftT [[4, 2], [0, 1]] 2 = false := rfl
end Go.Proofs.Ythihdiilokdidaa
end

section
namespace Go.Proofs.Ythihdiilokdidaa
open Go.RowKit
attribute [local go_sem] Ex.cell? Ex.frozen?

set_option maxRecDepth 100000 in
set_option maxHeartbeats 3200000 in
theorem cellar_own (lo hi : Int) (w : World) :
    Calls Try.prog 58 #[.int .i64 lo, .int .i64 hi] w fun e w' => (∃ gr gm gw, e = .returned (.agg #[.slice (some ⟨gr, 0, none⟩) 2 2, .int .i64 3, .slice (some ⟨gm, 0, none⟩) 3 3, .slice (some ⟨gw, 0, none⟩) 1 1]) ∧ w.heap.size ≤ gm ∧ Blk w' gr 126 #[.int .i64 100, .int .i64 100, .int .i64 1, .int .i64 2, .int .i64 0, .int .i64 5, .int .i64 0, .int .i64 1] ∧ Blk w' gm 122 #[.int .i64 0, .int .i64 0, .int .i64 1, .int .i64 40, .int .i64 45, .int .i64 1, .int .i64 1, .int .i64 (-1), .int .i64 20, .int .i64 20, .int .i64 2, .int .i64 0, .int .i64 1, .int .i64 0, .int .i64 10] ∧ Blk w' gw 128 #[.int .i64 1, .int .i64 1, .int .i64 lo, .int .i64 hi]) ∧ Below w.heap.size w w' := by
  have N0 := ex_alloc (Below.refl w.heap.size w) (.cells #[.slice none 0 0, .int .i64 0, .slice none 0 0, .slice none 0 0] 42)
  have q4 : Blk (w.alloc (.cells #[.slice none 0 0, .int .i64 0, .slice none 0 0, .slice none 0 0] 42)) w.heap.size 42 #[.slice none 0 0, .int .i64 0, .slice none 0 0, .slice none 0 0] := Blk.new _ _ _
  go_enter Try.func58, Try.ntmps58
  go_upto_region 1 with fail
  obtain ⟨p4, hp4⟩ : ∃ p, w.heap.size = p := ⟨_, rfl⟩
  have HP4 := Lib.hid hp4
  rw [hp4] at q4 ⊢
  generalize w.alloc (.cells #[.slice none 0 0, .int .i64 0, .slice none 0 0, .slice none 0 0] 42) = W0 at *
  clear hp4
  go_wp2_with fail
  refine (between_any 100 100 W0).mono ?_
  rintro e W1 ⟨rfl, hW1⟩
  replace q4 := q4.below hW1 q4.lt
  have B_W1 := ex_trans N0 hW1
  go_wp2_with fail
  refine (between_any 1 2 W1).mono ?_
  rintro e W2 ⟨rfl, hW2⟩
  replace q4 := q4.below hW2 q4.lt
  have B_W2 := ex_trans B_W1 hW2
  go_wp2_with fail
  refine (between_any 0 5 W2).mono ?_
  rintro e W3 ⟨rfl, hW3⟩
  replace q4 := q4.below hW3 q4.lt
  have B_W3 := ex_trans B_W2 hW3
  go_wp2_with fail
  refine (between_any 0 1 W3).mono ?_
  rintro e W4 ⟨rfl, hW4⟩
  replace q4 := q4.below hW4 q4.lt
  have B_W4 := ex_trans B_W3 hW4
  have N_W5 := ex_alloc (Below.refl W4.heap.size W4) (.cells #[.int .i64 100, .int .i64 100, .int .i64 1, .int .i64 2, .int .i64 0, .int .i64 5, .int .i64 0, .int .i64 1] 126)
  have qr : Blk (W4.alloc (.cells #[.int .i64 100, .int .i64 100, .int .i64 1, .int .i64 2, .int .i64 0, .int .i64 5, .int .i64 0, .int .i64 1] 126)) W4.heap.size 126 #[.int .i64 100, .int .i64 100, .int .i64 1, .int .i64 2, .int .i64 0, .int .i64 5, .int .i64 0, .int .i64 1] := Blk.new _ _ _
  replace q4 := q4.below N_W5 q4.lt
  have B_W5 := ex_trans B_W4 N_W5
  go_wp2_with fail
  obtain ⟨gqr, hgqr⟩ : ∃ p, W4.heap.size = p := ⟨_, rfl⟩
  rw [hgqr] at qr ⊢
  generalize W4.alloc (.cells #[.int .i64 100, .int .i64 100, .int .i64 1, .int .i64 2, .int .i64 0, .int .i64 5, .int .i64 0, .int .i64 1] 126) = W5 at *
  clear hgqr N_W5
  refine (between_any 40 45 W5).mono ?_
  rintro e W6 ⟨rfl, hW6⟩
  replace q4 := q4.below hW6 q4.lt
  replace qr := qr.below hW6 qr.lt
  have B_W6 := ex_trans B_W5 hW6
  go_wp2_with fail
  refine (between_any 20 20 W6).mono ?_
  rintro e W7 ⟨rfl, hW7⟩
  replace q4 := q4.below hW7 q4.lt
  replace qr := qr.below hW7 qr.lt
  have B_W7 := ex_trans B_W6 hW7
  go_wp2_with fail
  refine (between_any 0 10 W7).mono ?_
  rintro e W8 ⟨rfl, hW8⟩
  replace q4 := q4.below hW8 q4.lt
  replace qr := qr.below hW8 qr.lt
  have B_W8 := ex_trans B_W7 hW8
  have N_W9 := ex_alloc (Below.refl W8.heap.size W8) (.cells #[.int .i64 0, .int .i64 0, .int .i64 1, .int .i64 40, .int .i64 45, .int .i64 1, .int .i64 1, .int .i64 (-1), .int .i64 20, .int .i64 20, .int .i64 2, .int .i64 0, .int .i64 1, .int .i64 0, .int .i64 10] 122)
  have qm : Blk (W8.alloc (.cells #[.int .i64 0, .int .i64 0, .int .i64 1, .int .i64 40, .int .i64 45, .int .i64 1, .int .i64 1, .int .i64 (-1), .int .i64 20, .int .i64 20, .int .i64 2, .int .i64 0, .int .i64 1, .int .i64 0, .int .i64 10] 122)) W8.heap.size 122 #[.int .i64 0, .int .i64 0, .int .i64 1, .int .i64 40, .int .i64 45, .int .i64 1, .int .i64 1, .int .i64 (-1), .int .i64 20, .int .i64 20, .int .i64 2, .int .i64 0, .int .i64 1, .int .i64 0, .int .i64 10] := Blk.new _ _ _
  replace q4 := q4.below N_W9 q4.lt
  replace qr := qr.below N_W9 qr.lt
  have B_W9 := ex_trans B_W8 N_W9
  go_wp2_with fail
  obtain ⟨gqm, hgqm⟩ : ∃ p, W8.heap.size = p := ⟨_, rfl⟩
  have yqm : w.heap.size ≤ gqm := by have := B_W8.size; omega
  rw [hgqm] at qm ⊢
  generalize W8.alloc (.cells #[.int .i64 0, .int .i64 0, .int .i64 1, .int .i64 40, .int .i64 45, .int .i64 1, .int .i64 1, .int .i64 (-1), .int .i64 20, .int .i64 20, .int .i64 2, .int .i64 0, .int .i64 1, .int .i64 0, .int .i64 10] 122) = W9 at *
  clear hgqm N_W9
  refine (between_any lo hi W9).mono ?_
  rintro e W10 ⟨rfl, hW10⟩
  replace q4 := q4.below hW10 q4.lt
  replace qr := qr.below hW10 qr.lt
  replace qm := qm.below hW10 qm.lt
  have B_W10 := ex_trans B_W9 hW10
  have N_W11 := ex_alloc (Below.refl W10.heap.size W10) (.cells #[.int .i64 1, .int .i64 1, .int .i64 lo, .int .i64 hi] 128)
  have qw : Blk (W10.alloc (.cells #[.int .i64 1, .int .i64 1, .int .i64 lo, .int .i64 hi] 128)) W10.heap.size 128 #[.int .i64 1, .int .i64 1, .int .i64 lo, .int .i64 hi] := Blk.new _ _ _
  replace q4 := q4.below N_W11 q4.lt
  replace qr := qr.below N_W11 qr.lt
  replace qm := qm.below N_W11 qm.lt
  have B_W11 := ex_trans B_W10 N_W11
  have c0 : (W10.alloc (.cells #[.int .i64 1, .int .i64 1, .int .i64 lo, .int .i64 hi] 128)).cell? ⟨p4, 0, none⟩ = some (.slice none 0 0) := q4.cell 0
  have c1 : (W10.alloc (.cells #[.int .i64 1, .int .i64 1, .int .i64 lo, .int .i64 hi] 128)).cell? ⟨p4, 1, none⟩ = some (.int .i64 0) := q4.cell 1
  have c2 : (W10.alloc (.cells #[.int .i64 1, .int .i64 1, .int .i64 lo, .int .i64 hi] 128)).cell? ⟨p4, 2, none⟩ = some (.slice none 0 0) := q4.cell 2
  have c3 : (W10.alloc (.cells #[.int .i64 1, .int .i64 1, .int .i64 lo, .int .i64 hi] 128)).cell? ⟨p4, 3, none⟩ = some (.slice none 0 0) := q4.cell 3
  have l4 := q4.lt
  have f4 := q4.frozen0
  have qz := (((q4.set_ 0 (.slice (some ⟨gqr, 0, none⟩) 2 2)).set_ 1 (.int .i64 3)).set_ 2 (.slice (some ⟨gqm, 0, none⟩) 3 3)).set_ 3 (.slice (some ⟨W10.heap.size, 0, none⟩) 1 1)
  simp only [List.setIfInBounds_toArray, List.set_cons_zero, List.set_cons_succ] at qz
  have frz : Fr (fun b => b = p4) (W10.alloc (.cells #[.int .i64 1, .int .i64 1, .int .i64 lo, .int .i64 hi] 128)) (((((W10.alloc (.cells #[.int .i64 1, .int .i64 1, .int .i64 lo, .int .i64 hi] 128)).setCell ⟨p4, 0, none⟩ (.slice (some ⟨gqr, 0, none⟩) 2 2)).setCell ⟨p4, 1, none⟩ (.int .i64 3)).setCell ⟨p4, 2, none⟩ (.slice (some ⟨gqm, 0, none⟩) 3 3)).setCell ⟨p4, 3, none⟩ (.slice (some ⟨W10.heap.size, 0, none⟩) 1 1)) := (((Fr.set (R := fun b => b = p4) _ _ _ _ rfl).trans (Fr.set (R := fun b => b = p4) _ _ _ _ rfl) (fun _ _ h => h)).trans (Fr.set (R := fun b => b = p4) _ _ _ _ rfl) (fun _ _ h => h)).trans (Fr.set (R := fun b => b = p4) _ _ _ _ rfl) (fun _ _ h => h)
  have Bz := frz.toBelow B_W11 B_W11.size (fun x hx => by have := HP4.out; omega)
  have rr := qr.fr frz (fun e => blk_ne qr q4 (by decide) e)
  have rm := qm.fr frz (fun e => blk_ne qm q4 (by decide) e)
  have rw' := qw.fr frz (fun e => blk_ne qw q4 (by decide) e)
  go_wp2_with fail
  refine bodyPost_ret (results_cell_row rfl _ _ p4 42 _ (0, 0) _ rfl qz rfl rfl rfl) rfl ?_
  exact ⟨⟨_, _, _, rfl, yqm, rr, rm, rw'⟩, Bz⟩
theorem dry_in {W : World} {gr gm gw : Nat} (h1 : Blk W gr 126 #[.int .i64 100, .int .i64 100, .int .i64 1, .int .i64 2, .int .i64 0, .int .i64 5, .int .i64 0, .int .i64 1]) (h2 : Blk W gm 122 #[.int .i64 0, .int .i64 0, .int .i64 1, .int .i64 40, .int .i64 45, .int .i64 1, .int .i64 1, .int .i64 (-1), .int .i64 99, .int .i64 99, .int .i64 2, .int .i64 0, .int .i64 1, .int .i64 0, .int .i64 10]) (h3 : Blk W gw 128 #[.int .i64 1, .int .i64 1, .int .i64 0, .int .i64 2000]) : WsIn W W.heap.size dryS (some ⟨gr, 0, none⟩) (some ⟨gm, 0, none⟩) (some ⟨gw, 0, none⟩) := by
  refine ⟨blk_sl h1 ?_, blk_sl h2 ?_, blk_sl h3 ?_⟩
  · exact fun k j hk hj => by
      match k, hk, j, hj with
      | 0, _, 0, _ => rfl
      | 0, _, 1, _ => rfl
      | 0, _, 2, _ => rfl
      | 0, _, 3, _ => rfl
      | 1, _, 0, _ => rfl
      | 1, _, 1, _ => rfl
      | 1, _, 2, _ => rfl
      | 1, _, 3, _ => rfl
  · exact fun k j hk hj => by
      match k, hk, j, hj with
      | 0, _, 0, _ => rfl
      | 0, _, 1, _ => rfl
      | 0, _, 2, _ => rfl
      | 0, _, 3, _ => rfl
      | 0, _, 4, _ => rfl
      | 1, _, 0, _ => rfl
      | 1, _, 1, _ => rfl
      | 1, _, 2, _ => rfl
      | 1, _, 3, _ => rfl
      | 1, _, 4, _ => rfl
      | 2, _, 0, _ => rfl
      | 2, _, 1, _ => rfl
      | 2, _, 2, _ => rfl
      | 2, _, 3, _ => rfl
      | 2, _, 4, _ => rfl
  · exact fun k j hk hj => by
      match k, hk, j, hj with
      | 0, _, 0, _ => rfl
      | 0, _, 1, _ => rfl
      | 0, _, 2, _ => rfl
      | 0, _, 3, _ => rfl
theorem wild_in {W : World} {gr gm gw : Nat} (h1 : Blk W gr 126 #[.int .i64 100, .int .i64 100, .int .i64 1, .int .i64 2, .int .i64 0, .int .i64 5, .int .i64 0, .int .i64 1]) (h2 : Blk W gm 122 #[.int .i64 0, .int .i64 1, .int .i64 1, .int .i64 40, .int .i64 45, .int .i64 1, .int .i64 1, .int .i64 (-1), .int .i64 20, .int .i64 20, .int .i64 2, .int .i64 0, .int .i64 1, .int .i64 0, .int .i64 10]) (h3 : Blk W gw 128 #[.int .i64 1, .int .i64 1, .int .i64 22, .int .i64 24]) : WsIn W W.heap.size wildS (some ⟨gr, 0, none⟩) (some ⟨gm, 0, none⟩) (some ⟨gw, 0, none⟩) := by
  refine ⟨blk_sl h1 ?_, blk_sl h2 ?_, blk_sl h3 ?_⟩
  · exact fun k j hk hj => by
      match k, hk, j, hj with
      | 0, _, 0, _ => rfl
      | 0, _, 1, _ => rfl
      | 0, _, 2, _ => rfl
      | 0, _, 3, _ => rfl
      | 1, _, 0, _ => rfl
      | 1, _, 1, _ => rfl
      | 1, _, 2, _ => rfl
      | 1, _, 3, _ => rfl
  · exact fun k j hk hj => by
      match k, hk, j, hj with
      | 0, _, 0, _ => rfl
      | 0, _, 1, _ => rfl
      | 0, _, 2, _ => rfl
      | 0, _, 3, _ => rfl
      | 0, _, 4, _ => rfl
      | 1, _, 0, _ => rfl
      | 1, _, 1, _ => rfl
      | 1, _, 2, _ => rfl
      | 1, _, 3, _ => rfl
      | 1, _, 4, _ => rfl
      | 2, _, 0, _ => rfl
      | 2, _, 1, _ => rfl
      | 2, _, 2, _ => rfl
      | 2, _, 3, _ => rfl
      | 2, _, 4, _ => rfl
  · exact fun k j hk hj => by
      match k, hk, j, hj with
      | 0, _, 0, _ => rfl
      | 0, _, 1, _ => rfl
      | 0, _, 2, _ => rfl
      | 0, _, 3, _ => rfl
theorem cel_in {W : World} {gr gm gw : Nat} (h1 : Blk W gr 126 #[.int .i64 100, .int .i64 100, .int .i64 1, .int .i64 2, .int .i64 0, .int .i64 5, .int .i64 0, .int .i64 1]) (h2 : Blk W gm 122 #[.int .i64 0, .int .i64 0, .int .i64 1, .int .i64 40, .int .i64 45, .int .i64 1, .int .i64 1, .int .i64 (-1), .int .i64 20, .int .i64 20, .int .i64 2, .int .i64 0, .int .i64 1, .int .i64 0, .int .i64 10]) (h3 : Blk W gw 128 #[.int .i64 1, .int .i64 1, .int .i64 22, .int .i64 24]) : WsIn W W.heap.size (cellS 22 24) (some ⟨gr, 0, none⟩) (some ⟨gm, 0, none⟩) (some ⟨gw, 0, none⟩) := by
  refine ⟨blk_sl h1 ?_, blk_sl h2 ?_, blk_sl h3 ?_⟩
  · exact fun k j hk hj => by
      match k, hk, j, hj with
      | 0, _, 0, _ => rfl
      | 0, _, 1, _ => rfl
      | 0, _, 2, _ => rfl
      | 0, _, 3, _ => rfl
      | 1, _, 0, _ => rfl
      | 1, _, 1, _ => rfl
      | 1, _, 2, _ => rfl
      | 1, _, 3, _ => rfl
  · exact fun k j hk hj => by
      match k, hk, j, hj with
      | 0, _, 0, _ => rfl
      | 0, _, 1, _ => rfl
      | 0, _, 2, _ => rfl
      | 0, _, 3, _ => rfl
      | 0, _, 4, _ => rfl
      | 1, _, 0, _ => rfl
      | 1, _, 1, _ => rfl
      | 1, _, 2, _ => rfl
      | 1, _, 3, _ => rfl
      | 1, _, 4, _ => rfl
      | 2, _, 0, _ => rfl
      | 2, _, 1, _ => rfl
      | 2, _, 2, _ => rfl
      | 2, _, 3, _ => rfl
      | 2, _, 4, _ => rfl
  · exact fun k j hk hj => by
      match k, hk, j, hj with
      | 0, _, 0, _ => rfl
      | 0, _, 1, _ => rfl
      | 0, _, 2, _ => rfl
      | 0, _, 3, _ => rfl
set_option maxRecDepth 100000 in
set_option maxHeartbeats 3200000 in
theorem shift_own (w : World) :
    Calls Try.prog 59 #[] w fun e w' => (∃ gr gh, e = .returned (.agg #[.slice (some ⟨gr, 0, none⟩) 2 2, .slice (some ⟨gh, 0, none⟩) 2 2, .int .i64 30, .int .i64 5]) ∧ Blk w' gr 50 #[.int .i64 3, .int .i64 5, .int .i64 8, .int .i64 10] ∧ Blk w' gh 3 #[.int .i64 4, .int .i64 3]) ∧ Below w.heap.size w w' := by
  have N0 := ex_alloc (Below.refl w.heap.size w) (.cells #[.slice none 0 0, .slice none 0 0, .int .i64 0, .int .i64 0] 59)
  have q4 : Blk (w.alloc (.cells #[.slice none 0 0, .slice none 0 0, .int .i64 0, .int .i64 0] 59)) w.heap.size 59 #[.slice none 0 0, .slice none 0 0, .int .i64 0, .int .i64 0] := Blk.new _ _ _
  go_enter Try.func59, Try.ntmps59
  go_upto_region 1 with fail
  obtain ⟨p4, hp4⟩ : ∃ p, w.heap.size = p := ⟨_, rfl⟩
  have HP4 := Lib.hid hp4
  rw [hp4] at q4 ⊢
  generalize w.alloc (.cells #[.slice none 0 0, .slice none 0 0, .int .i64 0, .int .i64 0] 59) = W0 at *
  clear hp4
  go_wp2_with fail
  refine (between_any 3 5 W0).mono ?_
  rintro e W1 ⟨rfl, hW1⟩
  replace q4 := q4.below hW1 q4.lt
  have B_W1 := ex_trans N0 hW1
  go_wp2_with fail
  refine (between_any 8 10 W1).mono ?_
  rintro e W2 ⟨rfl, hW2⟩
  replace q4 := q4.below hW2 q4.lt
  have B_W2 := ex_trans B_W1 hW2
  have N_W3 := ex_alloc (Below.refl W2.heap.size W2) (.cells #[.int .i64 3, .int .i64 5, .int .i64 8, .int .i64 10] 50)
  have qr : Blk (W2.alloc (.cells #[.int .i64 3, .int .i64 5, .int .i64 8, .int .i64 10] 50)) W2.heap.size 50 #[.int .i64 3, .int .i64 5, .int .i64 8, .int .i64 10] := Blk.new _ _ _
  replace q4 := q4.below N_W3 q4.lt
  have B_W3 := ex_trans B_W2 N_W3
  obtain ⟨gqr, hgqr⟩ : ∃ p, W2.heap.size = p := ⟨_, rfl⟩
  have N_X := ex_alloc (Below.refl (W2.alloc (.cells #[.int .i64 3, .int .i64 5, .int .i64 8, .int .i64 10] 50)).heap.size (W2.alloc (.cells #[.int .i64 3, .int .i64 5, .int .i64 8, .int .i64 10] 50))) (.cells #[.int .i64 4, .int .i64 3] 3)
  have qh : Blk ((W2.alloc (.cells #[.int .i64 3, .int .i64 5, .int .i64 8, .int .i64 10] 50)).alloc (.cells #[.int .i64 4, .int .i64 3] 3)) (W2.alloc (.cells #[.int .i64 3, .int .i64 5, .int .i64 8, .int .i64 10] 50)).heap.size 3 #[.int .i64 4, .int .i64 3] := Blk.new _ _ _
  replace q4 := q4.below N_X q4.lt
  replace qr := qr.below N_X qr.lt
  have B_WX := ex_trans B_W3 N_X
  have hsz : (W2.alloc (.cells #[.int .i64 3, .int .i64 5, .int .i64 8, .int .i64 10] 50)).heap.size = gqr + 1 := by simp [hgqr]
  rw [hgqr] at qr
  rw [hsz] at qh
  have c0 : ((W2.alloc (.cells #[.int .i64 3, .int .i64 5, .int .i64 8, .int .i64 10] 50)).alloc (.cells #[.int .i64 4, .int .i64 3] 3)).cell? ⟨p4, 0, none⟩ = some (.slice none 0 0) := q4.cell 0
  have c1 : ((W2.alloc (.cells #[.int .i64 3, .int .i64 5, .int .i64 8, .int .i64 10] 50)).alloc (.cells #[.int .i64 4, .int .i64 3] 3)).cell? ⟨p4, 1, none⟩ = some (.slice none 0 0) := q4.cell 1
  have c2 : ((W2.alloc (.cells #[.int .i64 3, .int .i64 5, .int .i64 8, .int .i64 10] 50)).alloc (.cells #[.int .i64 4, .int .i64 3] 3)).cell? ⟨p4, 2, none⟩ = some (.int .i64 0) := q4.cell 2
  have c3 : ((W2.alloc (.cells #[.int .i64 3, .int .i64 5, .int .i64 8, .int .i64 10] 50)).alloc (.cells #[.int .i64 4, .int .i64 3] 3)).cell? ⟨p4, 3, none⟩ = some (.int .i64 0) := q4.cell 3
  have l4 := q4.lt
  have f4 := q4.frozen0
  have qz := (((q4.set_ 0 (.slice (some ⟨gqr, 0, none⟩) 2 2)).set_ 1 (.slice (some ⟨gqr + 1, 0, none⟩) 2 2)).set_ 2 (.int .i64 30)).set_ 3 (.int .i64 5)
  simp only [List.setIfInBounds_toArray, List.set_cons_zero, List.set_cons_succ] at qz
  have frz : Fr (fun b => b = p4) ((W2.alloc (.cells #[.int .i64 3, .int .i64 5, .int .i64 8, .int .i64 10] 50)).alloc (.cells #[.int .i64 4, .int .i64 3] 3)) ((((((W2.alloc (.cells #[.int .i64 3, .int .i64 5, .int .i64 8, .int .i64 10] 50)).alloc (.cells #[.int .i64 4, .int .i64 3] 3)).setCell ⟨p4, 0, none⟩ (.slice (some ⟨gqr, 0, none⟩) 2 2)).setCell ⟨p4, 1, none⟩ (.slice (some ⟨gqr + 1, 0, none⟩) 2 2)).setCell ⟨p4, 2, none⟩ (.int .i64 30)).setCell ⟨p4, 3, none⟩ (.int .i64 5)) := (((Fr.set (R := fun b => b = p4) _ _ _ _ rfl).trans (Fr.set (R := fun b => b = p4) _ _ _ _ rfl) (fun _ _ h => h)).trans (Fr.set (R := fun b => b = p4) _ _ _ _ rfl) (fun _ _ h => h)).trans (Fr.set (R := fun b => b = p4) _ _ _ _ rfl) (fun _ _ h => h)
  have Bz := frz.toBelow B_WX B_WX.size (fun x hx => by have := HP4.out; omega)
  have rr := qr.fr frz (fun e => blk_ne qr q4 (by decide) e)
  have rh := qh.fr frz (fun e => blk_ne qh q4 (by decide) e)
  go_wp2_with fail
  refine bodyPost_ret (results_cell_row rfl _ _ p4 59 _ (0, 0) _ rfl qz rfl rfl rfl) rfl ?_
  exact ⟨⟨_, _, rfl, rr, rh⟩, Bz⟩
theorem zer_wg {oc : Array Value} (hoc : (∀ k, k < 36 → oc[k]? = some (.int .i64 0))) {w : World} {p : Nat} (h : Blk w p 128 oc) : SlAt w w.heap.size 4 (some ⟨p, 0, none⟩) 9 (fWg manyS.wgs) := blk_sl h (fun k j hk hj => by
  rw [hoc _ (by omega)]
  match k, hk, j, hj with
  | 0, _, 0, _ => rfl
  | 0, _, 1, _ => rfl
  | 0, _, 2, _ => rfl
  | 0, _, 3, _ => rfl
  | 1, _, 0, _ => rfl
  | 1, _, 1, _ => rfl
  | 1, _, 2, _ => rfl
  | 1, _, 3, _ => rfl
  | 2, _, 0, _ => rfl
  | 2, _, 1, _ => rfl
  | 2, _, 2, _ => rfl
  | 2, _, 3, _ => rfl
  | 3, _, 0, _ => rfl
  | 3, _, 1, _ => rfl
  | 3, _, 2, _ => rfl
  | 3, _, 3, _ => rfl
  | 4, _, 0, _ => rfl
  | 4, _, 1, _ => rfl
  | 4, _, 2, _ => rfl
  | 4, _, 3, _ => rfl
  | 5, _, 0, _ => rfl
  | 5, _, 1, _ => rfl
  | 5, _, 2, _ => rfl
  | 5, _, 3, _ => rfl
  | 6, _, 0, _ => rfl
  | 6, _, 1, _ => rfl
  | 6, _, 2, _ => rfl
  | 6, _, 3, _ => rfl
  | 7, _, 0, _ => rfl
  | 7, _, 1, _ => rfl
  | 7, _, 2, _ => rfl
  | 7, _, 3, _ => rfl
  | 8, _, 0, _ => rfl
  | 8, _, 1, _ => rfl
  | 8, _, 2, _ => rfl
  | 8, _, 3, _ => rfl)
theorem zer_r1 {oc : Array Value} (hoc : (∀ k, k < 2 → oc[k]? = some (.int .i64 0))) {w : World} {p : Nat} (h : Blk w p 50 oc) : SlAt w w.heap.size 2 (some ⟨p, 0, none⟩) 1 (fR freeT.rates) := blk_sl h (fun k j hk hj => by
  rw [hoc _ (by omega)]
  match k, hk, j, hj with
  | 0, _, 0, _ => rfl
  | 0, _, 1, _ => rfl)
theorem zer_r4 {oc : Array Value} (hoc : (∀ k, k < 8 → oc[k]? = some (.int .i64 0))) {w : World} {p : Nat} (h : Blk w p 50 oc) : SlAt w w.heap.size 2 (some ⟨p, 0, none⟩) 4 (fR (List.replicate 4 ⟨0, 0⟩)) := blk_sl h (fun k j hk hj => by
  rw [hoc _ (by omega)]
  match k, hk, j, hj with
  | 0, _, 0, _ => rfl
  | 0, _, 1, _ => rfl
  | 1, _, 0, _ => rfl
  | 1, _, 1, _ => rfl
  | 2, _, 0, _ => rfl
  | 2, _, 1, _ => rfl
  | 3, _, 0, _ => rfl
  | 3, _, 1, _ => rfl)
theorem nmw_info : (Try.prog.info? 128).map (fun i => (i.zero, i.size, i.bytes)) = some (some (.agg #[.int .i64 0, .int .i64 0, .int .i64 0, .int .i64 0]), 4, 32) := by kernel_rfl
theorem nmr_info : (Try.prog.info? 50).map (fun i => (i.zero, i.size, i.bytes)) = some (some (.agg #[.int .i64 0, .int .i64 0]), 2, 16) := by kernel_rfl
theorem make_wg : ∃ oc : Array Value, (∀ k, k < 36 → oc[k]? = some (.int .i64 0)) ∧ ∀ W : World, (Instr.makeSlice 40 (.int .i64 9) (.int .i64 9)).run Try.prog W = .ok (.slice (some ⟨W.heap.size, 0, none⟩) 9 9) (W.alloc (.cells oc 128)) := by
  obtain ⟨i0, hi0, hz0, hz1, hz2⟩ := info_parts nmw_info
  refine ⟨_, ?_, fun W => by
    have := run_makeSlice (P := Try.prog) (w := W) 40 128 i0 _ Try.underlying40 hi0 hz0 .i64 .i64 9 9 (by omega) (by omega) (by rw [hz1]; decide) (by rw [hz2]; decide) (by decide)
    rw [hz1] at this
    exact this⟩
  intro k hk
  have : k % 4 = 0 ∨ k % 4 = 1 ∨ k % 4 = 2 ∨ k % 4 = 3 := by omega
  simp only [madeCells]
  rcases this with h | h | h | h
  · simp [hk]
    show (#[.int .i64 0, .int .i64 0, .int .i64 0, .int .i64 0] : Array Value)[k % 4]! = _
    rw [h]; rfl
  · simp [hk]
    show (#[.int .i64 0, .int .i64 0, .int .i64 0, .int .i64 0] : Array Value)[k % 4]! = _
    rw [h]; rfl
  · simp [hk]
    show (#[.int .i64 0, .int .i64 0, .int .i64 0, .int .i64 0] : Array Value)[k % 4]! = _
    rw [h]; rfl
  · simp [hk]
    show (#[.int .i64 0, .int .i64 0, .int .i64 0, .int .i64 0] : Array Value)[k % 4]! = _
    rw [h]; rfl
theorem make_r1 : ∃ oc : Array Value, (∀ k, k < 2 → oc[k]? = some (.int .i64 0)) ∧ ∀ W : World, (Instr.makeSlice 48 (.int .i64 1) (.int .i64 1)).run Try.prog W = .ok (.slice (some ⟨W.heap.size, 0, none⟩) 1 1) (W.alloc (.cells oc 50)) := by
  obtain ⟨i0, hi0, hz0, hz1, hz2⟩ := info_parts nmr_info
  refine ⟨_, ?_, fun W => by
    have := run_makeSlice (P := Try.prog) (w := W) 48 50 i0 _ Try.underlying48 hi0 hz0 .i64 .i64 1 1 (by omega) (by omega) (by rw [hz1]; decide) (by rw [hz2]; decide) (by decide)
    rw [hz1] at this
    exact this⟩
  intro k hk
  have : k % 2 = 0 ∨ k % 2 = 1 := by omega
  simp only [madeCells]
  rcases this with h | h
  · simp [hk]
    show (#[.int .i64 0, .int .i64 0] : Array Value)[k % 2]! = _
    rw [h]; rfl
  · simp [hk]
    show (#[.int .i64 0, .int .i64 0] : Array Value)[k % 2]! = _
    rw [h]; rfl
theorem make_r4 : ∃ oc : Array Value, (∀ k, k < 8 → oc[k]? = some (.int .i64 0)) ∧ ∀ W : World, (Instr.makeSlice 48 (.int .i64 4) (.int .i64 4)).run Try.prog W = .ok (.slice (some ⟨W.heap.size, 0, none⟩) 4 4) (W.alloc (.cells oc 50)) := by
  obtain ⟨i0, hi0, hz0, hz1, hz2⟩ := info_parts nmr_info
  refine ⟨_, ?_, fun W => by
    have := run_makeSlice (P := Try.prog) (w := W) 48 50 i0 _ Try.underlying48 hi0 hz0 .i64 .i64 4 4 (by omega) (by omega) (by rw [hz1]; decide) (by rw [hz2]; decide) (by decide)
    rw [hz1] at this
    exact this⟩
  intro k hk
  have : k % 2 = 0 ∨ k % 2 = 1 := by omega
  simp only [madeCells]
  rcases this with h | h
  · simp [hk]
    show (#[.int .i64 0, .int .i64 0] : Array Value)[k % 2]! = _
    rw [h]; rfl
  · simp [hk]
    show (#[.int .i64 0, .int .i64 0] : Array Value)[k % 2]! = _
    rw [h]; rfl
theorem tired_in {W : World} {gr gh : Nat} (h1 : Blk W gr 50 #[.int .i64 3, .int .i64 5, .int .i64 8, .int .i64 10]) (h2 : Blk W gh 3 #[.int .i64 4, .int .i64 3]) : TmIn W W.heap.size tiredT (some ⟨gr, 0, none⟩) (some ⟨gh, 0, none⟩) := by
  refine ⟨blk_sl h1 ?_, blk_sl h2 ?_⟩
  · exact fun k j hk hj => by
      match k, hk, j, hj with
      | 0, _, 0, _ => rfl
      | 0, _, 1, _ => rfl
      | 1, _, 0, _ => rfl
      | 1, _, 1, _ => rfl
  · exact fun k j hk hj => by
      match k, hk, j, hj with
      | 0, _, 0, _ => rfl
      | 1, _, 0, _ => rfl
theorem bad_in {W : World} {gr gh : Nat} (h1 : Blk W gr 50 #[.int .i64 3, .int .i64 5, .int .i64 8, .int .i64 10]) (h2 : Blk W gh 3 #[.int .i64 4]) : TmIn W W.heap.size badT (some ⟨gr, 0, none⟩) (some ⟨gh, 0, none⟩) := by
  refine ⟨blk_sl h1 ?_, blk_sl h2 ?_⟩
  · exact fun k j hk hj => by
      match k, hk, j, hj with
      | 0, _, 0, _ => rfl
      | 0, _, 1, _ => rfl
      | 1, _, 0, _ => rfl
      | 1, _, 1, _ => rfl
  · exact fun k j hk hj => by
      match k, hk, j, hj with
      | 0, _, 0, _ => rfl
theorem free_in {W : World} {gh : Nat} (h2 : Blk W gh 3 #[.int .i64 0]) : SlAt W W.heap.size 1 (some ⟨gh, 0, none⟩) freeT.hours.length (fI freeT.hours) := by
  refine blk_sl h2 ?_
  exact fun k j hk hj => by
      match k, hk, j, hj with
      | 0, _, 0, _ => rfl
end Go.Proofs.Ythihdiilokdidaa
end

section
namespace Go.Proofs.Ythihdiilokdidaa
open Go.RowKit
attribute [local go_sem] Ex.cell? Ex.frozen?

theorem sq_play (Ar Am Aw : Option Addr) (cr cm cw : Nat) (Af Av Ag : Option Addr) (cf cv cg : Nat) (rV : Nat → Option Addr) (rcV : Nat → Nat) (w : World) (hs : WsIn w w.heap.size (cellS 22 24) Ar Am Aw) (ht : TtIn w w.heap.size (namT 21) Af Av Ag rV rcV) (hm : SmT (namT 21)) : Calls Try.prog 51 #[.agg #[.slice Ar 2 cr, .int .i64 3, .slice Am 3 cm, .slice Aw 1 cw], .agg #[.slice Af 2 cf, .slice Av 2 cv, .slice Ag 3 cg]] w fun e w' => (∃ n A c, e = .returned (.tuple #[.slice A n c, .bool false, .int .i64 2])) ∧ Below w.heap.size w w' := by
 refine (play_any (cellS 22 24) Ar Am Aw cr cm cw w hs (namT 21) Af Av Ag cf cv cg rV rcV ht hm ⟨by show 2 ≤ _; omega, by show 3 ≤ _; omega⟩).mono ?_
 rintro e w' ⟨⟨n, A, c, rA, rc, rfl, _⟩, h⟩
 rw [nam_bad, nam_badB]
 exact ⟨⟨n, A, c, rfl⟩, h⟩
theorem sq_lost (Ar Am Aw : Option Addr) (cr cm cw : Nat) (Af Ag : Option Addr) (cf cg : Nat) (w : World) (hs : WsIn w w.heap.size (cellS 22 24) Ar Am Aw) (hf : SlAt w w.heap.size 1 Af 2 (fI namB.fs)) (hb : SlAt w w.heap.size 1 Ag 3 (fI namB.gs))  : Calls Try.prog 45 #[.agg #[.slice Ar 2 cr, .int .i64 3, .slice Am 3 cm, .slice Aw 1 cw], .agg #[.slice Af 2 cf, .slice Ag 3 cg]] w fun e w' => e = .returned (.tuple #[.int .i64 0, .int .i64 0, .int .i64 7]) ∧ Below w.heap.size w w' := by
 refine (Lost_any (cellS 22 24) Ar Am Aw cr cm cw w hs namB Af Ag cf cg hf hb ⟨by show 2 ≤ _; omega, by show 3 ≤ _; omega⟩ ⟨by show 2 ≤ _; omega, by show 3 ≤ _; omega⟩).mono ?_
 rintro e w' ⟨rfl, h⟩
 rw [nam_los.1, nam_los.2]
 exact ⟨rfl, h⟩
theorem sq_out (Ar Am Aw : Option Addr) (cr cm cw : Nat) (Af Ag : Option Addr) (cf cg : Nat) (w : World) (hs : WsIn w w.heap.size (cellS 22 24) Ar Am Aw) (hf : SlAt w w.heap.size 1 Af 2 (fI namB.fs)) (hb : SlAt w w.heap.size 1 Ag 3 (fI namB.gs))  : Calls Try.prog 43 #[.agg #[.slice Ar 2 cr, .int .i64 3, .slice Am 3 cm, .slice Aw 1 cw], .agg #[.slice Af 2 cf, .slice Ag 3 cg], .int .i64 2, .int .i64 1] w fun e w' => (∃ a b, e = .returned (.tuple #[.agg #[.int .i64 a, .int .i64 b], .int .i64 2])) ∧ Below w.heap.size w w' := by
 refine (Missing_any (cellS 22 24) Ar Am Aw cr cm cw w hs namB Af Ag cf cg hf hb ⟨by show 2 ≤ _; omega, by show 3 ≤ _; omega⟩ ⟨by show 2 ≤ _; omega, by show 3 ≤ _; omega⟩ 2 1).mono ?_
 rintro e w' ⟨rfl, h⟩
 rw [nam_out]
 exact ⟨⟨_, _, rfl⟩, h⟩
theorem sq_none (Ar Am Aw : Option Addr) (cr cm cw : Nat) (w : World) (hs : WsIn w w.heap.size (cellS 22 24) Ar Am Aw)  : Calls Try.prog 43 #[.agg #[.slice Ar 2 cr, .int .i64 3, .slice Am 3 cm, .slice Aw 1 cw], .agg #[.slice none 0 0, .slice none 0 0], .int .i64 2, .int .i64 1] w fun e w' => (∃ a b, e = .returned (.tuple #[.agg #[.int .i64 a, .int .i64 b], .int .i64 2])) ∧ Below w.heap.size w w' := by
 refine (Missing_any (cellS 22 24) Ar Am Aw cr cm cw w hs ⟨[], []⟩ none none 0 0 (fun h => absurd h (by simp)) (fun h => absurd h (by simp)) ⟨by show 2 ≤ _; omega, by show 3 ≤ _; omega⟩ ⟨by show 0 ≤ _; omega, by show 0 ≤ _; omega⟩ 2 1).mono ?_
 rintro e w' ⟨rfl, h⟩
 rw [nam_none]
 exact ⟨⟨_, _, rfl⟩, h⟩
theorem sq_late (Ar Am Aw : Option Addr) (cr cm cw : Nat) (Af Ag : Option Addr) (cf cg : Nat) (w : World) (hs : WsIn w w.heap.size (cellS 35 40) Ar Am Aw) (hf : SlAt w w.heap.size 1 Af 2 (fI namB.fs)) (hb : SlAt w w.heap.size 1 Ag 3 (fI namB.gs))  : Calls Try.prog 43 #[.agg #[.slice Ar 2 cr, .int .i64 3, .slice Am 3 cm, .slice Aw 1 cw], .agg #[.slice Af 2 cf, .slice Ag 3 cg], .int .i64 0, .int .i64 3] w fun e w' => (∃ a b, e = .returned (.tuple #[.agg #[.int .i64 a, .int .i64 b], .int .i64 2])) ∧ Below w.heap.size w w' := by
 refine (Missing_any (cellS 35 40) Ar Am Aw cr cm cw w hs namB Af Ag cf cg hf hb ⟨by show 2 ≤ _; omega, by show 3 ≤ _; omega⟩ ⟨by show 2 ≤ _; omega, by show 3 ≤ _; omega⟩ 0 3).mono ?_
 rintro e w' ⟨rfl, h⟩
 rw [nam_late]
 exact ⟨⟨_, _, rfl⟩, h⟩
theorem sq_stocks (Ar Am Aw : Option Addr) (cr cm cw : Nat) (w : World) (hs : WsIn w w.heap.size (cellS 35 40) Ar Am Aw) : Calls Try.prog 18 #[.agg #[.slice Ar 2 cr, .int .i64 3, .slice Am 3 cm, .slice Aw 1 cw]] w fun e w' => (∃ n A c, e = .returned (.tuple #[.slice A n c, .int .i64 9])) ∧ Below w.heap.size w w' := by
 refine (Stocks_any (cellS 35 40) Ar Am Aw cr cm cw w hs).mono ?_
 rintro e w' ⟨⟨n, A, c, rA, rc, rfl, _⟩, h⟩
 rw [nam_stE]
 exact ⟨⟨n, A, c, rfl⟩, h⟩
theorem sq_blame (Ar Am Aw : Option Addr) (cr cm cw : Nat) (w : World) (hs : WsIn w w.heap.size (cellS 22 24) Ar Am Aw) : Calls Try.prog 38 #[.agg #[.slice Ar 2 cr, .int .i64 3, .slice Am 3 cm, .slice Aw 1 cw]] w fun e w' => (∃ a, e = .returned (.tuple #[.int .i64 a, .int .i64 7])) ∧ Below w.heap.size w w' := by
 refine (Blame_any (cellS 22 24) Ar Am Aw cr cm cw w hs).mono ?_
 rintro e w' ⟨rfl, h⟩
 rw [nam_blame0]
 exact ⟨⟨_, rfl⟩, h⟩
theorem sq_dry (Ar Am Aw : Option Addr) (cr cm cw : Nat) (w : World) (hs : WsIn w w.heap.size dryS Ar Am Aw) : Calls Try.prog 33 #[.agg #[.slice Ar 2 cr, .int .i64 3, .slice Am 3 cm, .slice Aw 1 cw]] w fun e w' => (∃ A n c, e = .returned (.tuple #[.slice A n c, .int .i64 9])) ∧ Below w.heap.size w w' := by
 refine (Fewest_any dryS Ar Am Aw cr cm cw w hs).mono ?_
 rintro e w' ⟨⟨A, c, rfl, _⟩, h⟩
 rw [dry_few]
 exact ⟨⟨A, _, c, rfl⟩, h⟩
theorem sq_wild (Ar Am Aw : Option Addr) (cr cm cw : Nat) (w : World) (hs : WsIn w w.heap.size wildS Ar Am Aw) : Calls Try.prog 50 #[.agg #[.slice Ar 2 cr, .int .i64 3, .slice Am 3 cm, .slice Aw 1 cw]] w fun e w' => e = .returned (.int .i64 1) ∧ Below w.heap.size w w' := by
 refine (check_any wildS Ar Am Aw cr cm cw w hs).mono ?_
 rintro e w' ⟨rfl, h⟩
 rw [wild_ck]
 exact ⟨rfl, h⟩
theorem sq_many (Ar Am Aw : Option Addr) (cr cm cw : Nat) (w : World) (hs : WsIn w w.heap.size manyS Ar Am Aw) : Calls Try.prog 50 #[.agg #[.slice Ar 2 cr, .int .i64 3, .slice Am 3 cm, .slice Aw 9 cw]] w fun e w' => e = .returned (.int .i64 3) ∧ Below w.heap.size w w' := by
 refine (check_any manyS Ar Am Aw cr cm cw w hs).mono ?_
 rintro e w' ⟨rfl, h⟩
 rw [many_ck]
 exact ⟨rfl, h⟩
theorem sq_noroom (Ar Am Aw : Option Addr) (cr cm cw : Nat) (w : World) (hs : WsIn w w.heap.size noneS Ar Am Aw) : Calls Try.prog 50 #[.agg #[.slice Ar 0 cr, .int .i64 3, .slice Am 3 cm, .slice Aw 1 cw]] w fun e w' => e = .returned (.int .i64 1) ∧ Below w.heap.size w w' := by
 refine (check_any noneS Ar Am Aw cr cm cw w hs).mono ?_
 rintro e w' ⟨rfl, h⟩
 rw [none_ck]
 exact ⟨rfl, h⟩
theorem sq_nothing (Ar Am Aw : Option Addr) (cr cm cw : Nat) (w : World) (hs : WsIn w w.heap.size ⟨[], 0, [], []⟩ Ar Am Aw) : Calls Try.prog 50 #[.agg #[.slice Ar 0 cr, .int .i64 0, .slice Am 0 cm, .slice Aw 0 cw]] w fun e w' => e = .returned (.int .i64 1) ∧ Below w.heap.size w w' := by
 refine (check_any ⟨[], 0, [], []⟩ Ar Am Aw cr cm cw w hs).mono ?_
 rintro e w' ⟨rfl, h⟩
 rw [zero_ck]
 exact ⟨rfl, h⟩
theorem sq_bad (Ar Ah : Option Addr) (cr ch : Nat) (w : World) (ht : TmIn w w.heap.size badT Ar Ah) : Calls Try.prog 24 #[.agg #[.slice Ar 2 cr, .slice Ah 1 ch, .int .i64 30, .int .i64 5]] w fun e w' => e = .returned (.int .i64 1) ∧ Below w.heap.size w w' := by
 refine (checkTm_any badT Ar Ah cr ch w ht ⟨by show 2 ≤ _; omega, by show 1 ≤ _; omega⟩).mono ?_
 rintro e w' ⟨rfl, h⟩
 rw [bad_ck]
 exact ⟨rfl, h⟩
theorem sq_nil (Ar Ah : Option Addr) (cr ch : Nat) (w : World) (ht : TmIn w w.heap.size ⟨[], [], 0, 0⟩ Ar Ah) : Calls Try.prog 24 #[.agg #[.slice Ar 0 cr, .slice Ah 0 ch, .int .i64 0, .int .i64 0]] w fun e w' => e = .returned (.int .i64 1) ∧ Below w.heap.size w w' := by
 refine (checkTm_any ⟨[], [], 0, 0⟩ Ar Ah cr ch w ht ⟨by show 0 ≤ _; omega, by show 0 ≤ _; omega⟩).mono ?_
 rintro e w' ⟨rfl, h⟩
 rw [nil_ck]
 exact ⟨rfl, h⟩
theorem sq_four (Ar Ah : Option Addr) (cr ch : Nat) (w : World) (ht : TmIn w w.heap.size ⟨List.replicate 4 ⟨0, 0⟩, [], 0, 0⟩ Ar Ah) : Calls Try.prog 24 #[.agg #[.slice Ar 4 cr, .slice Ah 0 ch, .int .i64 0, .int .i64 0]] w fun e w' => e = .returned (.int .i64 3) ∧ Below w.heap.size w w' := by
 refine (checkTm_any ⟨List.replicate 4 ⟨0, 0⟩, [], 0, 0⟩ Ar Ah cr ch w ht ⟨by show 4 ≤ _; omega, by show 0 ≤ _; omega⟩).mono ?_
 rintro e w' ⟨rfl, h⟩
 rw [four_ck]
 exact ⟨rfl, h⟩
theorem sq_tired (Ar Ah : Option Addr) (cr ch : Nat) (w : World) (ht : TmIn w w.heap.size tiredT Ar Ah) : Calls Try.prog 26 #[.agg #[.slice Ar 2 cr, .slice Ah 2 ch, .int .i64 9, .int .i64 5]] w fun e w' => (∃ A n c, e = .returned (.tuple #[.slice A n c, .int .i64 10])) ∧ Below w.heap.size w w' := by
 refine (Roster_any tiredT Ar Ah cr ch w ht ⟨by show 2 ≤ _; omega, by show 2 ≤ _; omega⟩).mono ?_
 rintro e w' ⟨⟨A, n, c, rfl, _⟩, h⟩
 rw [tired_roE]
 exact ⟨⟨A, n, c, rfl⟩, h⟩
theorem sq_free (Ar Ah : Option Addr) (cr ch : Nat) (w : World) (ht : TmIn w w.heap.size freeT Ar Ah) : Calls Try.prog 26 #[.agg #[.slice Ar 1 cr, .slice Ah 1 ch, .int .i64 0, .int .i64 0]] w fun e w' => (∃ A c, e = .returned (.tuple #[.slice A 0 c, .int .i64 0])) ∧ Below w.heap.size w w' := by
 refine (Roster_any freeT Ar Ah cr ch w ht ⟨by show 1 ≤ _; omega, by show 1 ≤ _; omega⟩).mono ?_
 rintro e w' ⟨⟨A, n, c, rfl, hy, _⟩, h⟩
 obtain ⟨Ls, rA, rc, e1, e2, _⟩ := hy free_roE
 rw [free_few] at e2
 have hn : n = 0 := e2
 subst hn
 rw [free_roE]
 exact ⟨⟨A, c, rfl⟩, h⟩
end Go.Proofs.Ythihdiilokdidaa
end

section
namespace Go.Proofs.Ythihdiilokdidaa
open Go.RowKit
theorem SlAt.go {w w' : World} {sz n : Nat} {A : Option Addr} {f : Nat → Nat → Value} (h : SlAt w w.heap.size sz A n f) (hb : Below w.heap.size w w') : SlAt w' w'.heap.size sz A n f := (h.below hb).up hb.size
theorem box4 {w : World} {K : World → Prop} {C1 C2 C3 C4 : Array Value} {T1 T2 T3 T4 : TypeId} (h : ∀ V, Below w.heap.size w V → Blk V w.heap.size T1 C1 → Blk V (w.heap.size + 1) T2 C2 → Blk V (w.heap.size + 1 + 1) T3 C3 → Blk V (w.heap.size + 1 + 1 + 1) T4 C4 → K V) : K ((((w.alloc (.cells C1 T1)).alloc (.cells C2 T2)).alloc (.cells C3 T3)).alloc (.cells C4 T4)) :=
 h _ (ex_alloc (ex_alloc (ex_alloc (ex_alloc (Below.refl _ _) _) _) _) _) ((((Blk.new _ _ _).alloc _).alloc _).alloc _) (((Blk.new' _ _ _ (by simp)).alloc _).alloc _) ((Blk.new' _ _ _ (by simp)).alloc _) (Blk.new' _ _ _ (by simp))
theorem Blk.ex {w : World} {g : Nat} {t : TypeId} {cs : Array Value} (h : Blk w g t cs) : ∀ w', (∃ x : Ex w, w' = x.W) → w'.heap[g]? = some (.cells cs t (0, 0)) := by
 rintro w' ⟨x, rfl⟩
 exact h.below x.h h.lt
def isStoreTo (ty : TypeId) : Op → Bool
 | .store t _ _ => t == ty
 | _ => false
theorem wpList_load_rowG {P : Program} {ops : Array Oper} {rest : List Oper} {o : Oper} {a : Act} {w : World} {Q : Exit → Act → World → Prop} (hw : Region.wanted o (yielded ops a.tmps) = true) (ty : TypeId) (x : Operand) (ho : o.op = .load ty x)
  (g : Nat) (hx : a.eval x = .pointer (some ⟨g, 0, none⟩)) (t : TypeId) (cs : Array Value) (fr : Nat × Nat) (d : TypeDesc) (hg : w.heap[g]? = some (.cells cs t fr))
  (hu : P.underlying ty = some d) (hd : (match d with | .struct _ | .array _ _ => true | _ => false) = true) (hi : (P.info? ty).map (·.size) = some cs.size)
  (h : wpList P ops Q rest (a.put o.dst (.agg cs)) w) : wpList P ops Q (o :: rest) a w := by
 unfold wpList
 rw [if_pos hw]
 exact .inl (wp_load_row ty x ho g hx t cs fr d hg hu hd hi h)
theorem Blk.setRow {w : World} {g : Nat} {t : TypeId} {cs : Array Value} (h : Blk w g t cs) (new : Array Value) : Blk (w.setRow g new) g t new := setRow_heap w g cs new t (0, 0) h
theorem Fr.row {R : Nat → Prop} {a w : World} (h : Fr R a w) {g : Nat} (hg : R g) (new : Array Value) : Fr R a (w.setRow g new) := h.trans ⟨setRow_os _ _ _, setRow_tape _ _ _, setRow_output _ _ _, by simp, fun k _ hn => setRow_other w g k new (fun e => hn (e ▸ hg))⟩ (fun _ _ h => h)
end Go.Proofs.Ythihdiilokdidaa
end

section
namespace Go.Proofs.Ythihdiilokdidaa
open Go.RowKit
section
variable {P : Program} {ops : Array Oper} {S : World → Prop} {Q : Exit → Act → World → Prop}
def partsF (ops : Array Oper) (n : Nat) (t2 : Tq) : Nat → List (Tq × Nat) → Bool
  | m0, [] => tqF .any ops (masks .any ops) n (seqF (masks .any ops) (ops.size - n) n) t2 (1 <<< m0 - 1)
  | m0, (t, m) :: r => tqF .any ops (masks .any ops) n (fun M => M == 1 <<< m - 1) t (1 <<< m0 - 1) && decide (m ≤ ops.size) && partsF ops n t2 m r
def lenP : List (Tq × Nat) → Nat
  | [] => 0
  | (t, _) :: r => t.len + lenP r
def wqPart (P : Program) (l : List Oper) (Q : Exit → Act → World → Prop) (S : World → Prop) (T : Act → World → Prop) (t : Tq) (a : Act) (w : World) : Prop := wqTr P l.toArray Q S T t a w
def wqParts (P : Program) (l : List Oper) (Q : Exit → Act → World → Prop) (S : World → Prop) (n : Nat) (t2 : Tq) : List (Tq × Nat) → List (Act → World → Prop) → Act → World → Prop
  | [], _ => fun a w => wqTree P l Q S n t2 a w
  | _ :: _, [] => fun _ _ => False
  | (t, _) :: r, R :: Rs => fun a w => wqPart P l Q S R t a w ∧ ∀ a' w', S w' → R a' w' → wqParts P l Q S n t2 r Rs a' w'
theorem parts_step {l : List Oper} {n m : Nat} {t2 t : Tq} {r : List (Tq × Nat)} {R : Act → World → Prop} {Rs : List (Act → World → Prop)} {a : Act} {w : World} (h1 : wqPart P l Q S R t a w) (h2 : ∀ a' w', S w' → R a' w' → wqParts P l Q S n t2 r Rs a' w') : wqParts P l Q S n t2 ((t, m) :: r) (R :: Rs) a w := ⟨h1, h2⟩
theorem parts_last {l : List Oper} {n : Nat} {t2 : Tq} {Rs : List (Act → World → Prop)} {a : Act} {w : World} (h : wqTree P l Q S n t2 a w) : wqParts P l Q S n t2 [] Rs a w := h
theorem tp_done {l : List Oper} {T : Act → World → Prop} {a : Act} {w : World} (h : T a w) : wqPart P l Q S T .done a w := h
theorem tp_loud {l : List Oper} {k : Nat} {T : Act → World → Prop} {t : Tq} {o : Oper} {a : Act} {w : World} (ho : l[k]? = some o)
    (h : wpList P l.toArray (fun e a' w' => match e with | .normal => S w' ∧ wqPart P l Q S T t a' w' | e => Q e a' w') [o] a w) : wqPart P l Q S T (.loud k t) a w := by
  show wpOne P l.toArray Q k _ a w
  intro o' ho'
  have : o' = o := by rw [List.getElem?_toArray, ho] at ho'; exact (Option.some.inj ho').symm
  subst this
  exact h
theorem tp_quiet {l : List Oper} {k : Nat} {T : Act → World → Prop} {t : Tq} {o : Oper} {a : Act} {w : World} (ho : l[k]? = some o)
    (h : wpQuiet P l.toArray S (fun a' => wqPart P l Q S T t a' w) [o] a) : wqPart P l Q S T (.quiet k t) a w := by
  intro o' ho'
  have : o' = o := by rw [List.getElem?_toArray, ho] at ho'; exact (Option.some.inj ho').symm
  subst this
  exact h
theorem tp_fork {l : List Oper} {i j : Nat} {T : Act → World → Prop} {t u : Tq} {oi oj : Oper} {a : Act} {w : World} (hi : l[i]? = some oi) (hj : l[j]? = some oj)
    (h1 : wpList P l.toArray (fun e a' w' => match e with | .normal => S w' ∧ wqPart P l Q S T t a' w' | e => Q e a' w') [oi] a w)
    (h2 : wpList P l.toArray (fun e a' w' => match e with | .normal => S w' ∧ wqPart P l Q S T u a' w' | e => Q e a' w') [oj] a w) : wqPart P l Q S T (.fork i t j u) a w := by
  refine ⟨fun o' ho' => ?_, fun o' ho' => ?_⟩
  · have : o' = oi := by rw [List.getElem?_toArray, hi] at ho'; exact (Option.some.inj ho').symm
    subst this
    exact h1
  · have : o' = oj := by rw [List.getElem?_toArray, hj] at ho'; exact (Option.some.inj ho').symm
    subst this
    exact h2
theorem tp_fork3 {l : List Oper} {i j k : Nat} {T : Act → World → Prop} {t u v : Tq} {oi oj ok : Oper} {a : Act} {w : World} (hi : l[i]? = some oi) (hj : l[j]? = some oj) (hk : l[k]? = some ok)
    (h1 : wpList P l.toArray (fun e a' w' => match e with | .normal => S w' ∧ wqPart P l Q S T t a' w' | e => Q e a' w') [oi] a w)
    (h2 : wpList P l.toArray (fun e a' w' => match e with | .normal => S w' ∧ wqPart P l Q S T u a' w' | e => Q e a' w') [oj] a w)
    (h3 : wpList P l.toArray (fun e a' w' => match e with | .normal => S w' ∧ wqPart P l Q S T v a' w' | e => Q e a' w') [ok] a w) : wqPart P l Q S T (.fork3 i t j u k v) a w := by
  refine ⟨fun o' ho' => ?_, fun o' ho' => ?_, fun o' ho' => ?_⟩
  · have : o' = oi := by rw [List.getElem?_toArray, hi] at ho'; exact (Option.some.inj ho').symm
    subst this
    exact h1
  · have : o' = oj := by rw [List.getElem?_toArray, hj] at ho'; exact (Option.some.inj ho').symm
    subst this
    exact h2
  · have : o' = ok := by rw [List.getElem?_toArray, hk] at ho'; exact (Option.some.inj ho').symm
    subst this
    exact h3
theorem parts_head {l : List Oper} {n : Nat} {t2 : Tq} (hsel : Region.noSelect l.toArray = true) (hn : n < l.toArray.size) (hs : Region.sinkB .any l.toArray n = true) (hc : Region.chainB .any l.toArray n = true) (hQ : ∀ d v c a w, Q (.panic c) (a.put d v) w → Q (.panic c) a w) :
    ∀ (r : List (Tq × Nat)) (Rs : List (Act → World → Prop)) (m0 : Nat) (listed : Array Bool) (a : Act) (w : World), RepB listed l.toArray.size (1 <<< m0 - 1) → HeadInv .any l.toArray n listed → partsF l.toArray n t2 m0 r = true → S w → wqParts P l Q S n t2 r Rs a w →
      wpAnyLH P .any l.toArray Q S n (fun listed' a' w' => Region.seqB .any l.toArray (l.toArray.size - n) n listed' = true ∧ wpList P l.toArray Q (l.drop n) a' w') (lenP r + t2.len) listed a w
  | [], _, m0, listed, a, w, hr, inv, hB, hS, h => by
    rw [show lenP [] + t2.len = t2.len from by simp [lenP]]
    exact tq_head (md := .any) (g := l.toArray.size - n) (T := fun a'' w'' => wpList P l.toArray Q (l.drop n) a'' w'') hsel hQ hs hc hn t2 _ a w inv (tq_F (by omega) t2 _ hr hB) hS h
  | (t, m) :: r, [], m0, listed, a, w, hr, inv, hB, hS, h => h.elim
  | (t, m) :: r, R :: Rs, m0, listed, a, w, hr, inv, hB, hS, h => by
    simp only [partsF, Bool.and_eq_true, decide_eq_true_eq] at hB
    obtain ⟨⟨hB1, hm⟩, hB2⟩ := hB
    rw [show lenP ((t, m) :: r) + t2.len = t.len + (lenP r + t2.len) from by simp [lenP]; omega]
    exact tqc_head (md := .any) (m := lenP r + t2.len) (L := (List.replicate m true ++ List.replicate (l.toArray.size - m) false).toArray) (T := R) hsel hQ hs hc hn (fun listed' a' w' hL => seqB_ready hL.1)
      (fun a' w' hS' inv' h' => parts_head hsel hn hs hc hQ r Rs m _ a' w' (repLow hm) inv' hB2 hS' (h.2 a' w' hS' h')) t _ a w inv (tqc_F (by omega) (repLow hm) t _ hr hB1) hS h.1
theorem wp_region_ext_parts {id : Nat} {a : Act} {w : World} {l : List Oper} (n : Nat) (r : List (Tq × Nat)) (t2 : Tq) (Rs : List (Act → World → Prop)) (hm : P.follows .mixedOrders = true)
    (hB : (Region.noSelect l.toArray && decide (n < l.toArray.size) && Region.sinkB .any l.toArray n && Region.chainB .any l.toArray n && partsF l.toArray n t2 0 r && decide (lenP r + t2.len = n)) = true) (hQ : ∀ d v c a w, Q (.panic c) (a.put d v) w → Q (.panic c) a w)
    (h : wqParts P l Q (fun w' => ∃ x : Ex w, w' = x.W) n t2 r Rs a w.drew) : (Code.region id l.toArray true).wp P Q a w := by
  simp only [Bool.and_eq_true, decide_eq_true_eq] at hB
  obtain ⟨⟨⟨⟨⟨hsel, hn⟩, hs⟩, hc⟩, hlex⟩, hlen⟩ := hB
  have hdl : (l.drop n).length = l.toArray.size - n := by simp
  have inv0 : HeadInv .any l.toArray n (Array.replicate l.toArray.size false) :=
    ⟨by simp, fun j oj _ hl => (by rw [getD_replicate_false] at hl; cases hl), fun t _ ht => getD_in (by simpa using ht) (getD_replicate_false _ _)⟩
  have H := parts_head (S := fun w' => ∃ x : Ex w, w' = x.W) hsel hn hs hc hQ r Rs 0 _ a w.drew (RepB.start _) inv0 hlex (inEx (Below.refl w.heap.size w).drew) h
  refine wp_region_any hm ?_
  have := wpAny_of_headH (g := l.toArray.size - n) (fun listed' a' w' hL => by
    have := wpAny_of_seq (md := .any) (l.drop n) n listed' a' w' (fun j => by simp [List.getElem?_drop]) (by rw [hdl]; exact hL.1) hL.2
    rwa [hdl] at this) _ _ _ _ H
  rw [hlen, show n + (l.toArray.size - n) = l.toArray.size by omega] at this
  exact this
end
end Go.Proofs.Ythihdiilokdidaa
end
