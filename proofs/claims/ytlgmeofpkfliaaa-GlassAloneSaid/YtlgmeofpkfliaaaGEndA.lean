/- The law's ended (walk): the truth of the ends. · The law's ended (walk), the least zeros. -/
import Derived.Test.YtlgmeofpkfliaaaGj
import Derived.Test.YtlgmeofpkfliaaaGi
import Derived.Test.YtlgmeofpkfliaaaGh
import Derived.Test.YtlgmeofpkfliaaaGMemory
set_option linter.unusedVariables false
set_option linter.unusedSimpArgs false
set_option linter.unusedSectionVars false
section
namespace Go.Proofs.Ytlgmeofpkfliaaa
open Go.RowKit

/-- worlds in which only some older blocks have turned. -/
structure Fx (w : World) (R : Nat → Prop) where
  W : World
  h : Fr R w W
instance (w : World) (R : Nat → Prop) : Nonempty (Fx w R) := ⟨⟨w, Fr.refl R w⟩⟩
theorem Fx.cell? {w : World} {R : Nat → Prop} (x : Fx w R) (b o : Nat) (hb : b < w.heap.size) (hne : ¬ R b) : x.W.cell? ⟨b, o, none⟩ = w.cell? ⟨b, o, none⟩ := World.cell?_of_block (x.h.block b hb hne)
theorem inFx {w w' : World} {R : Nat → Prop} (h : Fr R w w') : ∃ x : Fx w R, w' = x.W := ⟨⟨w', h⟩, rfl⟩
theorem Fr.drew {R : Nat → Prop} {w w' : World} (h : Fr R w w') : Fr R w w'.drew := ⟨h.os, h.tape, h.output, h.size, h.block⟩
theorem wp_region_fx_tq {P : Program} {Q : Exit → Act → World → Prop} {id : Nat} {a : Act} {w : World} {l : List Oper} (R : Nat → Prop) (n : Nat) (t : Tq) (hm : P.follows .mixedOrders = true)
    (hB : (tqeB .any l.toArray n t && decide (t.len = n)) = true) (hQ : ∀ d v c a w, Q (.panic c) (a.put d v) w → Q (.panic c) a w)
    (h : wqTree P l Q (fun w' => ∃ x : Fx w R, w' = x.W) n t a w.drew) : (Code.region id l.toArray true).wp P Q a w :=
  wp_region_tq n t _ hm hB hQ (inFx (Fr.refl R w).drew) h
attribute [local go_sem] Ex.cell? Ex.frozen? Fx.cell?

/-- three rows of a call's own, and what may have turned. -/
structure EN (b : Nat) (W0 : World) (R : Nat → Prop) (u1 u2 u3 : Value) (m1 m2 m3 : List Int) (W : World) : Prop where
  fr : Fr R W0 W
  o1 : W.ownsRow b 3 1 u1 m1.length (m1.map (Value.int .i64))
  o2 : W.ownsRow b 3 1 u2 m2.length (m2.map (Value.int .i64))
  o3 : W.ownsRow b 3 1 u3 m3.length (m3.map (Value.int .i64))
  n12 : ∀ x, u1.ownBlock = some x → u2.ownBlock ≠ some x
  n13 : ∀ x, u1.ownBlock = some x → u3.ownBlock ≠ some x
  n23 : ∀ x, u2.ownBlock = some x → u3.ownBlock ≠ some x
  r1 : ∀ x, u1.ownBlock = some x → R x ∨ W0.heap.size ≤ x
  r2 : ∀ x, u2.ownBlock = some x → R x ∨ W0.heap.size ≤ x
  r3 : ∀ x, u3.ownBlock = some x → R x ∨ W0.heap.size ≤ x
section
variable {b : Nat} {W0 : World} {R : Nat → Prop} {u1 u2 u3 : Value} {m1 m2 m3 : List Int} {W W' : World}
theorem EN.alloc (h : EN b W0 R u1 u2 u3 m1 m2 m3 W) (o : Obj) : EN b W0 R u1 u2 u3 m1 m2 m3 (W.alloc o) := by
  have hb : Below W.heap.size W (W.alloc o) := (Below.refl _ _).alloc (Nat.le_refl _) o
  exact ⟨h.fr.trans (Fr.below (R := fun _ => False) hb) (fun _ _ hx => hx.elim), own_below h.o1 hb, own_below h.o2 hb, own_below h.o3 hb, h.n12, h.n13, h.n23, h.r1, h.r2, h.r3⟩
theorem EN.app1 (h : EN b W0 R u1 u2 u3 m1 m2 m3 W) {gg cap : Nat} {x : Int} (hg : W.grownBy W' u1.ownBlock) (ho : W'.ownsRow b 3 1 (.slice (some ⟨gg, 0, none⟩) (m1.length + 1) cap) (m1.length + 1) (m1.map (Value.int .i64) ++ [.int .i64 x])) (hat : u1.ownBlock = some gg ∨ W.heap.size ≤ gg) :
    EN b W0 R (.slice (some ⟨gg, 0, none⟩) (m1.length + 1) cap) u2 u3 (m1 ++ [x]) m2 m3 W' := by
  have hf : Fr (fun y => u1.ownBlock = some y) W W' := Fr.grown hg (fun y hy => .inl hy)
  have hs := h.fr.size
  refine ⟨h.fr.trans hf (fun y hy hr => (h.r1 y hr).resolve_right (by omega)), own_snoc rfl ho, own_fr h.o2 hf (fun y hy hr => h.n12 y hr hy), own_fr h.o3 hf (fun y hy hr => h.n13 y hr hy), fun y hy hc => ?_, fun y hy hc => ?_, h.n23, fun y hy => ?_, h.r2, h.r3⟩
  all_goals
    have hy' : gg = y := by simpa [Value.ownBlock] using hy
    subst hy'
    rcases hat with hat | hat
  · exact h.n12 gg hat hc
  · have := own_lt h.o2 hc; omega
  · exact h.n13 gg hat hc
  · have := own_lt h.o3 hc; omega
  · exact h.r1 gg hat
  · exact .inr (by omega)
theorem EN.app2 (h : EN b W0 R u1 u2 u3 m1 m2 m3 W) {gg cap : Nat} {x : Int} (hg : W.grownBy W' u2.ownBlock) (ho : W'.ownsRow b 3 1 (.slice (some ⟨gg, 0, none⟩) (m2.length + 1) cap) (m2.length + 1) (m2.map (Value.int .i64) ++ [.int .i64 x])) (hat : u2.ownBlock = some gg ∨ W.heap.size ≤ gg) :
    EN b W0 R u1 (.slice (some ⟨gg, 0, none⟩) (m2.length + 1) cap) u3 m1 (m2 ++ [x]) m3 W' := by
  have hf : Fr (fun y => u2.ownBlock = some y) W W' := Fr.grown hg (fun y hy => .inl hy)
  have hs := h.fr.size
  refine ⟨h.fr.trans hf (fun y hy hr => (h.r2 y hr).resolve_right (by omega)), own_fr h.o1 hf (fun y hy hr => h.n12 y hy hr), own_snoc rfl ho, own_fr h.o3 hf (fun y hy hr => h.n23 y hr hy), fun y hc hy => ?_, h.n13, fun y hy hc => ?_, h.r1, fun y hy => ?_, h.r3⟩
  all_goals
    have hy' : gg = y := by simpa [Value.ownBlock] using hy
    subst hy'
    rcases hat with hat | hat
  · exact h.n12 gg hc hat
  · have := own_lt h.o1 hc; omega
  · exact h.n23 gg hat hc
  · have := own_lt h.o3 hc; omega
  · exact h.r2 gg hat
  · exact .inr (by omega)
theorem EN.app3 (h : EN b W0 R u1 u2 u3 m1 m2 m3 W) {gg cap : Nat} {x : Int} (hg : W.grownBy W' u3.ownBlock) (ho : W'.ownsRow b 3 1 (.slice (some ⟨gg, 0, none⟩) (m3.length + 1) cap) (m3.length + 1) (m3.map (Value.int .i64) ++ [.int .i64 x])) (hat : u3.ownBlock = some gg ∨ W.heap.size ≤ gg) :
    EN b W0 R u1 u2 (.slice (some ⟨gg, 0, none⟩) (m3.length + 1) cap) m1 m2 (m3 ++ [x]) W' := by
  have hf : Fr (fun y => u3.ownBlock = some y) W W' := Fr.grown hg (fun y hy => .inl hy)
  have hs := h.fr.size
  refine ⟨h.fr.trans hf (fun y hy hr => (h.r3 y hr).resolve_right (by omega)), own_fr h.o1 hf (fun y hy hr => h.n13 y hy hr), own_fr h.o2 hf (fun y hy hr => h.n23 y hy hr), own_snoc rfl ho, h.n12, fun y hc hy => ?_, fun y hc hy => ?_, h.r1, h.r2, fun y hy => ?_⟩
  all_goals
    have hy' : gg = y := by simpa [Value.ownBlock] using hy
    subst hy'
    rcases hat with hat | hat
  · exact h.n13 gg hc hat
  · have := own_lt h.o1 hc; omega
  · exact h.n23 gg hc hat
  · have := own_lt h.o2 hc; omega
  · exact h.r3 gg hat
  · exact .inr (by omega)
end
theorem TR.enter {gc : Array Value} {w : World} {v1 v2 v3 : Value} {l1 l2 l3 : List Int} {W : World} (h : TR gc w v1 v2 v3 l1 l2 l3 W) : EN (w.heap.size + 1 + 1) W (fun y => v1.ownBlock = some y ∨ v2.ownBlock = some y ∨ v3.ownBlock = some y) v1 v2 v3 l1 l2 l3 W.drew :=
  ⟨(Fr.refl _ W).drew, h.o1, h.o2, h.o3, h.n12, h.n13, h.n23, fun y hy => .inl (.inl hy), fun y hy => .inl (.inr (.inl hy)), fun y hy => .inl (.inr (.inr hy))⟩
theorem TR.leave {gc : Array Value} {w : World} {v1 v2 v3 u1 u2 u3 : Value} {l1 l2 l3 m1 m2 m3 : List Int} {W0 W : World} {R : Nat → Prop} (h : TR gc w v1 v2 v3 l1 l2 l3 W0) (hR : ∀ y, R y → w.heap.size + 1 + 1 < y) (e : EN (w.heap.size + 1 + 1) W0 R u1 u2 u3 m1 m2 m3 W) :
    TR gc w u1 u2 u3 m1 m2 m3 (((W.setCell ⟨w.heap.size + 1 + 1, 0, none⟩ u1).setCell ⟨w.heap.size + 1 + 1, 1, none⟩ u2).setCell ⟨w.heap.size + 1 + 1, 2, none⟩ u3) := by
  have hf : Fr (fun y => y = w.heap.size + 1 + 1) W (((W.setCell ⟨w.heap.size + 1 + 1, 0, none⟩ u1).setCell ⟨w.heap.size + 1 + 1, 1, none⟩ u2).setCell ⟨w.heap.size + 1 + 1, 2, none⟩ u3) := (((Fr.refl (fun y => y = w.heap.size + 1 + 1) W).andSet rfl).andSet rfl).andSet rfl
  have hn : ∀ x, x ≤ w.heap.size + 1 + 1 → ¬ R x := fun x hx hr => by have := hR x hr; omega
  have b1 := h.q1.fr e.fr (hn _ (by omega))
  have b2 := h.qr.fr e.fr (hn _ (by omega))
  have b3 := h.qp.fr e.fr (hn _ (by omega))
  have hq := ((b3.set_ 0 u1).set_ 1 u2).set_ 2 u3
  simp only [List.setIfInBounds_toArray, List.set_cons_zero, List.set_cons_succ] at hq
  have hW : Below w.heap.size w W := e.fr.toBelow h.bw h.bw.size (fun x hx => by have := hR x hx; omega)
  exact ⟨hf.toBelow hW hW.size (fun x hx => by omega), b1.fr hf (by omega), b2.fr hf (by omega), hq, own_fr e.o1 hf (fun y hy hr => own_blkne e.o1 b3 (by decide) (hr ▸ hy)), own_fr e.o2 hf (fun y hy hr => own_blkne e.o2 b3 (by decide) (hr ▸ hy)), own_fr e.o3 hf (fun y hy hr => own_blkne e.o3 b3 (by decide) (hr ▸ hy)), e.n12, e.n13, e.n23⟩

/-- the truth of the ends, of so many days. -/
def endK (g : Gl) (h : List Rg) (high : Bool) (k : Nat) : List Int × List Int × List Int :=
  ((List.range k).map (fun d => if high then (gR h d).lo else (gR h d).hi), (List.range k).map (fun d => if high then (creep g d).hi else (creep g d).lo), (List.range k).map (fun _ => if high then g.bhi else g.blo))

theorem end_snoc {g : Gl} {h : List Rg} {hi : Bool} {k : Nat} {l1 l2 l3 : List Int} (hE : (l1, l2, l3) = endK g h hi k) {x1 x2 x3 : Int} (h1 : x1 = if hi then (gR h k).lo else (gR h k).hi) (h2 : x2 = if hi then (creep g k).hi else (creep g k).lo) (h3 : x3 = if hi then g.bhi else g.blo) :
    (l1 ++ [x1], l2 ++ [x2], l3 ++ [x3]) = endK g h hi (k + 1) := by
  simp only [endK, Prod.mk.injEq] at hE ⊢
  obtain ⟨rfl, rfl, rfl⟩ := hE
  simp only [List.range_succ, List.map_append, List.map_cons, List.map_nil]
  rw [h1, h2, h3]
  exact ⟨rfl, rfl, rfl⟩

end Go.Proofs.Ytlgmeofpkfliaaa
end

section
namespace Go.Proofs.Ytlgmeofpkfliaaa
open Go.RowKit
attribute [local go_sem] Ex.cell? Ex.frozen? Fx.cell?

set_option maxRecDepth 100000 in
set_option maxHeartbeats 6400000 in
theorem ended_lo (g : Gl) (Ab Ad Ah : Option Addr) (cb cd ch : Nat) (h : List Rg) (w : World) (hg : GlIn w w.heap.size g Ab Ad) (hh : SlAt w w.heap.size 2 Ah h.length (fR h)) (hok : Ok g h) :
    Calls Try.prog 46 #[.agg #[.int .i64 g.base, .slice Ab g.bands.length cb, .slice Ad g.depths.length cd, .int .i64 g.blo, .int .i64 g.bhi], .slice Ah h.length ch, .bool false] w fun e w' => (∃ A1 A2 A3 c1 c2 c3, ∃ t1 t2 t3 : List Int, Hid ((t1, t2, t3) = endT g h false) ∧ e = .returned (.agg #[.slice A1 t1.length c1, .slice A2 t2.length c2, .slice A3 t3.length c3]) ∧
      SlAt w' w'.heap.size 1 A1 t1.length (fI t1) ∧ SlAt w' w'.heap.size 1 A2 t2.length (fI t2) ∧ SlAt w' w'.heap.size 1 A3 t3.length (fI t3)) ∧ Below w.heap.size w w' := by
  obtain ⟨i0, hi0, hz0', hz1', hz2'⟩ := info_parts int_info
  have HI := Lib.hid hi0
  clear hi0
  have hb1 := ex_alloc (ex_alloc (ex_alloc (Below.refl w.heap.size w) (.cells #[.int .i64 g.base, .slice Ab g.bands.length cb, .slice Ad g.depths.length cd, .int .i64 g.blo, .int .i64 g.bhi] 27)) (.cells #[.slice none 0 0, .slice none 0 0, .slice none 0 0] 56)) (.cells #[.slice none 0 0, .slice none 0 0, .slice none 0 0] 56)
  have hT0 : TR #[.int .i64 g.base, .slice Ab g.bands.length cb, .slice Ad g.depths.length cd, .int .i64 g.blo, .int .i64 g.bhi] w (.slice none 0 0) (.slice none 0 0) (.slice none 0 0) [] [] [] (((w.alloc (.cells #[.int .i64 g.base, .slice Ab g.bands.length cb, .slice Ad g.depths.length cd, .int .i64 g.blo, .int .i64 g.bhi] 27)).alloc (.cells #[.slice none 0 0, .slice none 0 0, .slice none 0 0] 56)).alloc (.cells #[.slice none 0 0, .slice none 0 0, .slice none 0 0] 56)) :=
    ⟨hb1, ((Blk.new _ _ _).alloc _).alloc _, (Blk.new' _ _ _ (by simp)).alloc _, Blk.new' _ _ _ (by simp), ⟨rfl, .inl ⟨rfl, rfl⟩⟩, ⟨rfl, .inl ⟨rfl, rfl⟩⟩, ⟨rfl, .inl ⟨rfl, rfl⟩⟩, fun b hb => by simp [Value.ownBlock] at hb, fun b hb => by simp [Value.ownBlock] at hb, fun b hb => by simp [Value.ownBlock] at hb⟩
  have hnh := hok.nh.2
  have hlb : g.bands.length ≤ 1000000 := by have := hok.nb; omega
  clear hok
  go_enter Try.func46, Try.ntmps46
  go_wp2_with fail
  refine wp_loop (fun a W => ∃ (k : Nat) (v1 v2 v3 : Value) (l1 l2 l3 : List Int), k ≤ h.length ∧ TR #[.int .i64 g.base, .slice Ab g.bands.length cb, .slice Ad g.depths.length cd, .int .i64 g.blo, .int .i64 g.bhi] w v1 v2 v3 l1 l2 l3 W ∧ Hid ((l1, l2, l3) = endK g h false k) ∧ ∃ u : Nat → Value, a = ⟨List.toArray (u 0 :: .slice Ah h.length ch :: .bool false :: .pointer (some ⟨w.heap.size, 0, none⟩) :: u 4 :: u 5 :: .pointer (some ⟨w.heap.size + 1, 0, none⟩) :: .pointer (some ⟨w.heap.size + 1 + 1, 0, none⟩) :: .int .i64 (k : Int) :: u 9 :: u 10 :: u 11 :: u 12 :: u 13 :: u 14 :: u 15 :: u 16 :: u 17 :: u 18 :: u 19 :: u 20 :: u 21 :: u 22 :: u 23 :: u 24 :: u 25 :: u 26 :: u 27 :: u 28 :: u 29 :: u 30 :: u 31 :: u 32 :: u 33 :: u 34 :: u 35 :: u 36 :: u 37 :: u 38 :: u 39 :: u 40 :: u 41 :: u 42 :: u 43 :: u 44 :: u 45 :: u 46 :: u 47 :: u 48 :: u 49 :: u 50 :: u 51 :: u 52 :: u 53 :: u 54 :: u 55 :: u 56 :: u 57 :: u 58 :: u 59 :: u 60 :: u 61 :: u 62 :: u 63 :: u 64 :: u 65 :: u 66 :: u 67 :: u 68 :: u 69 :: u 70 :: []), []⟩)
    (fun a _ => h.length - (intOf (a.tmps.getD 8 undef)).toNat) ⟨0, _, _, _, [], [], [], by omega, hT0, Lib.hid rfl, exFrame (by kernel_rfl)⟩ ?_
  rintro a wr ⟨k, v1, v2, v3, l1, l2, l3, hk, T0, hE, u, rfl⟩
  clear hT0 hb1
  have hlen : l1.length = k ∧ l2.length = k ∧ l3.length = k := by
    have := hE.out
    simp only [endK, Prod.mk.injEq] at this
    obtain ⟨e1, e2, e3⟩ := this
    rw [e1, e2, e3]; simp
  have HLEN := Lib.hid hlen
  clear hlen
  by_cases hlt : k < h.length
  · have hB0 := T0.bw
    have a0 : wr.cell? ⟨w.heap.size, 0, none⟩ = some (.int .i64 g.base) := T0.q1.cell 0
    have a1 : wr.cell? ⟨w.heap.size, 1, none⟩ = some (.slice Ab g.bands.length cb) := T0.q1.cell 1
    have a2 : wr.cell? ⟨w.heap.size, 2, none⟩ = some (.slice Ad g.depths.length cd) := T0.q1.cell 2
    have a3 : wr.cell? ⟨w.heap.size, 3, none⟩ = some (.int .i64 g.blo) := T0.q1.cell 3
    have a4 : wr.cell? ⟨w.heap.size, 4, none⟩ = some (.int .i64 g.bhi) := T0.q1.cell 4
    have l1' := T0.q1.lt
    have HT0 := Lib.hid T0
    clear T0
    go_wp2_with fail
    refine (CreepR_any g _ _ _ _ (k : Int) _ ((hg.below hB0).up hB0.size) hlb).mono ?_
    rintro e wc ⟨rfl, hwc⟩
    generalize hcl : (creepTo g.bands (k : Int) g.bands.length).lo = cl
    generalize hch : (creepTo g.bands (k : Int) g.bands.length).hi = chi
    have HCL := Lib.hid hcl
    have HCH := Lib.hid hch
    clear hcl hch
    have T1 := HT0.out.below hwc
    have qc : Blk (wc.alloc (.cells #[.int .i64 cl, .int .i64 chi] 25)) wc.heap.size 25 #[.int .i64 cl, .int .i64 chi] := Blk.new _ _ _
    have T2 := T1.below ((Below.refl _ _).alloc (Nat.le_refl _) (.cells #[.int .i64 cl, .int .i64 chi] 25))
    have hcw := T1.bw.size
    clear a0 a1 a2 a3 a4 l1' T1
    go_wp2_with fail
    generalize wc.alloc (.cells #[.int .i64 cl, .int .i64 chi] 25) = V at *
    obtain ⟨bh, oh, rfl, hbh, s0, s1⟩ := IsRgs.at_ (hh.below T2.bw) hlt
    obtain ⟨R, hR⟩ : ∃ R : Nat → Prop, R = fun y => v1.ownBlock = some y ∨ v2.ownBlock = some y ∨ v3.ownBlock = some y := ⟨_, rfl⟩
    have EN0 := T2.enter
    rw [← hR] at EN0
    have hRge : ∀ y, R y → w.heap.size + 1 + 1 < y := fun y hy => by
      rw [hR] at hy
      have hne : y ≠ w.heap.size + 1 + 1 := fun e => by
        rcases hy with hy | hy | hy
        · exact own_blkne T2.o1 T2.qp (by decide) (e ▸ hy)
        · exact own_blkne T2.o2 T2.qp (by decide) (e ▸ hy)
        · exact own_blkne T2.o3 T2.qp (by decide) (e ▸ hy)
      have hge : w.heap.size + 1 + 1 ≤ y := by
        rcases hy with hy | hy | hy
        · exact own_ge T2.o1 hy
        · exact own_ge T2.o2 hy
        · exact own_ge T2.o3 hy
      omega
    have hRc : ¬ R wc.heap.size := fun hy => by
      rw [hR] at hy
      rcases hy with hy | hy | hy
      · exact own_blkne T2.o1 qc (by decide) hy
      · exact own_blkne T2.o2 qc (by decide) hy
      · exact own_blkne T2.o3 qc (by decide) hy
    have z1 : ∀ y, v1.ownBlock = some y → y < V.heap.size := fun y hy => (own_lt T2.o1 hy).2
    have z2 : ∀ y, v2.ownBlock = some y → y < V.heap.size := fun y hy => (own_lt T2.o2 hy).2
    have z3 : ∀ y, v3.ownBlock = some y → y < V.heap.size := fun y hy => (own_lt T2.o3 hy).2
    have hVw := T2.bw.size
    have nh : ¬ R bh := fun hy => by have := hRge _ hy; omega
    have ng : ¬ R w.heap.size := fun hy => by have := hRge _ hy; omega
    have np : ¬ R (w.heap.size + 1 + 1) := fun hy => by have := hRge _ hy; omega
    have hbr : bh < V.heap.size := by omega
    have a3 : V.cell? ⟨w.heap.size, 3, none⟩ = some (.int .i64 g.blo) := T2.q1.cell 3
    have a4 : V.cell? ⟨w.heap.size, 4, none⟩ = some (.int .i64 g.bhi) := T2.q1.cell 4
    have l1' := T2.q1.lt
    have e0 : V.cell? ⟨w.heap.size + 1 + 1, 0, none⟩ = some v1 := T2.qp.cell 0
    have e1 : V.cell? ⟨w.heap.size + 1 + 1, 1, none⟩ = some v2 := T2.qp.cell 1
    have e2 : V.cell? ⟨w.heap.size + 1 + 1, 2, none⟩ = some v3 := T2.qp.cell 2
    have lp := T2.qp.lt
    have hlpV := lp
    have c0 : V.cell? ⟨wc.heap.size, 0, none⟩ = some (.int .i64 cl) := qc.cell 0
    have c1 : V.cell? ⟨wc.heap.size, 1, none⟩ = some (.int .i64 chi) := qc.cell 1
    have lc := qc.lt
    have HT2 := Lib.hid T2
    obtain ⟨x1, hx1⟩ : ∃ x1, x1 = (gR h k).hi := ⟨_, rfl⟩
    have HX1 := Lib.hid hx1
    rw [← hx1] at s1
    have c63 : k + 1 ≤ maxLen := by unfold maxLen; omega
    have cby : (k + 1) * 8 ≤ 140737488355328 := by omega
    clear T2 hR hx1
    refine wp_region_fx_tq R 23 (.quiet 0 (.quiet 1 (.quiet 2 (.quiet 3 (.quiet 4 (.quiet 5 (.quiet 6 (.quiet 9 (.quiet 10 (.quiet 11 (.quiet 12 (.quiet 15 (.quiet 16 (.quiet 17 (.quiet 18 (.quiet 19 (.fork3 7 (.fork3 8 (.quiet 22 (.fork 13 (.fork 14 (.loud 20 (.loud 21 .done)) 20 (.loud 14 (.loud 21 .done))) 20 (.loud 13 (.loud 14 (.loud 21 .done))))) 13 (.fork 8 (.quiet 22 (.fork 14 (.loud 20 (.loud 21 .done)) 20 (.loud 14 (.loud 21 .done)))) 20 (.loud 8 (.quiet 22 (.loud 14 (.loud 21 .done))))) 20 (.fork 8 (.quiet 22 (.loud 13 (.loud 14 (.loud 21 .done)))) 13 (.loud 8 (.quiet 22 (.loud 14 (.loud 21 .done)))))) 13 (.fork 7 (.fork 8 (.quiet 22 (.fork 14 (.loud 20 (.loud 21 .done)) 20 (.loud 14 (.loud 21 .done)))) 20 (.loud 8 (.quiet 22 (.loud 14 (.loud 21 .done))))) 20 (.loud 7 (.loud 8 (.quiet 22 (.loud 14 (.loud 21 .done)))))) 20 (.fork 7 (.fork 8 (.quiet 22 (.loud 13 (.loud 14 (.loud 21 .done)))) 13 (.loud 8 (.quiet 22 (.loud 14 (.loud 21 .done))))) 13 (.loud 7 (.loud 8 (.quiet 22 (.loud 14 (.loud 21 .done))))))))))))))))))))))) (by kernel_rfl) (by kernel_rfl) (by intro d _ _ _ _ h; cases d <;> exact h) ?_
    repeat (refine tq_quiet rfl ?_; go_big_quiet_step (fail); refine wpQuiet_nil ?_)
    have hV0 : V.heap.size = V.drew.heap.size := rfl
    generalize V.drew = D at *
    clear a3 a4 l1' e0 e1 e2 lp c0 c1 lc qc s0 s1
    refine tq_fork3 rfl rfl rfl ?_ ?_ ?_
    · have E1 := EN0.alloc (.cells #[.int .i64 x1] 3)
      have q1_0 : Blk (D.alloc (.cells #[.int .i64 x1] 3)) D.heap.size 3 #[.int .i64 x1] := Blk.new _ _ _
      have g1 : V.heap.size ≤ D.heap.size := EN0.fr.size
      go_wp2_with fail
      refine ⟨inFx E1.fr, ?_⟩
      generalize D.alloc (.cells #[.int .i64 x1] 3) = D1 at *
      refine tq_fork3 rfl rfl rfl ?_ ?_ ?_
      · go_wp2_with (at_builtin; refine wpList_append_lies _ rfl _ _ _ rfl (w.heap.size + 1 + 1) 3 i0 _ 1 8 Try.underlying54 HI.out hz0' hz1' hz2' rfl (by omega) v1 _ _ rfl E1.o1 ⟨D.heap.size, 0, none⟩ 1 1 [.int .i64 x1] rfl rfl (World.news_of_block q1_0) (by simp [Value.oneCell']) (by omega) (by have := HLEN.out; omega) (by have := HLEN.out; omega) (by have := E1.fr.size; omega) D1.heap.size rfl ?_; intro gg2 cap2 D2 ho2 hg2 hat2 _)
        have E2 := E1.app1 hg2 ho2 (hat2.imp id (fun e => by omega))
        refine ⟨inFx E2.fr, ?_⟩
        refine tq_quiet rfl ?_; go_big_quiet_step (fail); refine wpQuiet_nil ?_
        refine tq_fork rfl rfl ?_ ?_
        · have E3 := E2.alloc (.cells #[.int .i64 cl] 3)
          have q3_1 : Blk (D2.alloc (.cells #[.int .i64 cl] 3)) D2.heap.size 3 #[.int .i64 cl] := Blk.new _ _ _
          have g3 : V.heap.size ≤ D2.heap.size := E2.fr.size
          go_wp2_with fail
          refine ⟨inFx E3.fr, ?_⟩
          generalize D2.alloc (.cells #[.int .i64 cl] 3) = D3 at *
          refine tq_fork rfl rfl ?_ ?_
          · go_wp2_with (at_builtin; refine wpList_append_lies _ rfl _ _ _ rfl (w.heap.size + 1 + 1) 3 i0 _ 1 8 Try.underlying54 HI.out hz0' hz1' hz2' rfl (by omega) v2 _ _ rfl E3.o2 ⟨D2.heap.size, 0, none⟩ 1 1 [.int .i64 cl] rfl rfl (World.news_of_block q3_1) (by simp [Value.oneCell']) (by omega) (by have := HLEN.out; omega) (by have := HLEN.out; omega) (by have := E3.fr.size; omega) D3.heap.size rfl ?_; intro gg4 cap4 D4 ho4 hg4 hat4 _)
            have E4 := E3.app2 hg4 ho4 (hat4.imp id (fun e => by omega))
            refine ⟨inFx E4.fr, ?_⟩
            refine tq_loud rfl ?_
            have E5 := E4.alloc (.cells #[.int .i64 g.blo] 3)
            have q5_2 : Blk (D4.alloc (.cells #[.int .i64 g.blo] 3)) D4.heap.size 3 #[.int .i64 g.blo] := Blk.new _ _ _
            have g5 : V.heap.size ≤ D4.heap.size := E4.fr.size
            go_wp2_with fail
            refine ⟨inFx E5.fr, ?_⟩
            generalize D4.alloc (.cells #[.int .i64 g.blo] 3) = D5 at *
            refine tq_loud rfl ?_
            go_wp2_with (at_builtin; refine wpList_append_lies _ rfl _ _ _ rfl (w.heap.size + 1 + 1) 3 i0 _ 1 8 Try.underlying54 HI.out hz0' hz1' hz2' rfl (by omega) v3 _ _ rfl E5.o3 ⟨D4.heap.size, 0, none⟩ 1 1 [.int .i64 g.blo] rfl rfl (World.news_of_block q5_2) (by simp [Value.oneCell']) (by omega) (by have := HLEN.out; omega) (by have := HLEN.out; omega) (by have := E5.fr.size; omega) D5.heap.size rfl ?_; intro gg6 cap6 D6 ho6 hg6 hat6 _)
            have E6 := E5.app3 hg6 ho6 (hat6.imp id (fun e => by omega))
            refine ⟨inFx E6.fr, ?_⟩
            refine tq_done (r := [_, _, _, _, _]) rfl ?_
            have qq := HT2.out.qp.fr E6.fr np
            have y0 := qq.cell 0
            have y1 := qq.cell 1
            have y2 := qq.cell 2
            have f0 := qq.frozen 0
            have f1 := qq.frozen 1
            have f2 := qq.frozen 2
            have lq := qq.lt
            simp at y0 y1 y2
            have T9 := HT2.out.leave hRge E6
            clear qq
            go_wp2_with fail
            refine ⟨⟨k + 1, _, _, _, _, _, _, by omega, T9, Lib.hid (end_snoc hE.out HX1.out (by first | exact HCL.out.symm | exact HCH.out.symm) rfl), exFrame (by kernel_rfl)⟩, ?_⟩
            show h.length - (intOf (.int .i64 ((k : Int) + 1))).toNat < h.length - (intOf (.int .i64 (k : Int))).toNat
            simp [intOf]
            omega
          · have E7 := E3.alloc (.cells #[.int .i64 g.blo] 3)
            have q7_1 := q3_1.alloc (.cells #[.int .i64 g.blo] 3)
            have q7_2 : Blk (D3.alloc (.cells #[.int .i64 g.blo] 3)) D3.heap.size 3 #[.int .i64 g.blo] := Blk.new _ _ _
            have g7 : V.heap.size ≤ D3.heap.size := E3.fr.size
            go_wp2_with fail
            refine ⟨inFx E7.fr, ?_⟩
            generalize D3.alloc (.cells #[.int .i64 g.blo] 3) = D7 at *
            refine tq_loud rfl ?_
            go_wp2_with (at_builtin; refine wpList_append_lies _ rfl _ _ _ rfl (w.heap.size + 1 + 1) 3 i0 _ 1 8 Try.underlying54 HI.out hz0' hz1' hz2' rfl (by omega) v2 _ _ rfl E7.o2 ⟨D2.heap.size, 0, none⟩ 1 1 [.int .i64 cl] rfl rfl (World.news_of_block q7_1) (by simp [Value.oneCell']) (by omega) (by have := HLEN.out; omega) (by have := HLEN.out; omega) (by have := E7.fr.size; omega) D7.heap.size rfl ?_; intro gg8 cap8 D8 ho8 hg8 hat8 _)
            have E8 := E7.app2 hg8 ho8 (hat8.imp id (fun e => by omega))
            have q8_2 := q7_2.grown hg8 (fun e => by have := z2 _ e.symm; omega)
            refine ⟨inFx E8.fr, ?_⟩
            refine tq_loud rfl ?_
            go_wp2_with (at_builtin; refine wpList_append_lies _ rfl _ _ _ rfl (w.heap.size + 1 + 1) 3 i0 _ 1 8 Try.underlying54 HI.out hz0' hz1' hz2' rfl (by omega) v3 _ _ rfl E8.o3 ⟨D3.heap.size, 0, none⟩ 1 1 [.int .i64 g.blo] rfl rfl (World.news_of_block q8_2) (by simp [Value.oneCell']) (by omega) (by have := HLEN.out; omega) (by have := HLEN.out; omega) (by have := E8.fr.size; omega) D8.heap.size rfl ?_; intro gg9 cap9 D9 ho9 hg9 hat9 _)
            have E9 := E8.app3 hg9 ho9 (hat9.imp id (fun e => by omega))
            refine ⟨inFx E9.fr, ?_⟩
            refine tq_done (r := [_, _, _, _, _]) rfl ?_
            have qq := HT2.out.qp.fr E9.fr np
            have y0 := qq.cell 0
            have y1 := qq.cell 1
            have y2 := qq.cell 2
            have f0 := qq.frozen 0
            have f1 := qq.frozen 1
            have f2 := qq.frozen 2
            have lq := qq.lt
            simp at y0 y1 y2
            have T9 := HT2.out.leave hRge E9
            clear qq
            go_wp2_with fail
            refine ⟨⟨k + 1, _, _, _, _, _, _, by omega, T9, Lib.hid (end_snoc hE.out HX1.out (by first | exact HCL.out.symm | exact HCH.out.symm) rfl), exFrame (by kernel_rfl)⟩, ?_⟩
            show h.length - (intOf (.int .i64 ((k : Int) + 1))).toNat < h.length - (intOf (.int .i64 (k : Int))).toNat
            simp [intOf]
            omega
        · have E10 := E2.alloc (.cells #[.int .i64 g.blo] 3)
          have q10_2 : Blk (D2.alloc (.cells #[.int .i64 g.blo] 3)) D2.heap.size 3 #[.int .i64 g.blo] := Blk.new _ _ _
          have g10 : V.heap.size ≤ D2.heap.size := E2.fr.size
          go_wp2_with fail
          refine ⟨inFx E10.fr, ?_⟩
          generalize D2.alloc (.cells #[.int .i64 g.blo] 3) = D10 at *
          refine tq_loud rfl ?_
          have E11 := E10.alloc (.cells #[.int .i64 cl] 3)
          have q11_2 := q10_2.alloc (.cells #[.int .i64 cl] 3)
          have q11_1 : Blk (D10.alloc (.cells #[.int .i64 cl] 3)) D10.heap.size 3 #[.int .i64 cl] := Blk.new _ _ _
          have g11 : V.heap.size ≤ D10.heap.size := E10.fr.size
          go_wp2_with fail
          refine ⟨inFx E11.fr, ?_⟩
          generalize D10.alloc (.cells #[.int .i64 cl] 3) = D11 at *
          refine tq_loud rfl ?_
          go_wp2_with (at_builtin; refine wpList_append_lies _ rfl _ _ _ rfl (w.heap.size + 1 + 1) 3 i0 _ 1 8 Try.underlying54 HI.out hz0' hz1' hz2' rfl (by omega) v2 _ _ rfl E11.o2 ⟨D10.heap.size, 0, none⟩ 1 1 [.int .i64 cl] rfl rfl (World.news_of_block q11_1) (by simp [Value.oneCell']) (by omega) (by have := HLEN.out; omega) (by have := HLEN.out; omega) (by have := E11.fr.size; omega) D11.heap.size rfl ?_; intro gg12 cap12 D12 ho12 hg12 hat12 _)
          have E12 := E11.app2 hg12 ho12 (hat12.imp id (fun e => by omega))
          have q12_2 := q11_2.grown hg12 (fun e => by have := z2 _ e.symm; omega)
          refine ⟨inFx E12.fr, ?_⟩
          refine tq_loud rfl ?_
          go_wp2_with (at_builtin; refine wpList_append_lies _ rfl _ _ _ rfl (w.heap.size + 1 + 1) 3 i0 _ 1 8 Try.underlying54 HI.out hz0' hz1' hz2' rfl (by omega) v3 _ _ rfl E12.o3 ⟨D2.heap.size, 0, none⟩ 1 1 [.int .i64 g.blo] rfl rfl (World.news_of_block q12_2) (by simp [Value.oneCell']) (by omega) (by have := HLEN.out; omega) (by have := HLEN.out; omega) (by have := E12.fr.size; omega) D12.heap.size rfl ?_; intro gg13 cap13 D13 ho13 hg13 hat13 _)
          have E13 := E12.app3 hg13 ho13 (hat13.imp id (fun e => by omega))
          refine ⟨inFx E13.fr, ?_⟩
          refine tq_done (r := [_, _, _, _, _]) rfl ?_
          have qq := HT2.out.qp.fr E13.fr np
          have y0 := qq.cell 0
          have y1 := qq.cell 1
          have y2 := qq.cell 2
          have f0 := qq.frozen 0
          have f1 := qq.frozen 1
          have f2 := qq.frozen 2
          have lq := qq.lt
          simp at y0 y1 y2
          have T9 := HT2.out.leave hRge E13
          clear qq
          go_wp2_with fail
          refine ⟨⟨k + 1, _, _, _, _, _, _, by omega, T9, Lib.hid (end_snoc hE.out HX1.out (by first | exact HCL.out.symm | exact HCH.out.symm) rfl), exFrame (by kernel_rfl)⟩, ?_⟩
          show h.length - (intOf (.int .i64 ((k : Int) + 1))).toNat < h.length - (intOf (.int .i64 (k : Int))).toNat
          simp [intOf]
          omega
      · have E14 := E1.alloc (.cells #[.int .i64 cl] 3)
        have q14_0 := q1_0.alloc (.cells #[.int .i64 cl] 3)
        have q14_1 : Blk (D1.alloc (.cells #[.int .i64 cl] 3)) D1.heap.size 3 #[.int .i64 cl] := Blk.new _ _ _
        have g14 : V.heap.size ≤ D1.heap.size := E1.fr.size
        go_wp2_with fail
        refine ⟨inFx E14.fr, ?_⟩
        generalize D1.alloc (.cells #[.int .i64 cl] 3) = D14 at *
        refine tq_fork rfl rfl ?_ ?_
        · go_wp2_with (at_builtin; refine wpList_append_lies _ rfl _ _ _ rfl (w.heap.size + 1 + 1) 3 i0 _ 1 8 Try.underlying54 HI.out hz0' hz1' hz2' rfl (by omega) v1 _ _ rfl E14.o1 ⟨D.heap.size, 0, none⟩ 1 1 [.int .i64 x1] rfl rfl (World.news_of_block q14_0) (by simp [Value.oneCell']) (by omega) (by have := HLEN.out; omega) (by have := HLEN.out; omega) (by have := E14.fr.size; omega) D14.heap.size rfl ?_; intro gg15 cap15 D15 ho15 hg15 hat15 _)
          have E15 := E14.app1 hg15 ho15 (hat15.imp id (fun e => by omega))
          have q15_1 := q14_1.grown hg15 (fun e => by have := z1 _ e.symm; omega)
          refine ⟨inFx E15.fr, ?_⟩
          refine tq_quiet rfl ?_; go_big_quiet_step (fail); refine wpQuiet_nil ?_
          refine tq_fork rfl rfl ?_ ?_
          · go_wp2_with (at_builtin; refine wpList_append_lies _ rfl _ _ _ rfl (w.heap.size + 1 + 1) 3 i0 _ 1 8 Try.underlying54 HI.out hz0' hz1' hz2' rfl (by omega) v2 _ _ rfl E15.o2 ⟨D1.heap.size, 0, none⟩ 1 1 [.int .i64 cl] rfl rfl (World.news_of_block q15_1) (by simp [Value.oneCell']) (by omega) (by have := HLEN.out; omega) (by have := HLEN.out; omega) (by have := E15.fr.size; omega) D15.heap.size rfl ?_; intro gg16 cap16 D16 ho16 hg16 hat16 _)
            have E16 := E15.app2 hg16 ho16 (hat16.imp id (fun e => by omega))
            refine ⟨inFx E16.fr, ?_⟩
            refine tq_loud rfl ?_
            have E17 := E16.alloc (.cells #[.int .i64 g.blo] 3)
            have q17_2 : Blk (D16.alloc (.cells #[.int .i64 g.blo] 3)) D16.heap.size 3 #[.int .i64 g.blo] := Blk.new _ _ _
            have g17 : V.heap.size ≤ D16.heap.size := E16.fr.size
            go_wp2_with fail
            refine ⟨inFx E17.fr, ?_⟩
            generalize D16.alloc (.cells #[.int .i64 g.blo] 3) = D17 at *
            refine tq_loud rfl ?_
            go_wp2_with (at_builtin; refine wpList_append_lies _ rfl _ _ _ rfl (w.heap.size + 1 + 1) 3 i0 _ 1 8 Try.underlying54 HI.out hz0' hz1' hz2' rfl (by omega) v3 _ _ rfl E17.o3 ⟨D16.heap.size, 0, none⟩ 1 1 [.int .i64 g.blo] rfl rfl (World.news_of_block q17_2) (by simp [Value.oneCell']) (by omega) (by have := HLEN.out; omega) (by have := HLEN.out; omega) (by have := E17.fr.size; omega) D17.heap.size rfl ?_; intro gg18 cap18 D18 ho18 hg18 hat18 _)
            have E18 := E17.app3 hg18 ho18 (hat18.imp id (fun e => by omega))
            refine ⟨inFx E18.fr, ?_⟩
            refine tq_done (r := [_, _, _, _, _]) rfl ?_
            have qq := HT2.out.qp.fr E18.fr np
            have y0 := qq.cell 0
            have y1 := qq.cell 1
            have y2 := qq.cell 2
            have f0 := qq.frozen 0
            have f1 := qq.frozen 1
            have f2 := qq.frozen 2
            have lq := qq.lt
            simp at y0 y1 y2
            have T9 := HT2.out.leave hRge E18
            clear qq
            go_wp2_with fail
            refine ⟨⟨k + 1, _, _, _, _, _, _, by omega, T9, Lib.hid (end_snoc hE.out HX1.out (by first | exact HCL.out.symm | exact HCH.out.symm) rfl), exFrame (by kernel_rfl)⟩, ?_⟩
            show h.length - (intOf (.int .i64 ((k : Int) + 1))).toNat < h.length - (intOf (.int .i64 (k : Int))).toNat
            simp [intOf]
            omega
          · have E19 := E15.alloc (.cells #[.int .i64 g.blo] 3)
            have q19_1 := q15_1.alloc (.cells #[.int .i64 g.blo] 3)
            have q19_2 : Blk (D15.alloc (.cells #[.int .i64 g.blo] 3)) D15.heap.size 3 #[.int .i64 g.blo] := Blk.new _ _ _
            have g19 : V.heap.size ≤ D15.heap.size := E15.fr.size
            go_wp2_with fail
            refine ⟨inFx E19.fr, ?_⟩
            generalize D15.alloc (.cells #[.int .i64 g.blo] 3) = D19 at *
            refine tq_loud rfl ?_
            go_wp2_with (at_builtin; refine wpList_append_lies _ rfl _ _ _ rfl (w.heap.size + 1 + 1) 3 i0 _ 1 8 Try.underlying54 HI.out hz0' hz1' hz2' rfl (by omega) v2 _ _ rfl E19.o2 ⟨D1.heap.size, 0, none⟩ 1 1 [.int .i64 cl] rfl rfl (World.news_of_block q19_1) (by simp [Value.oneCell']) (by omega) (by have := HLEN.out; omega) (by have := HLEN.out; omega) (by have := E19.fr.size; omega) D19.heap.size rfl ?_; intro gg20 cap20 D20 ho20 hg20 hat20 _)
            have E20 := E19.app2 hg20 ho20 (hat20.imp id (fun e => by omega))
            have q20_2 := q19_2.grown hg20 (fun e => by have := z2 _ e.symm; omega)
            refine ⟨inFx E20.fr, ?_⟩
            refine tq_loud rfl ?_
            go_wp2_with (at_builtin; refine wpList_append_lies _ rfl _ _ _ rfl (w.heap.size + 1 + 1) 3 i0 _ 1 8 Try.underlying54 HI.out hz0' hz1' hz2' rfl (by omega) v3 _ _ rfl E20.o3 ⟨D15.heap.size, 0, none⟩ 1 1 [.int .i64 g.blo] rfl rfl (World.news_of_block q20_2) (by simp [Value.oneCell']) (by omega) (by have := HLEN.out; omega) (by have := HLEN.out; omega) (by have := E20.fr.size; omega) D20.heap.size rfl ?_; intro gg21 cap21 D21 ho21 hg21 hat21 _)
            have E21 := E20.app3 hg21 ho21 (hat21.imp id (fun e => by omega))
            refine ⟨inFx E21.fr, ?_⟩
            refine tq_done (r := [_, _, _, _, _]) rfl ?_
            have qq := HT2.out.qp.fr E21.fr np
            have y0 := qq.cell 0
            have y1 := qq.cell 1
            have y2 := qq.cell 2
            have f0 := qq.frozen 0
            have f1 := qq.frozen 1
            have f2 := qq.frozen 2
            have lq := qq.lt
            simp at y0 y1 y2
            have T9 := HT2.out.leave hRge E21
            clear qq
            go_wp2_with fail
            refine ⟨⟨k + 1, _, _, _, _, _, _, by omega, T9, Lib.hid (end_snoc hE.out HX1.out (by first | exact HCL.out.symm | exact HCH.out.symm) rfl), exFrame (by kernel_rfl)⟩, ?_⟩
            show h.length - (intOf (.int .i64 ((k : Int) + 1))).toNat < h.length - (intOf (.int .i64 (k : Int))).toNat
            simp [intOf]
            omega
        · have E22 := E14.alloc (.cells #[.int .i64 g.blo] 3)
          have q22_0 := q14_0.alloc (.cells #[.int .i64 g.blo] 3)
          have q22_1 := q14_1.alloc (.cells #[.int .i64 g.blo] 3)
          have q22_2 : Blk (D14.alloc (.cells #[.int .i64 g.blo] 3)) D14.heap.size 3 #[.int .i64 g.blo] := Blk.new _ _ _
          have g22 : V.heap.size ≤ D14.heap.size := E14.fr.size
          go_wp2_with fail
          refine ⟨inFx E22.fr, ?_⟩
          generalize D14.alloc (.cells #[.int .i64 g.blo] 3) = D22 at *
          refine tq_loud rfl ?_
          go_wp2_with (at_builtin; refine wpList_append_lies _ rfl _ _ _ rfl (w.heap.size + 1 + 1) 3 i0 _ 1 8 Try.underlying54 HI.out hz0' hz1' hz2' rfl (by omega) v1 _ _ rfl E22.o1 ⟨D.heap.size, 0, none⟩ 1 1 [.int .i64 x1] rfl rfl (World.news_of_block q22_0) (by simp [Value.oneCell']) (by omega) (by have := HLEN.out; omega) (by have := HLEN.out; omega) (by have := E22.fr.size; omega) D22.heap.size rfl ?_; intro gg23 cap23 D23 ho23 hg23 hat23 _)
          have E23 := E22.app1 hg23 ho23 (hat23.imp id (fun e => by omega))
          have q23_1 := q22_1.grown hg23 (fun e => by have := z1 _ e.symm; omega)
          have q23_2 := q22_2.grown hg23 (fun e => by have := z1 _ e.symm; omega)
          refine ⟨inFx E23.fr, ?_⟩
          refine tq_quiet rfl ?_; go_big_quiet_step (fail); refine wpQuiet_nil ?_
          refine tq_loud rfl ?_
          go_wp2_with (at_builtin; refine wpList_append_lies _ rfl _ _ _ rfl (w.heap.size + 1 + 1) 3 i0 _ 1 8 Try.underlying54 HI.out hz0' hz1' hz2' rfl (by omega) v2 _ _ rfl E23.o2 ⟨D1.heap.size, 0, none⟩ 1 1 [.int .i64 cl] rfl rfl (World.news_of_block q23_1) (by simp [Value.oneCell']) (by omega) (by have := HLEN.out; omega) (by have := HLEN.out; omega) (by have := E23.fr.size; omega) D23.heap.size rfl ?_; intro gg24 cap24 D24 ho24 hg24 hat24 _)
          have E24 := E23.app2 hg24 ho24 (hat24.imp id (fun e => by omega))
          have q24_2 := q23_2.grown hg24 (fun e => by have := z2 _ e.symm; omega)
          refine ⟨inFx E24.fr, ?_⟩
          refine tq_loud rfl ?_
          go_wp2_with (at_builtin; refine wpList_append_lies _ rfl _ _ _ rfl (w.heap.size + 1 + 1) 3 i0 _ 1 8 Try.underlying54 HI.out hz0' hz1' hz2' rfl (by omega) v3 _ _ rfl E24.o3 ⟨D14.heap.size, 0, none⟩ 1 1 [.int .i64 g.blo] rfl rfl (World.news_of_block q24_2) (by simp [Value.oneCell']) (by omega) (by have := HLEN.out; omega) (by have := HLEN.out; omega) (by have := E24.fr.size; omega) D24.heap.size rfl ?_; intro gg25 cap25 D25 ho25 hg25 hat25 _)
          have E25 := E24.app3 hg25 ho25 (hat25.imp id (fun e => by omega))
          refine ⟨inFx E25.fr, ?_⟩
          refine tq_done (r := [_, _, _, _, _]) rfl ?_
          have qq := HT2.out.qp.fr E25.fr np
          have y0 := qq.cell 0
          have y1 := qq.cell 1
          have y2 := qq.cell 2
          have f0 := qq.frozen 0
          have f1 := qq.frozen 1
          have f2 := qq.frozen 2
          have lq := qq.lt
          simp at y0 y1 y2
          have T9 := HT2.out.leave hRge E25
          clear qq
          go_wp2_with fail
          refine ⟨⟨k + 1, _, _, _, _, _, _, by omega, T9, Lib.hid (end_snoc hE.out HX1.out (by first | exact HCL.out.symm | exact HCH.out.symm) rfl), exFrame (by kernel_rfl)⟩, ?_⟩
          show h.length - (intOf (.int .i64 ((k : Int) + 1))).toNat < h.length - (intOf (.int .i64 (k : Int))).toNat
          simp [intOf]
          omega
      · have E26 := E1.alloc (.cells #[.int .i64 g.blo] 3)
        have q26_0 := q1_0.alloc (.cells #[.int .i64 g.blo] 3)
        have q26_2 : Blk (D1.alloc (.cells #[.int .i64 g.blo] 3)) D1.heap.size 3 #[.int .i64 g.blo] := Blk.new _ _ _
        have g26 : V.heap.size ≤ D1.heap.size := E1.fr.size
        go_wp2_with fail
        refine ⟨inFx E26.fr, ?_⟩
        generalize D1.alloc (.cells #[.int .i64 g.blo] 3) = D26 at *
        refine tq_fork rfl rfl ?_ ?_
        · go_wp2_with (at_builtin; refine wpList_append_lies _ rfl _ _ _ rfl (w.heap.size + 1 + 1) 3 i0 _ 1 8 Try.underlying54 HI.out hz0' hz1' hz2' rfl (by omega) v1 _ _ rfl E26.o1 ⟨D.heap.size, 0, none⟩ 1 1 [.int .i64 x1] rfl rfl (World.news_of_block q26_0) (by simp [Value.oneCell']) (by omega) (by have := HLEN.out; omega) (by have := HLEN.out; omega) (by have := E26.fr.size; omega) D26.heap.size rfl ?_; intro gg27 cap27 D27 ho27 hg27 hat27 _)
          have E27 := E26.app1 hg27 ho27 (hat27.imp id (fun e => by omega))
          have q27_2 := q26_2.grown hg27 (fun e => by have := z1 _ e.symm; omega)
          refine ⟨inFx E27.fr, ?_⟩
          refine tq_quiet rfl ?_; go_big_quiet_step (fail); refine wpQuiet_nil ?_
          refine tq_loud rfl ?_
          have E28 := E27.alloc (.cells #[.int .i64 cl] 3)
          have q28_2 := q27_2.alloc (.cells #[.int .i64 cl] 3)
          have q28_1 : Blk (D27.alloc (.cells #[.int .i64 cl] 3)) D27.heap.size 3 #[.int .i64 cl] := Blk.new _ _ _
          have g28 : V.heap.size ≤ D27.heap.size := E27.fr.size
          go_wp2_with fail
          refine ⟨inFx E28.fr, ?_⟩
          generalize D27.alloc (.cells #[.int .i64 cl] 3) = D28 at *
          refine tq_loud rfl ?_
          go_wp2_with (at_builtin; refine wpList_append_lies _ rfl _ _ _ rfl (w.heap.size + 1 + 1) 3 i0 _ 1 8 Try.underlying54 HI.out hz0' hz1' hz2' rfl (by omega) v2 _ _ rfl E28.o2 ⟨D27.heap.size, 0, none⟩ 1 1 [.int .i64 cl] rfl rfl (World.news_of_block q28_1) (by simp [Value.oneCell']) (by omega) (by have := HLEN.out; omega) (by have := HLEN.out; omega) (by have := E28.fr.size; omega) D28.heap.size rfl ?_; intro gg29 cap29 D29 ho29 hg29 hat29 _)
          have E29 := E28.app2 hg29 ho29 (hat29.imp id (fun e => by omega))
          have q29_2 := q28_2.grown hg29 (fun e => by have := z2 _ e.symm; omega)
          refine ⟨inFx E29.fr, ?_⟩
          refine tq_loud rfl ?_
          go_wp2_with (at_builtin; refine wpList_append_lies _ rfl _ _ _ rfl (w.heap.size + 1 + 1) 3 i0 _ 1 8 Try.underlying54 HI.out hz0' hz1' hz2' rfl (by omega) v3 _ _ rfl E29.o3 ⟨D1.heap.size, 0, none⟩ 1 1 [.int .i64 g.blo] rfl rfl (World.news_of_block q29_2) (by simp [Value.oneCell']) (by omega) (by have := HLEN.out; omega) (by have := HLEN.out; omega) (by have := E29.fr.size; omega) D29.heap.size rfl ?_; intro gg30 cap30 D30 ho30 hg30 hat30 _)
          have E30 := E29.app3 hg30 ho30 (hat30.imp id (fun e => by omega))
          refine ⟨inFx E30.fr, ?_⟩
          refine tq_done (r := [_, _, _, _, _]) rfl ?_
          have qq := HT2.out.qp.fr E30.fr np
          have y0 := qq.cell 0
          have y1 := qq.cell 1
          have y2 := qq.cell 2
          have f0 := qq.frozen 0
          have f1 := qq.frozen 1
          have f2 := qq.frozen 2
          have lq := qq.lt
          simp at y0 y1 y2
          have T9 := HT2.out.leave hRge E30
          clear qq
          go_wp2_with fail
          refine ⟨⟨k + 1, _, _, _, _, _, _, by omega, T9, Lib.hid (end_snoc hE.out HX1.out (by first | exact HCL.out.symm | exact HCH.out.symm) rfl), exFrame (by kernel_rfl)⟩, ?_⟩
          show h.length - (intOf (.int .i64 ((k : Int) + 1))).toNat < h.length - (intOf (.int .i64 (k : Int))).toNat
          simp [intOf]
          omega
        · have E31 := E26.alloc (.cells #[.int .i64 cl] 3)
          have q31_0 := q26_0.alloc (.cells #[.int .i64 cl] 3)
          have q31_2 := q26_2.alloc (.cells #[.int .i64 cl] 3)
          have q31_1 : Blk (D26.alloc (.cells #[.int .i64 cl] 3)) D26.heap.size 3 #[.int .i64 cl] := Blk.new _ _ _
          have g31 : V.heap.size ≤ D26.heap.size := E26.fr.size
          go_wp2_with fail
          refine ⟨inFx E31.fr, ?_⟩
          generalize D26.alloc (.cells #[.int .i64 cl] 3) = D31 at *
          refine tq_loud rfl ?_
          go_wp2_with (at_builtin; refine wpList_append_lies _ rfl _ _ _ rfl (w.heap.size + 1 + 1) 3 i0 _ 1 8 Try.underlying54 HI.out hz0' hz1' hz2' rfl (by omega) v1 _ _ rfl E31.o1 ⟨D.heap.size, 0, none⟩ 1 1 [.int .i64 x1] rfl rfl (World.news_of_block q31_0) (by simp [Value.oneCell']) (by omega) (by have := HLEN.out; omega) (by have := HLEN.out; omega) (by have := E31.fr.size; omega) D31.heap.size rfl ?_; intro gg32 cap32 D32 ho32 hg32 hat32 _)
          have E32 := E31.app1 hg32 ho32 (hat32.imp id (fun e => by omega))
          have q32_2 := q31_2.grown hg32 (fun e => by have := z1 _ e.symm; omega)
          have q32_1 := q31_1.grown hg32 (fun e => by have := z1 _ e.symm; omega)
          refine ⟨inFx E32.fr, ?_⟩
          refine tq_quiet rfl ?_; go_big_quiet_step (fail); refine wpQuiet_nil ?_
          refine tq_loud rfl ?_
          go_wp2_with (at_builtin; refine wpList_append_lies _ rfl _ _ _ rfl (w.heap.size + 1 + 1) 3 i0 _ 1 8 Try.underlying54 HI.out hz0' hz1' hz2' rfl (by omega) v2 _ _ rfl E32.o2 ⟨D26.heap.size, 0, none⟩ 1 1 [.int .i64 cl] rfl rfl (World.news_of_block q32_1) (by simp [Value.oneCell']) (by omega) (by have := HLEN.out; omega) (by have := HLEN.out; omega) (by have := E32.fr.size; omega) D32.heap.size rfl ?_; intro gg33 cap33 D33 ho33 hg33 hat33 _)
          have E33 := E32.app2 hg33 ho33 (hat33.imp id (fun e => by omega))
          have q33_2 := q32_2.grown hg33 (fun e => by have := z2 _ e.symm; omega)
          refine ⟨inFx E33.fr, ?_⟩
          refine tq_loud rfl ?_
          go_wp2_with (at_builtin; refine wpList_append_lies _ rfl _ _ _ rfl (w.heap.size + 1 + 1) 3 i0 _ 1 8 Try.underlying54 HI.out hz0' hz1' hz2' rfl (by omega) v3 _ _ rfl E33.o3 ⟨D1.heap.size, 0, none⟩ 1 1 [.int .i64 g.blo] rfl rfl (World.news_of_block q33_2) (by simp [Value.oneCell']) (by omega) (by have := HLEN.out; omega) (by have := HLEN.out; omega) (by have := E33.fr.size; omega) D33.heap.size rfl ?_; intro gg34 cap34 D34 ho34 hg34 hat34 _)
          have E34 := E33.app3 hg34 ho34 (hat34.imp id (fun e => by omega))
          refine ⟨inFx E34.fr, ?_⟩
          refine tq_done (r := [_, _, _, _, _]) rfl ?_
          have qq := HT2.out.qp.fr E34.fr np
          have y0 := qq.cell 0
          have y1 := qq.cell 1
          have y2 := qq.cell 2
          have f0 := qq.frozen 0
          have f1 := qq.frozen 1
          have f2 := qq.frozen 2
          have lq := qq.lt
          simp at y0 y1 y2
          have T9 := HT2.out.leave hRge E34
          clear qq
          go_wp2_with fail
          refine ⟨⟨k + 1, _, _, _, _, _, _, by omega, T9, Lib.hid (end_snoc hE.out HX1.out (by first | exact HCL.out.symm | exact HCH.out.symm) rfl), exFrame (by kernel_rfl)⟩, ?_⟩
          show h.length - (intOf (.int .i64 ((k : Int) + 1))).toNat < h.length - (intOf (.int .i64 (k : Int))).toNat
          simp [intOf]
          omega
    · have E35 := EN0.alloc (.cells #[.int .i64 cl] 3)
      have q35_1 : Blk (D.alloc (.cells #[.int .i64 cl] 3)) D.heap.size 3 #[.int .i64 cl] := Blk.new _ _ _
      have g35 : V.heap.size ≤ D.heap.size := EN0.fr.size
      go_wp2_with fail
      refine ⟨inFx E35.fr, ?_⟩
      generalize D.alloc (.cells #[.int .i64 cl] 3) = D35 at *
      refine tq_fork rfl rfl ?_ ?_
      · have E36 := E35.alloc (.cells #[.int .i64 x1] 3)
        have q36_1 := q35_1.alloc (.cells #[.int .i64 x1] 3)
        have q36_0 : Blk (D35.alloc (.cells #[.int .i64 x1] 3)) D35.heap.size 3 #[.int .i64 x1] := Blk.new _ _ _
        have g36 : V.heap.size ≤ D35.heap.size := E35.fr.size
        go_wp2_with fail
        refine ⟨inFx E36.fr, ?_⟩
        generalize D35.alloc (.cells #[.int .i64 x1] 3) = D36 at *
        refine tq_fork rfl rfl ?_ ?_
        · go_wp2_with (at_builtin; refine wpList_append_lies _ rfl _ _ _ rfl (w.heap.size + 1 + 1) 3 i0 _ 1 8 Try.underlying54 HI.out hz0' hz1' hz2' rfl (by omega) v1 _ _ rfl E36.o1 ⟨D35.heap.size, 0, none⟩ 1 1 [.int .i64 x1] rfl rfl (World.news_of_block q36_0) (by simp [Value.oneCell']) (by omega) (by have := HLEN.out; omega) (by have := HLEN.out; omega) (by have := E36.fr.size; omega) D36.heap.size rfl ?_; intro gg37 cap37 D37 ho37 hg37 hat37 _)
          have E37 := E36.app1 hg37 ho37 (hat37.imp id (fun e => by omega))
          have q37_1 := q36_1.grown hg37 (fun e => by have := z1 _ e.symm; omega)
          refine ⟨inFx E37.fr, ?_⟩
          refine tq_quiet rfl ?_; go_big_quiet_step (fail); refine wpQuiet_nil ?_
          refine tq_fork rfl rfl ?_ ?_
          · go_wp2_with (at_builtin; refine wpList_append_lies _ rfl _ _ _ rfl (w.heap.size + 1 + 1) 3 i0 _ 1 8 Try.underlying54 HI.out hz0' hz1' hz2' rfl (by omega) v2 _ _ rfl E37.o2 ⟨D.heap.size, 0, none⟩ 1 1 [.int .i64 cl] rfl rfl (World.news_of_block q37_1) (by simp [Value.oneCell']) (by omega) (by have := HLEN.out; omega) (by have := HLEN.out; omega) (by have := E37.fr.size; omega) D37.heap.size rfl ?_; intro gg38 cap38 D38 ho38 hg38 hat38 _)
            have E38 := E37.app2 hg38 ho38 (hat38.imp id (fun e => by omega))
            refine ⟨inFx E38.fr, ?_⟩
            refine tq_loud rfl ?_
            have E39 := E38.alloc (.cells #[.int .i64 g.blo] 3)
            have q39_2 : Blk (D38.alloc (.cells #[.int .i64 g.blo] 3)) D38.heap.size 3 #[.int .i64 g.blo] := Blk.new _ _ _
            have g39 : V.heap.size ≤ D38.heap.size := E38.fr.size
            go_wp2_with fail
            refine ⟨inFx E39.fr, ?_⟩
            generalize D38.alloc (.cells #[.int .i64 g.blo] 3) = D39 at *
            refine tq_loud rfl ?_
            go_wp2_with (at_builtin; refine wpList_append_lies _ rfl _ _ _ rfl (w.heap.size + 1 + 1) 3 i0 _ 1 8 Try.underlying54 HI.out hz0' hz1' hz2' rfl (by omega) v3 _ _ rfl E39.o3 ⟨D38.heap.size, 0, none⟩ 1 1 [.int .i64 g.blo] rfl rfl (World.news_of_block q39_2) (by simp [Value.oneCell']) (by omega) (by have := HLEN.out; omega) (by have := HLEN.out; omega) (by have := E39.fr.size; omega) D39.heap.size rfl ?_; intro gg40 cap40 D40 ho40 hg40 hat40 _)
            have E40 := E39.app3 hg40 ho40 (hat40.imp id (fun e => by omega))
            refine ⟨inFx E40.fr, ?_⟩
            refine tq_done (r := [_, _, _, _, _]) rfl ?_
            have qq := HT2.out.qp.fr E40.fr np
            have y0 := qq.cell 0
            have y1 := qq.cell 1
            have y2 := qq.cell 2
            have f0 := qq.frozen 0
            have f1 := qq.frozen 1
            have f2 := qq.frozen 2
            have lq := qq.lt
            simp at y0 y1 y2
            have T9 := HT2.out.leave hRge E40
            clear qq
            go_wp2_with fail
            refine ⟨⟨k + 1, _, _, _, _, _, _, by omega, T9, Lib.hid (end_snoc hE.out HX1.out (by first | exact HCL.out.symm | exact HCH.out.symm) rfl), exFrame (by kernel_rfl)⟩, ?_⟩
            show h.length - (intOf (.int .i64 ((k : Int) + 1))).toNat < h.length - (intOf (.int .i64 (k : Int))).toNat
            simp [intOf]
            omega
          · have E41 := E37.alloc (.cells #[.int .i64 g.blo] 3)
            have q41_1 := q37_1.alloc (.cells #[.int .i64 g.blo] 3)
            have q41_2 : Blk (D37.alloc (.cells #[.int .i64 g.blo] 3)) D37.heap.size 3 #[.int .i64 g.blo] := Blk.new _ _ _
            have g41 : V.heap.size ≤ D37.heap.size := E37.fr.size
            go_wp2_with fail
            refine ⟨inFx E41.fr, ?_⟩
            generalize D37.alloc (.cells #[.int .i64 g.blo] 3) = D41 at *
            refine tq_loud rfl ?_
            go_wp2_with (at_builtin; refine wpList_append_lies _ rfl _ _ _ rfl (w.heap.size + 1 + 1) 3 i0 _ 1 8 Try.underlying54 HI.out hz0' hz1' hz2' rfl (by omega) v2 _ _ rfl E41.o2 ⟨D.heap.size, 0, none⟩ 1 1 [.int .i64 cl] rfl rfl (World.news_of_block q41_1) (by simp [Value.oneCell']) (by omega) (by have := HLEN.out; omega) (by have := HLEN.out; omega) (by have := E41.fr.size; omega) D41.heap.size rfl ?_; intro gg42 cap42 D42 ho42 hg42 hat42 _)
            have E42 := E41.app2 hg42 ho42 (hat42.imp id (fun e => by omega))
            have q42_2 := q41_2.grown hg42 (fun e => by have := z2 _ e.symm; omega)
            refine ⟨inFx E42.fr, ?_⟩
            refine tq_loud rfl ?_
            go_wp2_with (at_builtin; refine wpList_append_lies _ rfl _ _ _ rfl (w.heap.size + 1 + 1) 3 i0 _ 1 8 Try.underlying54 HI.out hz0' hz1' hz2' rfl (by omega) v3 _ _ rfl E42.o3 ⟨D37.heap.size, 0, none⟩ 1 1 [.int .i64 g.blo] rfl rfl (World.news_of_block q42_2) (by simp [Value.oneCell']) (by omega) (by have := HLEN.out; omega) (by have := HLEN.out; omega) (by have := E42.fr.size; omega) D42.heap.size rfl ?_; intro gg43 cap43 D43 ho43 hg43 hat43 _)
            have E43 := E42.app3 hg43 ho43 (hat43.imp id (fun e => by omega))
            refine ⟨inFx E43.fr, ?_⟩
            refine tq_done (r := [_, _, _, _, _]) rfl ?_
            have qq := HT2.out.qp.fr E43.fr np
            have y0 := qq.cell 0
            have y1 := qq.cell 1
            have y2 := qq.cell 2
            have f0 := qq.frozen 0
            have f1 := qq.frozen 1
            have f2 := qq.frozen 2
            have lq := qq.lt
            simp at y0 y1 y2
            have T9 := HT2.out.leave hRge E43
            clear qq
            go_wp2_with fail
            refine ⟨⟨k + 1, _, _, _, _, _, _, by omega, T9, Lib.hid (end_snoc hE.out HX1.out (by first | exact HCL.out.symm | exact HCH.out.symm) rfl), exFrame (by kernel_rfl)⟩, ?_⟩
            show h.length - (intOf (.int .i64 ((k : Int) + 1))).toNat < h.length - (intOf (.int .i64 (k : Int))).toNat
            simp [intOf]
            omega
        · have E44 := E36.alloc (.cells #[.int .i64 g.blo] 3)
          have q44_1 := q36_1.alloc (.cells #[.int .i64 g.blo] 3)
          have q44_0 := q36_0.alloc (.cells #[.int .i64 g.blo] 3)
          have q44_2 : Blk (D36.alloc (.cells #[.int .i64 g.blo] 3)) D36.heap.size 3 #[.int .i64 g.blo] := Blk.new _ _ _
          have g44 : V.heap.size ≤ D36.heap.size := E36.fr.size
          go_wp2_with fail
          refine ⟨inFx E44.fr, ?_⟩
          generalize D36.alloc (.cells #[.int .i64 g.blo] 3) = D44 at *
          refine tq_loud rfl ?_
          go_wp2_with (at_builtin; refine wpList_append_lies _ rfl _ _ _ rfl (w.heap.size + 1 + 1) 3 i0 _ 1 8 Try.underlying54 HI.out hz0' hz1' hz2' rfl (by omega) v1 _ _ rfl E44.o1 ⟨D35.heap.size, 0, none⟩ 1 1 [.int .i64 x1] rfl rfl (World.news_of_block q44_0) (by simp [Value.oneCell']) (by omega) (by have := HLEN.out; omega) (by have := HLEN.out; omega) (by have := E44.fr.size; omega) D44.heap.size rfl ?_; intro gg45 cap45 D45 ho45 hg45 hat45 _)
          have E45 := E44.app1 hg45 ho45 (hat45.imp id (fun e => by omega))
          have q45_1 := q44_1.grown hg45 (fun e => by have := z1 _ e.symm; omega)
          have q45_2 := q44_2.grown hg45 (fun e => by have := z1 _ e.symm; omega)
          refine ⟨inFx E45.fr, ?_⟩
          refine tq_quiet rfl ?_; go_big_quiet_step (fail); refine wpQuiet_nil ?_
          refine tq_loud rfl ?_
          go_wp2_with (at_builtin; refine wpList_append_lies _ rfl _ _ _ rfl (w.heap.size + 1 + 1) 3 i0 _ 1 8 Try.underlying54 HI.out hz0' hz1' hz2' rfl (by omega) v2 _ _ rfl E45.o2 ⟨D.heap.size, 0, none⟩ 1 1 [.int .i64 cl] rfl rfl (World.news_of_block q45_1) (by simp [Value.oneCell']) (by omega) (by have := HLEN.out; omega) (by have := HLEN.out; omega) (by have := E45.fr.size; omega) D45.heap.size rfl ?_; intro gg46 cap46 D46 ho46 hg46 hat46 _)
          have E46 := E45.app2 hg46 ho46 (hat46.imp id (fun e => by omega))
          have q46_2 := q45_2.grown hg46 (fun e => by have := z2 _ e.symm; omega)
          refine ⟨inFx E46.fr, ?_⟩
          refine tq_loud rfl ?_
          go_wp2_with (at_builtin; refine wpList_append_lies _ rfl _ _ _ rfl (w.heap.size + 1 + 1) 3 i0 _ 1 8 Try.underlying54 HI.out hz0' hz1' hz2' rfl (by omega) v3 _ _ rfl E46.o3 ⟨D36.heap.size, 0, none⟩ 1 1 [.int .i64 g.blo] rfl rfl (World.news_of_block q46_2) (by simp [Value.oneCell']) (by omega) (by have := HLEN.out; omega) (by have := HLEN.out; omega) (by have := E46.fr.size; omega) D46.heap.size rfl ?_; intro gg47 cap47 D47 ho47 hg47 hat47 _)
          have E47 := E46.app3 hg47 ho47 (hat47.imp id (fun e => by omega))
          refine ⟨inFx E47.fr, ?_⟩
          refine tq_done (r := [_, _, _, _, _]) rfl ?_
          have qq := HT2.out.qp.fr E47.fr np
          have y0 := qq.cell 0
          have y1 := qq.cell 1
          have y2 := qq.cell 2
          have f0 := qq.frozen 0
          have f1 := qq.frozen 1
          have f2 := qq.frozen 2
          have lq := qq.lt
          simp at y0 y1 y2
          have T9 := HT2.out.leave hRge E47
          clear qq
          go_wp2_with fail
          refine ⟨⟨k + 1, _, _, _, _, _, _, by omega, T9, Lib.hid (end_snoc hE.out HX1.out (by first | exact HCL.out.symm | exact HCH.out.symm) rfl), exFrame (by kernel_rfl)⟩, ?_⟩
          show h.length - (intOf (.int .i64 ((k : Int) + 1))).toNat < h.length - (intOf (.int .i64 (k : Int))).toNat
          simp [intOf]
          omega
      · have E48 := E35.alloc (.cells #[.int .i64 g.blo] 3)
        have q48_1 := q35_1.alloc (.cells #[.int .i64 g.blo] 3)
        have q48_2 : Blk (D35.alloc (.cells #[.int .i64 g.blo] 3)) D35.heap.size 3 #[.int .i64 g.blo] := Blk.new _ _ _
        have g48 : V.heap.size ≤ D35.heap.size := E35.fr.size
        go_wp2_with fail
        refine ⟨inFx E48.fr, ?_⟩
        generalize D35.alloc (.cells #[.int .i64 g.blo] 3) = D48 at *
        refine tq_loud rfl ?_
        have E49 := E48.alloc (.cells #[.int .i64 x1] 3)
        have q49_1 := q48_1.alloc (.cells #[.int .i64 x1] 3)
        have q49_2 := q48_2.alloc (.cells #[.int .i64 x1] 3)
        have q49_0 : Blk (D48.alloc (.cells #[.int .i64 x1] 3)) D48.heap.size 3 #[.int .i64 x1] := Blk.new _ _ _
        have g49 : V.heap.size ≤ D48.heap.size := E48.fr.size
        go_wp2_with fail
        refine ⟨inFx E49.fr, ?_⟩
        generalize D48.alloc (.cells #[.int .i64 x1] 3) = D49 at *
        refine tq_loud rfl ?_
        go_wp2_with (at_builtin; refine wpList_append_lies _ rfl _ _ _ rfl (w.heap.size + 1 + 1) 3 i0 _ 1 8 Try.underlying54 HI.out hz0' hz1' hz2' rfl (by omega) v1 _ _ rfl E49.o1 ⟨D48.heap.size, 0, none⟩ 1 1 [.int .i64 x1] rfl rfl (World.news_of_block q49_0) (by simp [Value.oneCell']) (by omega) (by have := HLEN.out; omega) (by have := HLEN.out; omega) (by have := E49.fr.size; omega) D49.heap.size rfl ?_; intro gg50 cap50 D50 ho50 hg50 hat50 _)
        have E50 := E49.app1 hg50 ho50 (hat50.imp id (fun e => by omega))
        have q50_1 := q49_1.grown hg50 (fun e => by have := z1 _ e.symm; omega)
        have q50_2 := q49_2.grown hg50 (fun e => by have := z1 _ e.symm; omega)
        refine ⟨inFx E50.fr, ?_⟩
        refine tq_quiet rfl ?_; go_big_quiet_step (fail); refine wpQuiet_nil ?_
        refine tq_loud rfl ?_
        go_wp2_with (at_builtin; refine wpList_append_lies _ rfl _ _ _ rfl (w.heap.size + 1 + 1) 3 i0 _ 1 8 Try.underlying54 HI.out hz0' hz1' hz2' rfl (by omega) v2 _ _ rfl E50.o2 ⟨D.heap.size, 0, none⟩ 1 1 [.int .i64 cl] rfl rfl (World.news_of_block q50_1) (by simp [Value.oneCell']) (by omega) (by have := HLEN.out; omega) (by have := HLEN.out; omega) (by have := E50.fr.size; omega) D50.heap.size rfl ?_; intro gg51 cap51 D51 ho51 hg51 hat51 _)
        have E51 := E50.app2 hg51 ho51 (hat51.imp id (fun e => by omega))
        have q51_2 := q50_2.grown hg51 (fun e => by have := z2 _ e.symm; omega)
        refine ⟨inFx E51.fr, ?_⟩
        refine tq_loud rfl ?_
        go_wp2_with (at_builtin; refine wpList_append_lies _ rfl _ _ _ rfl (w.heap.size + 1 + 1) 3 i0 _ 1 8 Try.underlying54 HI.out hz0' hz1' hz2' rfl (by omega) v3 _ _ rfl E51.o3 ⟨D35.heap.size, 0, none⟩ 1 1 [.int .i64 g.blo] rfl rfl (World.news_of_block q51_2) (by simp [Value.oneCell']) (by omega) (by have := HLEN.out; omega) (by have := HLEN.out; omega) (by have := E51.fr.size; omega) D51.heap.size rfl ?_; intro gg52 cap52 D52 ho52 hg52 hat52 _)
        have E52 := E51.app3 hg52 ho52 (hat52.imp id (fun e => by omega))
        refine ⟨inFx E52.fr, ?_⟩
        refine tq_done (r := [_, _, _, _, _]) rfl ?_
        have qq := HT2.out.qp.fr E52.fr np
        have y0 := qq.cell 0
        have y1 := qq.cell 1
        have y2 := qq.cell 2
        have f0 := qq.frozen 0
        have f1 := qq.frozen 1
        have f2 := qq.frozen 2
        have lq := qq.lt
        simp at y0 y1 y2
        have T9 := HT2.out.leave hRge E52
        clear qq
        go_wp2_with fail
        refine ⟨⟨k + 1, _, _, _, _, _, _, by omega, T9, Lib.hid (end_snoc hE.out HX1.out (by first | exact HCL.out.symm | exact HCH.out.symm) rfl), exFrame (by kernel_rfl)⟩, ?_⟩
        show h.length - (intOf (.int .i64 ((k : Int) + 1))).toNat < h.length - (intOf (.int .i64 (k : Int))).toNat
        simp [intOf]
        omega
    · have E53 := EN0.alloc (.cells #[.int .i64 g.blo] 3)
      have q53_2 : Blk (D.alloc (.cells #[.int .i64 g.blo] 3)) D.heap.size 3 #[.int .i64 g.blo] := Blk.new _ _ _
      have g53 : V.heap.size ≤ D.heap.size := EN0.fr.size
      go_wp2_with fail
      refine ⟨inFx E53.fr, ?_⟩
      generalize D.alloc (.cells #[.int .i64 g.blo] 3) = D53 at *
      refine tq_fork rfl rfl ?_ ?_
      · have E54 := E53.alloc (.cells #[.int .i64 x1] 3)
        have q54_2 := q53_2.alloc (.cells #[.int .i64 x1] 3)
        have q54_0 : Blk (D53.alloc (.cells #[.int .i64 x1] 3)) D53.heap.size 3 #[.int .i64 x1] := Blk.new _ _ _
        have g54 : V.heap.size ≤ D53.heap.size := E53.fr.size
        go_wp2_with fail
        refine ⟨inFx E54.fr, ?_⟩
        generalize D53.alloc (.cells #[.int .i64 x1] 3) = D54 at *
        refine tq_fork rfl rfl ?_ ?_
        · go_wp2_with (at_builtin; refine wpList_append_lies _ rfl _ _ _ rfl (w.heap.size + 1 + 1) 3 i0 _ 1 8 Try.underlying54 HI.out hz0' hz1' hz2' rfl (by omega) v1 _ _ rfl E54.o1 ⟨D53.heap.size, 0, none⟩ 1 1 [.int .i64 x1] rfl rfl (World.news_of_block q54_0) (by simp [Value.oneCell']) (by omega) (by have := HLEN.out; omega) (by have := HLEN.out; omega) (by have := E54.fr.size; omega) D54.heap.size rfl ?_; intro gg55 cap55 D55 ho55 hg55 hat55 _)
          have E55 := E54.app1 hg55 ho55 (hat55.imp id (fun e => by omega))
          have q55_2 := q54_2.grown hg55 (fun e => by have := z1 _ e.symm; omega)
          refine ⟨inFx E55.fr, ?_⟩
          refine tq_quiet rfl ?_; go_big_quiet_step (fail); refine wpQuiet_nil ?_
          refine tq_loud rfl ?_
          have E56 := E55.alloc (.cells #[.int .i64 cl] 3)
          have q56_2 := q55_2.alloc (.cells #[.int .i64 cl] 3)
          have q56_1 : Blk (D55.alloc (.cells #[.int .i64 cl] 3)) D55.heap.size 3 #[.int .i64 cl] := Blk.new _ _ _
          have g56 : V.heap.size ≤ D55.heap.size := E55.fr.size
          go_wp2_with fail
          refine ⟨inFx E56.fr, ?_⟩
          generalize D55.alloc (.cells #[.int .i64 cl] 3) = D56 at *
          refine tq_loud rfl ?_
          go_wp2_with (at_builtin; refine wpList_append_lies _ rfl _ _ _ rfl (w.heap.size + 1 + 1) 3 i0 _ 1 8 Try.underlying54 HI.out hz0' hz1' hz2' rfl (by omega) v2 _ _ rfl E56.o2 ⟨D55.heap.size, 0, none⟩ 1 1 [.int .i64 cl] rfl rfl (World.news_of_block q56_1) (by simp [Value.oneCell']) (by omega) (by have := HLEN.out; omega) (by have := HLEN.out; omega) (by have := E56.fr.size; omega) D56.heap.size rfl ?_; intro gg57 cap57 D57 ho57 hg57 hat57 _)
          have E57 := E56.app2 hg57 ho57 (hat57.imp id (fun e => by omega))
          have q57_2 := q56_2.grown hg57 (fun e => by have := z2 _ e.symm; omega)
          refine ⟨inFx E57.fr, ?_⟩
          refine tq_loud rfl ?_
          go_wp2_with (at_builtin; refine wpList_append_lies _ rfl _ _ _ rfl (w.heap.size + 1 + 1) 3 i0 _ 1 8 Try.underlying54 HI.out hz0' hz1' hz2' rfl (by omega) v3 _ _ rfl E57.o3 ⟨D.heap.size, 0, none⟩ 1 1 [.int .i64 g.blo] rfl rfl (World.news_of_block q57_2) (by simp [Value.oneCell']) (by omega) (by have := HLEN.out; omega) (by have := HLEN.out; omega) (by have := E57.fr.size; omega) D57.heap.size rfl ?_; intro gg58 cap58 D58 ho58 hg58 hat58 _)
          have E58 := E57.app3 hg58 ho58 (hat58.imp id (fun e => by omega))
          refine ⟨inFx E58.fr, ?_⟩
          refine tq_done (r := [_, _, _, _, _]) rfl ?_
          have qq := HT2.out.qp.fr E58.fr np
          have y0 := qq.cell 0
          have y1 := qq.cell 1
          have y2 := qq.cell 2
          have f0 := qq.frozen 0
          have f1 := qq.frozen 1
          have f2 := qq.frozen 2
          have lq := qq.lt
          simp at y0 y1 y2
          have T9 := HT2.out.leave hRge E58
          clear qq
          go_wp2_with fail
          refine ⟨⟨k + 1, _, _, _, _, _, _, by omega, T9, Lib.hid (end_snoc hE.out HX1.out (by first | exact HCL.out.symm | exact HCH.out.symm) rfl), exFrame (by kernel_rfl)⟩, ?_⟩
          show h.length - (intOf (.int .i64 ((k : Int) + 1))).toNat < h.length - (intOf (.int .i64 (k : Int))).toNat
          simp [intOf]
          omega
        · have E59 := E54.alloc (.cells #[.int .i64 cl] 3)
          have q59_2 := q54_2.alloc (.cells #[.int .i64 cl] 3)
          have q59_0 := q54_0.alloc (.cells #[.int .i64 cl] 3)
          have q59_1 : Blk (D54.alloc (.cells #[.int .i64 cl] 3)) D54.heap.size 3 #[.int .i64 cl] := Blk.new _ _ _
          have g59 : V.heap.size ≤ D54.heap.size := E54.fr.size
          go_wp2_with fail
          refine ⟨inFx E59.fr, ?_⟩
          generalize D54.alloc (.cells #[.int .i64 cl] 3) = D59 at *
          refine tq_loud rfl ?_
          go_wp2_with (at_builtin; refine wpList_append_lies _ rfl _ _ _ rfl (w.heap.size + 1 + 1) 3 i0 _ 1 8 Try.underlying54 HI.out hz0' hz1' hz2' rfl (by omega) v1 _ _ rfl E59.o1 ⟨D53.heap.size, 0, none⟩ 1 1 [.int .i64 x1] rfl rfl (World.news_of_block q59_0) (by simp [Value.oneCell']) (by omega) (by have := HLEN.out; omega) (by have := HLEN.out; omega) (by have := E59.fr.size; omega) D59.heap.size rfl ?_; intro gg60 cap60 D60 ho60 hg60 hat60 _)
          have E60 := E59.app1 hg60 ho60 (hat60.imp id (fun e => by omega))
          have q60_2 := q59_2.grown hg60 (fun e => by have := z1 _ e.symm; omega)
          have q60_1 := q59_1.grown hg60 (fun e => by have := z1 _ e.symm; omega)
          refine ⟨inFx E60.fr, ?_⟩
          refine tq_quiet rfl ?_; go_big_quiet_step (fail); refine wpQuiet_nil ?_
          refine tq_loud rfl ?_
          go_wp2_with (at_builtin; refine wpList_append_lies _ rfl _ _ _ rfl (w.heap.size + 1 + 1) 3 i0 _ 1 8 Try.underlying54 HI.out hz0' hz1' hz2' rfl (by omega) v2 _ _ rfl E60.o2 ⟨D54.heap.size, 0, none⟩ 1 1 [.int .i64 cl] rfl rfl (World.news_of_block q60_1) (by simp [Value.oneCell']) (by omega) (by have := HLEN.out; omega) (by have := HLEN.out; omega) (by have := E60.fr.size; omega) D60.heap.size rfl ?_; intro gg61 cap61 D61 ho61 hg61 hat61 _)
          have E61 := E60.app2 hg61 ho61 (hat61.imp id (fun e => by omega))
          have q61_2 := q60_2.grown hg61 (fun e => by have := z2 _ e.symm; omega)
          refine ⟨inFx E61.fr, ?_⟩
          refine tq_loud rfl ?_
          go_wp2_with (at_builtin; refine wpList_append_lies _ rfl _ _ _ rfl (w.heap.size + 1 + 1) 3 i0 _ 1 8 Try.underlying54 HI.out hz0' hz1' hz2' rfl (by omega) v3 _ _ rfl E61.o3 ⟨D.heap.size, 0, none⟩ 1 1 [.int .i64 g.blo] rfl rfl (World.news_of_block q61_2) (by simp [Value.oneCell']) (by omega) (by have := HLEN.out; omega) (by have := HLEN.out; omega) (by have := E61.fr.size; omega) D61.heap.size rfl ?_; intro gg62 cap62 D62 ho62 hg62 hat62 _)
          have E62 := E61.app3 hg62 ho62 (hat62.imp id (fun e => by omega))
          refine ⟨inFx E62.fr, ?_⟩
          refine tq_done (r := [_, _, _, _, _]) rfl ?_
          have qq := HT2.out.qp.fr E62.fr np
          have y0 := qq.cell 0
          have y1 := qq.cell 1
          have y2 := qq.cell 2
          have f0 := qq.frozen 0
          have f1 := qq.frozen 1
          have f2 := qq.frozen 2
          have lq := qq.lt
          simp at y0 y1 y2
          have T9 := HT2.out.leave hRge E62
          clear qq
          go_wp2_with fail
          refine ⟨⟨k + 1, _, _, _, _, _, _, by omega, T9, Lib.hid (end_snoc hE.out HX1.out (by first | exact HCL.out.symm | exact HCH.out.symm) rfl), exFrame (by kernel_rfl)⟩, ?_⟩
          show h.length - (intOf (.int .i64 ((k : Int) + 1))).toNat < h.length - (intOf (.int .i64 (k : Int))).toNat
          simp [intOf]
          omega
      · have E63 := E53.alloc (.cells #[.int .i64 cl] 3)
        have q63_2 := q53_2.alloc (.cells #[.int .i64 cl] 3)
        have q63_1 : Blk (D53.alloc (.cells #[.int .i64 cl] 3)) D53.heap.size 3 #[.int .i64 cl] := Blk.new _ _ _
        have g63 : V.heap.size ≤ D53.heap.size := E53.fr.size
        go_wp2_with fail
        refine ⟨inFx E63.fr, ?_⟩
        generalize D53.alloc (.cells #[.int .i64 cl] 3) = D63 at *
        refine tq_loud rfl ?_
        have E64 := E63.alloc (.cells #[.int .i64 x1] 3)
        have q64_2 := q63_2.alloc (.cells #[.int .i64 x1] 3)
        have q64_1 := q63_1.alloc (.cells #[.int .i64 x1] 3)
        have q64_0 : Blk (D63.alloc (.cells #[.int .i64 x1] 3)) D63.heap.size 3 #[.int .i64 x1] := Blk.new _ _ _
        have g64 : V.heap.size ≤ D63.heap.size := E63.fr.size
        go_wp2_with fail
        refine ⟨inFx E64.fr, ?_⟩
        generalize D63.alloc (.cells #[.int .i64 x1] 3) = D64 at *
        refine tq_loud rfl ?_
        go_wp2_with (at_builtin; refine wpList_append_lies _ rfl _ _ _ rfl (w.heap.size + 1 + 1) 3 i0 _ 1 8 Try.underlying54 HI.out hz0' hz1' hz2' rfl (by omega) v1 _ _ rfl E64.o1 ⟨D63.heap.size, 0, none⟩ 1 1 [.int .i64 x1] rfl rfl (World.news_of_block q64_0) (by simp [Value.oneCell']) (by omega) (by have := HLEN.out; omega) (by have := HLEN.out; omega) (by have := E64.fr.size; omega) D64.heap.size rfl ?_; intro gg65 cap65 D65 ho65 hg65 hat65 _)
        have E65 := E64.app1 hg65 ho65 (hat65.imp id (fun e => by omega))
        have q65_2 := q64_2.grown hg65 (fun e => by have := z1 _ e.symm; omega)
        have q65_1 := q64_1.grown hg65 (fun e => by have := z1 _ e.symm; omega)
        refine ⟨inFx E65.fr, ?_⟩
        refine tq_quiet rfl ?_; go_big_quiet_step (fail); refine wpQuiet_nil ?_
        refine tq_loud rfl ?_
        go_wp2_with (at_builtin; refine wpList_append_lies _ rfl _ _ _ rfl (w.heap.size + 1 + 1) 3 i0 _ 1 8 Try.underlying54 HI.out hz0' hz1' hz2' rfl (by omega) v2 _ _ rfl E65.o2 ⟨D53.heap.size, 0, none⟩ 1 1 [.int .i64 cl] rfl rfl (World.news_of_block q65_1) (by simp [Value.oneCell']) (by omega) (by have := HLEN.out; omega) (by have := HLEN.out; omega) (by have := E65.fr.size; omega) D65.heap.size rfl ?_; intro gg66 cap66 D66 ho66 hg66 hat66 _)
        have E66 := E65.app2 hg66 ho66 (hat66.imp id (fun e => by omega))
        have q66_2 := q65_2.grown hg66 (fun e => by have := z2 _ e.symm; omega)
        refine ⟨inFx E66.fr, ?_⟩
        refine tq_loud rfl ?_
        go_wp2_with (at_builtin; refine wpList_append_lies _ rfl _ _ _ rfl (w.heap.size + 1 + 1) 3 i0 _ 1 8 Try.underlying54 HI.out hz0' hz1' hz2' rfl (by omega) v3 _ _ rfl E66.o3 ⟨D.heap.size, 0, none⟩ 1 1 [.int .i64 g.blo] rfl rfl (World.news_of_block q66_2) (by simp [Value.oneCell']) (by omega) (by have := HLEN.out; omega) (by have := HLEN.out; omega) (by have := E66.fr.size; omega) D66.heap.size rfl ?_; intro gg67 cap67 D67 ho67 hg67 hat67 _)
        have E67 := E66.app3 hg67 ho67 (hat67.imp id (fun e => by omega))
        refine ⟨inFx E67.fr, ?_⟩
        refine tq_done (r := [_, _, _, _, _]) rfl ?_
        have qq := HT2.out.qp.fr E67.fr np
        have y0 := qq.cell 0
        have y1 := qq.cell 1
        have y2 := qq.cell 2
        have f0 := qq.frozen 0
        have f1 := qq.frozen 1
        have f2 := qq.frozen 2
        have lq := qq.lt
        simp at y0 y1 y2
        have T9 := HT2.out.leave hRge E67
        clear qq
        go_wp2_with fail
        refine ⟨⟨k + 1, _, _, _, _, _, _, by omega, T9, Lib.hid (end_snoc hE.out HX1.out (by first | exact HCL.out.symm | exact HCH.out.symm) rfl), exFrame (by kernel_rfl)⟩, ?_⟩
        show h.length - (intOf (.int .i64 ((k : Int) + 1))).toNat < h.length - (intOf (.int .i64 (k : Int))).toNat
        simp [intOf]
        omega
  · have HKH : Hid (k = h.length) := Lib.hid (by omega)
    obtain ⟨A1, c1, rfl, _, s1⟩ := own_sl T0.o1
    obtain ⟨A2, c2, rfl, _, s2⟩ := own_sl T0.o2
    obtain ⟨A3, c3, rfl, _, s3⟩ := own_sl T0.o3
    have b0 : wr.cell? ⟨w.heap.size + 1 + 1, 0, none⟩ = some (.slice A1 l1.length c1) := T0.qp.cell 0
    have b1 : wr.cell? ⟨w.heap.size + 1 + 1, 1, none⟩ = some (.slice A2 l2.length c2) := T0.qp.cell 1
    have b2 : wr.cell? ⟨w.heap.size + 1 + 1, 2, none⟩ = some (.slice A3 l3.length c3) := T0.qp.cell 2
    have lp := T0.qp.lt
    have d0 : wr.cell? ⟨w.heap.size + 1, 0, none⟩ = some (.slice none 0 0) := T0.qr.cell 0
    have d1 : wr.cell? ⟨w.heap.size + 1, 1, none⟩ = some (.slice none 0 0) := T0.qr.cell 1
    have d2 : wr.cell? ⟨w.heap.size + 1, 2, none⟩ = some (.slice none 0 0) := T0.qr.cell 2
    have f0 := T0.qr.frozen 0
    have f1 := T0.qr.frozen 1
    have f2 := T0.qr.frozen 2
    have lr := T0.qr.lt
    have r5 := ((T0.qr.set_ 0 (.slice A1 l1.length c1)).set_ 1 (.slice A2 l2.length c2)).set_ 2 (.slice A3 l3.length c3)
    simp only [List.setIfInBounds_toArray, List.set_cons_zero, List.set_cons_succ] at r5
    have hf : Fr (fun b => b = w.heap.size + 1) wr (((wr.setCell ⟨w.heap.size + 1, 0, none⟩ (.slice A1 l1.length c1)).setCell ⟨w.heap.size + 1, 1, none⟩ (.slice A2 l2.length c2)).setCell ⟨w.heap.size + 1, 2, none⟩ (.slice A3 l3.length c3)) :=
      (((Fr.refl (fun b => b = w.heap.size + 1) wr).andSet rfl).andSet rfl).andSet rfl
    have hB := hf.toBelow T0.bw T0.bw.size (fun x hx => by omega)
    go_wp2
    refine bodyPost_ret (results_cell_row rfl _ _ (w.heap.size + 1) 56 #[.slice A1 l1.length c1, .slice A2 l2.length c2, .slice A3 l3.length c3] (0, 0) _ rfl r5 rfl rfl rfl) rfl ?_
    have o1 := own_fr T0.o1 hf (fun b hb hbp => own_blkne T0.o1 T0.qr (by decide) (hbp ▸ hb))
    have o2 := own_fr T0.o2 hf (fun b hb hbp => own_blkne T0.o2 T0.qr (by decide) (hbp ▸ hb))
    have o3 := own_fr T0.o3 hf (fun b hb hbp => own_blkne T0.o3 T0.qr (by decide) (hbp ▸ hb))
    obtain ⟨A1', c1', e1, _, s1'⟩ := own_sl o1
    obtain ⟨A2', c2', e2, _, s2'⟩ := own_sl o2
    obtain ⟨A3', c3', e3, _, s3'⟩ := own_sl o3
    injection e1 with e1a e1b e1c
    injection e2 with e2a e2b e2c
    injection e3 with e3a e3b e3c
    subst e1a e2a e3a
    exact ⟨⟨_, _, _, c1, c2, c3, l1, l2, l3, Lib.hid (by have := hE.out; rw [HKH.out] at this; exact this), rfl, s1', s2', s3'⟩, hB⟩
end Go.Proofs.Ytlgmeofpkfliaaa
end
