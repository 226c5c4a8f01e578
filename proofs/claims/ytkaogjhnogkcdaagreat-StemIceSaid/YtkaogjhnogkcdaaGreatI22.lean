/- The law's ended (walk): the truth of the ends. · What Stem's walks go out from: Glass' base (this text stands in place of wip/kit's KC, so that the kit's texts lie on Glass' own). · Maps with keys of any one type, as the program makes them (no key is ever taken out or laid anew): the runs of their operations. · Maps by what is at each key: any key may be laid anew. · Maps whose keys are told apart once: a range over one. · Mixed regions in the body of a range over a function. · A tree of orders in the body of a range over a function. · The law GlassEnds (walk). · The law's own ices (Read): they lie in a row of the call's own. -/
import Derived.Test.YtkaogjhnogkcdaaGreatI13
import Derived.Test.YtkaogjhnogkcdaaGreatI12
import Derived.Test.YtkaogjhnogkcdaaGreatI9
import Derived.Test.YtkaogjhnogkcdaaGreatI11
import Derived.Test.YtkaogjhnogkcdaaGreatI15
import Derived.Test.YtkaogjhnogkcdaaGreatI6
import Derived.Test.YtkaogjhnogkcdaaGreatI10
set_option linter.unusedVariables false
set_option linter.unusedSimpArgs false
set_option linter.unusedSectionVars false
section
namespace Go.Proofs.YtkaogjhnogkcdaaGreat
open Go.RowKit

structure Fx (w : World) (R : Nat → Prop) where
 W : World
 h : Fr R w W
instance (w : World) (R : Nat → Prop) : Nonempty (Fx w R) := ⟨⟨w, Fr.refl R w⟩⟩
theorem Fx.cell? {w : World} {R : Nat → Prop} (x : Fx w R) (b o : Nat) (hb : b < w.heap.size) (hne : ¬ R b) : x.W.cell? ⟨b, o, none⟩ = w.cell? ⟨b, o, none⟩ := World.cell?_of_block (x.h.block b hb hne)
theorem inFx {w w' : World} {R : Nat → Prop} (h : Fr R w w') : ∃ x : Fx w R, w' = x.W := ⟨⟨w', h⟩, rfl⟩
theorem Fr.drew {R : Nat → Prop} {w w' : World} (h : Fr R w w') : Fr R w w'.drew := ⟨h.os, h.tape, h.output, h.size, h.block⟩
theorem wp_region_fx_tq {P : Program} {Q : Exit → Act → World → Prop} {id : Nat} {a : Act} {w : World} {l : List Oper} (R : Nat → Prop) (n : Nat) (t : Tq) (hm : P.follows .mixedOrders = true)
  (hB : (tqeB .any l.toArray n t && decide (t.len = n)) = true) (hQ : ∀ d v c a w, Q (.panic c) (a.put d v) w → Q (.panic c) a w)
  (h : wqTree P l Q (fun w' => ∃ x : Fx w R, w' = x.W) n t a w.drew) : (Code.region id l.toArray true).wp P Q a w :=
 wp_region_tq n t _ hm hB hQ (inFx (Fr.refl R w).drew) h
attribute [local go_sem] Ex.cell? Ex.frozen? Fx.cell?

structure EN (b : Nat) (W0 : World) (R : Nat → Prop) (u1 u2 u3 : Value) (m1 m2 m3 : List Int) (W : World) : Prop where
 fr : Fr R W0 W
 o1 : W.ownsRow b 3 1 u1 m1.length (m1.map (Value.int .i64))
 o2 : W.ownsRow b 3 1 u2 m2.length (m2.map (Value.int .i64))
 o3 : W.ownsRow b 3 1 u3 m3.length (m3.map (Value.int .i64))
 n12 : ∀ x, u1.ownBlock = some x → u2.ownBlock ≠ some x
 n13 : ∀ x, u1.ownBlock = some x → u3.ownBlock ≠ some x
 n23 : ∀ x, u2.ownBlock = some x → u3.ownBlock ≠ some x
 r1 : ∀ x, u1.ownBlock = some x → R x ∨ W0.heap.size ≤ x
 r2 : ∀ x, u2.ownBlock = some x → R x ∨ W0.heap.size ≤ x
 r3 : ∀ x, u3.ownBlock = some x → R x ∨ W0.heap.size ≤ x
section
variable {b : Nat} {W0 : World} {R : Nat → Prop} {u1 u2 u3 : Value} {m1 m2 m3 : List Int} {W W' : World}
theorem EN.alloc (h : EN b W0 R u1 u2 u3 m1 m2 m3 W) (o : Obj) : EN b W0 R u1 u2 u3 m1 m2 m3 (W.alloc o) := by
 have hb : Below W.heap.size W (W.alloc o) := (Below.refl _ _).alloc (Nat.le_refl _) o
 exact ⟨h.fr.trans (Fr.below (R := fun _ => False) hb) (fun _ _ hx => hx.elim), own_below h.o1 hb, own_below h.o2 hb, own_below h.o3 hb, h.n12, h.n13, h.n23, h.r1, h.r2, h.r3⟩
theorem EN.app1 (h : EN b W0 R u1 u2 u3 m1 m2 m3 W) {gg cap : Nat} {x : Int} (hg : W.grownBy W' u1.ownBlock) (ho : W'.ownsRow b 3 1 (.slice (some ⟨gg, 0, none⟩) (m1.length + 1) cap) (m1.length + 1) (m1.map (Value.int .i64) ++ [.int .i64 x])) (hat : u1.ownBlock = some gg ∨ W.heap.size ≤ gg) :
  EN b W0 R (.slice (some ⟨gg, 0, none⟩) (m1.length + 1) cap) u2 u3 (m1 ++ [x]) m2 m3 W' := by
 have hf : Fr (fun y => u1.ownBlock = some y) W W' := Fr.grown hg (fun y hy => .inl hy)
 have hs := h.fr.size
 refine ⟨h.fr.trans hf (fun y hy hr => (h.r1 y hr).resolve_right (by omega)), own_snoc rfl ho, own_fr h.o2 hf (fun y hy hr => h.n12 y hr hy), own_fr h.o3 hf (fun y hy hr => h.n13 y hr hy), fun y hy hc => ?_, fun y hy hc => ?_, h.n23, fun y hy => ?_, h.r2, h.r3⟩
 all_goals
  have hy' : gg = y := by simpa [Value.ownBlock] using hy
  subst hy'
  rcases hat with hat | hat
 ·
  exact h.n12 gg hat hc
 ·
  have := own_lt h.o2 hc; omega
 ·
  exact h.n13 gg hat hc
 ·
  have := own_lt h.o3 hc; omega
 ·
  exact h.r1 gg hat
 ·
  exact .inr (by omega)
theorem EN.app2 (h : EN b W0 R u1 u2 u3 m1 m2 m3 W) {gg cap : Nat} {x : Int} (hg : W.grownBy W' u2.ownBlock) (ho : W'.ownsRow b 3 1 (.slice (some ⟨gg, 0, none⟩) (m2.length + 1) cap) (m2.length + 1) (m2.map (Value.int .i64) ++ [.int .i64 x])) (hat : u2.ownBlock = some gg ∨ W.heap.size ≤ gg) :
  EN b W0 R u1 (.slice (some ⟨gg, 0, none⟩) (m2.length + 1) cap) u3 m1 (m2 ++ [x]) m3 W' := by
 have hf : Fr (fun y => u2.ownBlock = some y) W W' := Fr.grown hg (fun y hy => .inl hy)
 have hs := h.fr.size
 refine ⟨h.fr.trans hf (fun y hy hr => (h.r2 y hr).resolve_right (by omega)), own_fr h.o1 hf (fun y hy hr => h.n12 y hy hr), own_snoc rfl ho, own_fr h.o3 hf (fun y hy hr => h.n23 y hr hy), fun y hc hy => ?_, h.n13, fun y hy hc => ?_, h.r1, fun y hy => ?_, h.r3⟩
 all_goals
  have hy' : gg = y := by simpa [Value.ownBlock] using hy
  subst hy'
  rcases hat with hat | hat
 ·
  exact h.n12 gg hc hat
 ·
  have := own_lt h.o1 hc; omega
 ·
  exact h.n23 gg hat hc
 ·
  have := own_lt h.o3 hc; omega
 ·
  exact h.r2 gg hat
 ·
  exact .inr (by omega)
end
theorem TR.leave {gc : Array Value} {w : World} {v1 v2 v3 u1 u2 u3 : Value} {l1 l2 l3 m1 m2 m3 : List Int} {W0 W : World} {R : Nat → Prop} (h : TR gc w v1 v2 v3 l1 l2 l3 W0) (hR : ∀ y, R y → w.heap.size + 1 + 1 < y) (e : EN (w.heap.size + 1 + 1) W0 R u1 u2 u3 m1 m2 m3 W) :
  TR gc w u1 u2 u3 m1 m2 m3 (((W.setCell ⟨w.heap.size + 1 + 1, 0, none⟩ u1).setCell ⟨w.heap.size + 1 + 1, 1, none⟩ u2).setCell ⟨w.heap.size + 1 + 1, 2, none⟩ u3) := by
 have hf : Fr (fun y => y = w.heap.size + 1 + 1) W (((W.setCell ⟨w.heap.size + 1 + 1, 0, none⟩ u1).setCell ⟨w.heap.size + 1 + 1, 1, none⟩ u2).setCell ⟨w.heap.size + 1 + 1, 2, none⟩ u3) := (((Fr.refl (fun y => y = w.heap.size + 1 + 1) W).andSet rfl).andSet rfl).andSet rfl
 have hn : ∀ x, x ≤ w.heap.size + 1 + 1 → ¬ R x := fun x hx hr => by have := hR x hr; omega
 have b1 := h.q1.fr e.fr (hn _ (by omega))
 have b2 := h.qr.fr e.fr (hn _ (by omega))
 have b3 := h.qp.fr e.fr (hn _ (by omega))
 have hq := ((b3.set_ 0 u1).set_ 1 u2).set_ 2 u3
 simp only [List.setIfInBounds_toArray, List.set_cons_zero, List.set_cons_succ] at hq
 have hW : Below w.heap.size w W := e.fr.toBelow h.bw h.bw.size (fun x hx => by have := hR x hx; omega)
 exact ⟨hf.toBelow hW hW.size (fun x hx => by omega), b1.fr hf (by omega), b2.fr hf (by omega), hq, own_fr e.o1 hf (fun y hy hr => own_blkne e.o1 b3 (by decide) (hr ▸ hy)), own_fr e.o2 hf (fun y hy hr => own_blkne e.o2 b3 (by decide) (hr ▸ hy)), own_fr e.o3 hf (fun y hy hr => own_blkne e.o3 b3 (by decide) (hr ▸ hy)), e.n12, e.n13, e.n23⟩

def endK (g : Gl) (h : List Rg) (high : Bool) (k : Nat) : List Int × List Int × List Int :=
 ((List.range k).map (fun d => if high then (gR h d).lo else (gR h d).hi), (List.range k).map (fun d => if high then (creep g d).hi else (creep g d).lo), (List.range k).map (fun _ => if high then g.bhi else g.blo))

end Go.Proofs.YtkaogjhnogkcdaaGreat
end

section

end

section
namespace Go.Proofs.YtkaogjhnogkcdaaGreat
open Go.RowKit

structure KeyOk {α : Type} [DecidableEq α] (t : TypeId) (kV : α → Value) : Prop where
 eq : ∀ (s u : α) (w : World), (Op.equal t (kV s) (kV u)).run Tryz.prog w = .ok (s == u) w
 check : ∀ (em : Bool) (s : α) (w : World), (Instr.checkKey em 10000 t (kV s)).run Tryz.prog w = .ok () w
 und : ∃ d, Tryz.prog.underlying t = some d ∧ ∀ (s : α) (e : MapEntry) (es : List MapEntry) (i : Nat), Instr.findNow d (kV s) (e :: es) i = none

section
variable {α β : Type} [DecidableEq α] {t : TypeId} {kV : α → Value} {vV : β → Value}
def mkE (kV : α → Value) (vV : β → Value) (L : List (α × β)) : Array MapEntry := (L.zipIdx.map fun p => { key := kV p.1.1, val := vV p.1.2, born := p.2 }).toArray
def IsMp (kV : α → Value) (vV : β → Value) (W : World) (b : Nat) (L : List (α × β)) : Prop := W.heap[b]? = some (.map (mkE kV vV L) L.length)
theorem mpGetObj {W : World} {b c : Nat} {es : Array MapEntry} (h : W.heap[b]? = some (.map es c)) : (getObj b).run Tryz.prog W = .ok (.map es c) W := by simp [getObj, Sem.run, h]
theorem mpSetObj {W : World} {b c : Nat} {es : Array MapEntry} (o' : Obj) (h : W.heap[b]? = some (.map es c)) : (setObj b o').run Tryz.prog W = .ok () (W.putObj b o') := by simp [setObj, Sem.run, h, World.putObj]
def mpAt (s : α) : List (α × β) → Nat → Option (Nat × β)
 | [], _ => none
 | p :: l, i => if p.1 = s then some (i, p.2) else mpAt s l (i + 1)
theorem mp_asking (hk : KeyOk t kV) (s : α) (w : World) : ∀ (l : List (α × β)) (k i : Nat),
  (Instr.findAsking t (kV s) (l.zipIdx k |>.map fun p => { key := kV p.1.1, val := vV p.1.2, born := p.2 }) i).run Tryz.prog w = .ok ((mpAt s l i).map fun x => (x.1, vV x.2)) w
 | [], _, _ => by simp [Instr.findAsking, mpAt]
 | p :: l, k, i => by
  simp only [List.zipIdx_cons, List.map_cons, Instr.findAsking, Sem.run_bind, hk.eq, Result.andThen_ok]
  by_cases h : p.1 = s
  ·
   have hb : (s == p.1) = true := by simp [h]
   simp [mpAt, h]
  ·
   have hb : (s == p.1) = false := by simpa using fun e => h e.symm
   simp only [hb, Bool.false_eq_true, if_false]
   rw [mp_asking hk s w l (k + 1) (i + 1), mpAt, if_neg h]
theorem mp_find (hk : KeyOk t kV) (s : α) (L : List (α × β)) (w : World) : (Instr.findKey t (kV s) (mkE kV vV L).toList).run Tryz.prog w = .ok ((mpAt s L 0).map fun x => (x.1, vV x.2)) w := by
 obtain ⟨d, hd, hn⟩ := hk.und
 unfold Instr.findKey
 simp only [Sem.run_bind, run_underlying hd, Result.andThen_ok]
 have h2 : (mkE kV vV L).toList = (L.zipIdx 0 |>.map fun p => { key := kV p.1.1, val := vV p.1.2, born := p.2 }) := by simp [mkE]
 rw [h2]
 cases L with
 | nil => simp [Instr.findNow, mpAt]
 | cons p l =>
  rw [List.zipIdx_cons, List.map_cons, hn]
  exact mp_asking hk s w (p :: l) 0 0
def mpGet (s : α) (L : List (α × β)) : Option β := (mpAt s L 0).map (·.2)
theorem mpAt_some {s : α} : ∀ {L : List (α × β)} {i : Nat}, ((mpAt s L i).map (·.2)) = ((mpAt s L 0).map (·.2))
 | [], _ => rfl
 | p :: l, i => by
  rw [mpAt, mpAt]
  split
  ·
   rfl
  ·
   rw [mpAt_some (L := l) (i := i + 1), mpAt_some (L := l) (i := 0 + 1)]
theorem mpGet_cons {s : α} {p : α × β} {L : List (α × β)} : mpGet s (p :: L) = if p.1 = s then some p.2 else mpGet s L := by
 unfold mpGet
 rw [mpAt]
 split
 ·
  rfl
 ·
  exact mpAt_some
theorem mpGet_mem {s : α} {v : β} : ∀ {L : List (α × β)}, mpGet s L = some v → (s, v) ∈ L
 | [], h => by cases h
 | q :: L, h => by
  rw [mpGet_cons] at h
  split at h
  ·
   rename_i e; injection h with h; rw [← e, ← h]; simp
  ·
   exact List.mem_cons_of_mem _ (mpGet_mem h)
theorem mpGet_none {s : α} {L : List (α × β)} (h : mpGet s L = none) : mpAt s L 0 = none := by
 unfold mpGet at h
 cases hm : mpAt s L 0 with
 | none => rfl
 | some x => rw [hm] at h; cases h
theorem mpGet_some {s : α} {L : List (α × β)} {v : β} (h : mpGet s L = some v) : ∃ i, mpAt s L 0 = some (i, v) := by
 unfold mpGet at h
 cases hm : mpAt s L 0 with
 | none => rw [hm] at h; cases h
 | some x =>
  rw [hm] at h
  obtain ⟨i, u⟩ := x
  injection h with h
  exact ⟨i, by rw [← h]⟩
theorem mkE_push (L : List (α × β)) (s : α) (v : β) : (mkE kV vV L).push { key := kV s, val := vV v, born := L.length } = mkE kV vV (L ++ [(s, v)]) := by
 simp [mkE, List.zipIdx_append]
theorem IsMp.lt {W : World} {b : Nat} {L : List (α × β)} (h : IsMp kV vV W b L) : b < W.heap.size := (Array.getElem?_eq_some_iff.1 h).1
theorem IsMp.of_block {W W' : World} {b : Nat} {L : List (α × β)} (h : IsMp kV vV W b L) (hb : W'.heap[b]? = W.heap[b]?) : IsMp kV vV W' b L := hb.trans h
theorem IsMp.below {W W' : World} {b : Nat} {L : List (α × β)} (h : IsMp kV vV W b L) (hb : Below W.heap.size W W') : IsMp kV vV W' b L := h.of_block (hb.block b h.lt)
theorem IsMp.fr {R : Nat → Prop} {W W' : World} {b : Nat} {L : List (α × β)} (h : IsMp kV vV W b L) (hf : Fr R W W') (hn : ¬ R b) : IsMp kV vV W' b L := h.of_block (hf.block b h.lt hn)
theorem IsMp.new (W : World) {g : Nat} (hg : W.heap.size = g) : IsMp kV vV (W.alloc (.map #[] 0)) g [] := by
 subst hg; exact World.alloc_heap_new W _
end
end Go.Proofs.YtkaogjhnogkcdaaGreat
end

section
namespace Go.Proofs.YtkaogjhnogkcdaaGreat
open Go.RowKit
structure KeyFd {α : Type} [DecidableEq α] (t : TypeId) (kV : α → Value) : Prop where
 find : ∀ {β : Type} (vV : β → Value) (s : α) (L : List (α × β)) (w : World), (Instr.findKey t (kV s) (mkE kV vV L).toList).run Tryz.prog w = .ok ((mpAt s L 0).map fun x => (x.1, vV x.2)) w
 check : ∀ (em : Bool) (s : α) (w : World), (Instr.checkKey em 10000 t (kV s)).run Tryz.prog w = .ok () w
 stays : ∀ (s : α) (w : World), (Instr.keyThatStays (kV s) (kV s)).run Tryz.prog w = .ok (kV s) w
theorem KeyFd.of {α : Type} [DecidableEq α] {t : TypeId} {kV : α → Value} (h : KeyOk t kV) (hs : ∀ s w, (Instr.keyThatStays (kV s) (kV s)).run Tryz.prog w = .ok (kV s) w) : KeyFd t kV := ⟨fun _ s L w => mp_find h s L w, h.check, hs⟩
section
variable {β : Type} {vV : β → Value}
def keyI (n : Int) : Value := .int .i64 n
end
section
variable {α β : Type} [DecidableEq α] {t : TypeId} {kV : α → Value} {vV : β → Value}
def MpIs (kV : α → Value) (vV : β → Value) (W : World) (b : Nat) (F : α → Option β) : Prop := ∃ L, IsMp kV vV W b L ∧ ∀ s, mpGet s L = F s
theorem MpIs.lt {W : World} {b : Nat} {F : α → Option β} (h : MpIs kV vV W b F) : b < W.heap.size := h.choose_spec.1.lt
theorem MpIs.of_block {W W' : World} {b : Nat} {F : α → Option β} (h : MpIs kV vV W b F) (hb : W'.heap[b]? = W.heap[b]?) : MpIs kV vV W' b F := by
 obtain ⟨L, h1, h2⟩ := h
 exact ⟨L, h1.of_block hb, h2⟩
theorem MpIs.below {W W' : World} {b : Nat} {F : α → Option β} (h : MpIs kV vV W b F) (hb : Below W.heap.size W W') : MpIs kV vV W' b F := h.of_block (hb.block b h.lt)
theorem MpIs.fr {R : Nat → Prop} {W W' : World} {b : Nat} {F : α → Option β} (h : MpIs kV vV W b F) (hf : Fr R W W') (hn : ¬ R b) : MpIs kV vV W' b F := h.of_block (hf.block b h.lt hn)
theorem MpIs.new (W : World) {g : Nat} (hg : W.heap.size = g) : MpIs kV vV (W.alloc (.map #[] 0)) g (fun _ => none) := ⟨[], IsMp.new W hg, fun _ => rfl⟩
theorem MpIs.congr {W : World} {b : Nat} {F F' : α → Option β} (h : MpIs kV vV W b F) (e : ∀ s, F s = F' s) : MpIs kV vV W b F' := by
 obtain ⟨L, h1, h2⟩ := h
 exact ⟨L, h1, fun s => (h2 s).trans (e s)⟩
theorem MpIs.at_ {mt et : TypeId} (hm : Tryz.prog.underlying mt = some (.map t et)) (hk : KeyFd t kV) {W : World} {b : Nat} {F : α → Option β} (h : MpIs kV vV W b F) (s : α) {v : β} (hs : F s = some v) :
  (Instr.lookup mt (.map (some b)) (kV s) false).run Tryz.prog W = .ok (vV v) W := by
 obtain ⟨L, h1, h2⟩ := h
 unfold Instr.lookup
 simp only [Sem.run_bind, run_underlying hm, Result.andThen_ok, mpGetObj h1, hk.check, hk.find, Sem.run_pure]
 obtain ⟨i, hi⟩ := mpGet_some ((h2 s).trans hs)
 rw [hi]
 simp
theorem MpIs.at2 {mt et : TypeId} (hm : Tryz.prog.underlying mt = some (.map t et)) {i0 : TypeInfo} {z : Value} (hi : Tryz.prog.info? et = some i0) (hz : i0.zero = some z) (hk : KeyFd t kV) {W : World} {b : Nat} {F : α → Option β} (h : MpIs kV vV W b F) (s : α) :
  (Instr.lookup mt (.map (some b)) (kV s) true).run Tryz.prog W = .ok (match F s with | some v => .tuple #[vV v, .bool true] | none => .tuple #[z, .bool false]) W := by
 obtain ⟨L, h1, h2⟩ := h
 unfold Instr.lookup
 simp only [Sem.run_bind, run_underlying hm, Result.andThen_ok, mpGetObj h1, hk.check, hk.find, Sem.run_pure]
 rw [← h2 s]
 cases hg : mpGet s L with
 | none =>
  rw [mpGet_none hg]
  simp [go_sem, zeroValue, typeInfo, hi, hz]
 | some v =>
  obtain ⟨i, hi⟩ := mpGet_some hg
  rw [hi]
  simp
theorem mpAt_at {s : α} {v : β} : ∀ {L : List (α × β)} {k i : Nat}, mpAt s L k = some (i, v) → k ≤ i ∧ L[i - k]? = some (s, v)
 | [], _, _, h => by cases h
 | p :: L, k, i, h => by
  rw [mpAt] at h
  split at h
  ·
   rename_i e
   simp only [Option.some.injEq, Prod.mk.injEq] at h
   obtain ⟨rfl, rfl⟩ := h
   exact ⟨Nat.le_refl _, by simp [← e]⟩
  ·
   obtain ⟨h1, h2⟩ := mpAt_at h
   refine ⟨by omega, ?_⟩
   rw [show i - k = (i - (k + 1)) + 1 by omega]
   simpa using h2
theorem mpGet_set {s : α} {v u : β} : ∀ {L : List (α × β)} {k i : Nat}, mpAt s L k = some (i, u) → ∀ x, mpGet x (L.set (i - k) (s, v)) = if x = s then some v else mpGet x L
 | [], _, _, h, _ => by cases h
 | p :: L, k, i, h, x => by
  rw [mpAt] at h
  split at h
  ·
   rename_i e
   simp only [Option.some.injEq, Prod.mk.injEq] at h
   obtain ⟨rfl, rfl⟩ := h
   rw [show k - k = 0 by omega, List.set_cons_zero, mpGet_cons, mpGet_cons]
   by_cases hx : x = s
   ·
    rw [if_pos hx.symm, if_pos hx]
   ·
    rw [if_neg (fun e => hx e.symm), if_neg hx, if_neg (fun e2 => hx (by rw [← e2, e]))]
  ·
   rename_i hne
   obtain ⟨h1, _⟩ := mpAt_at h
   rw [show i - k = (i - (k + 1)) + 1 by omega, List.set_cons_succ, mpGet_cons, mpGet_cons, mpGet_set h x]
   by_cases hx : p.1 = x
   ·
    rw [if_pos hx, if_pos hx, if_neg (fun e => hne (hx.trans e))]
   ·
    rw [if_neg hx, if_neg hx]
theorem mpGet_push {s x : α} {v : β} : ∀ {L : List (α × β)}, mpGet s L = none → mpGet x (L ++ [(s, v)]) = if x = s then some v else mpGet x L
 | [], _ => by
  rw [List.nil_append, mpGet_cons]
  by_cases h : x = s
  ·
   rw [if_pos h.symm, if_pos h]
  ·
   rw [if_neg (fun e => h e.symm), if_neg h]
 | p :: L, hn => by
  rw [mpGet_cons] at hn
  split at hn
  ·
   cases hn
  ·
   rename_i hne
   rw [List.cons_append, mpGet_cons, mpGet_cons, mpGet_push hn]
   by_cases hx : p.1 = x
   ·
    rw [if_pos hx, if_pos hx, if_neg (fun e => hne (hx.trans e))]
   ·
    rw [if_neg hx, if_neg hx]
theorem mkE_set (L : List (α × β)) (i : Nat) (s : α) (v : β) : (mkE kV vV L).modify i (fun e => { e with key := kV s, val := vV v }) = mkE kV vV (L.set i (s, v)) := by
 refine Array.ext (by simp [mkE]) (fun j h1 h2 => ?_)
 rw [Array.getElem_modify]
 simp only [mkE, List.getElem_toArray, List.getElem_map, List.getElem_zipIdx, Nat.zero_add]
 rw [List.getElem_set]
 split <;> rfl
theorem MpIs.put {mt et : TypeId} (hm : Tryz.prog.underlying mt = some (.map t et)) (hk : KeyFd t kV) {W : World} {b : Nat} {F : α → Option β} (h : MpIs kV vV W b F) (s : α) (v : β) :
  ∃ o, (Instr.mapUpdate mt (.map (some b)) (kV s) (vV v)).run Tryz.prog W = .ok () (W.putObj b o) ∧ MpIs kV vV (W.putObj b o) b (fun x => if x = s then some v else F x) := by
 obtain ⟨L, h1, h2⟩ := h
 cases hg : mpGet s L with
 | none =>
  refine ⟨.map (mkE kV vV (L ++ [(s, v)])) (L ++ [(s, v)]).length, ?_, L ++ [(s, v)], World.putObj_heap_same h1.lt, fun x => by rw [mpGet_push hg, h2]⟩
  unfold Instr.mapUpdate
  simp only [Sem.run_bind, run_underlying hm, Result.andThen_ok, mpGetObj h1, hk.check, hk.find, mpGet_none hg]
  simp only [Option.map_none]
  rw [mkE_push, mpSetObj _ h1]
  simp
 | some u =>
  obtain ⟨i, hi⟩ := mpGet_some hg
  obtain ⟨_, hL⟩ := mpAt_at hi
  have hset := mpGet_set (v := v) hi
  simp only [Nat.sub_zero] at hL hset
  refine ⟨.map (mkE kV vV (L.set i (s, v))) (L.set i (s, v)).length, ?_, L.set i (s, v), World.putObj_heap_same h1.lt, fun x => by rw [hset, h2]⟩
  unfold Instr.mapUpdate
  simp only [Sem.run_bind, run_underlying hm, Result.andThen_ok, mpGetObj h1, hk.check, hk.find, hi]
  simp only [Option.map_some]
  have hkey : (((mkE kV vV L)[i]?).map (·.key)).getD (kV s) = kV s := by
   have : (mkE kV vV L)[i]? = some { key := kV s, val := vV u, born := i } := by
    simp [mkE, List.getElem?_zipIdx, hL]
   rw [this]; rfl
  rw [hkey]
  simp only [Sem.run_bind, hk.stays, Result.andThen_ok]
  rw [mkE_set, mpSetObj _ h1]
  simp
theorem fr_putO (R : Nat → Prop) (W : World) (b : Nat) (o : Obj) (h : R b) : Fr R W (W.putObj b o) :=
 ⟨rfl, rfl, rfl, by simp, fun k _ hn => World.putObj_heap_other (fun e => hn (e ▸ h))⟩
end
end Go.Proofs.YtkaogjhnogkcdaaGreat
end

section
namespace Go.Proofs.YtkaogjhnogkcdaaGreat
open Go.RowKit
section
variable {α β : Type} [DecidableEq α] {t : TypeId} {kV : α → Value} {vV : β → Value}
def MpN (kV : α → Value) (vV : β → Value) (W : World) (b : Nat) (L : List (α × β)) (F : α → Option β) : Prop := IsMp kV vV W b L ∧ (L.map (·.1)).Nodup ∧ ∀ s, mpGet s L = F s
theorem MpN.is {W : World} {b : Nat} {L : List (α × β)} {F : α → Option β} (h : MpN kV vV W b L F) : MpIs kV vV W b F := ⟨L, h.1, h.2.2⟩
theorem MpN.new (W : World) {g : Nat} (hg : W.heap.size = g) : MpN kV vV (W.alloc (.map #[] 0)) g [] (fun _ => none) := ⟨IsMp.new W hg, by simp, fun _ => rfl⟩
theorem MpN.of_block {W W' : World} {b : Nat} {L : List (α × β)} {F : α → Option β} (h : MpN kV vV W b L F) (hb : W'.heap[b]? = W.heap[b]?) : MpN kV vV W' b L F := ⟨h.1.of_block hb, h.2⟩
theorem mpGet_nodup {s : α} {v : β} : ∀ {L : List (α × β)}, (L.map (·.1)).Nodup → (s, v) ∈ L → mpGet s L = some v
  | [], _, h => by cases h
  | p :: L, hn, h => by
    rw [List.map_cons, List.nodup_cons] at hn
    rw [mpGet_cons]
    rcases List.mem_cons.1 h with h | h
    · subst h; simp
    · rw [if_neg (fun e => hn.1 (by rw [e]; exact List.mem_map.2 ⟨_, h, rfl⟩))]
      exact mpGet_nodup hn.2 h
theorem MpN.mem {W : World} {b : Nat} {L : List (α × β)} {F : α → Option β} (h : MpN kV vV W b L F) {s : α} {v : β} : (s, v) ∈ L ↔ F s = some v := by
  rw [← h.2.2 s]
  exact ⟨mpGet_nodup h.2.1, mpGet_mem⟩
theorem mpGet_key {s : α} : ∀ {L : List (α × β)}, mpGet s L = none → s ∉ L.map (·.1)
  | [], _ => by simp
  | p :: L, h => by
    rw [mpGet_cons] at h
    split at h
    · cases h
    · rename_i hne
      rw [List.map_cons, List.mem_cons]
      rintro (e | e)
      · exact hne e.symm
      · exact mpGet_key h e
theorem MpN.put {mt et : TypeId} (hm : Tryz.prog.underlying mt = some (.map t et)) (hk : KeyFd t kV) {W : World} {b : Nat} {L : List (α × β)} {F : α → Option β} (h : MpN kV vV W b L F) (s : α) (v : β) :
    ∃ o L', (Instr.mapUpdate mt (.map (some b)) (kV s) (vV v)).run Tryz.prog W = .ok () (W.putObj b o) ∧ MpN kV vV (W.putObj b o) b L' (fun x => if x = s then some v else F x) := by
  obtain ⟨h1, hnd, h2⟩ := h
  cases hg : mpGet s L with
  | none =>
    refine ⟨.map (mkE kV vV (L ++ [(s, v)])) (L ++ [(s, v)]).length, L ++ [(s, v)], ?_, World.putObj_heap_same h1.lt, ?_, fun x => by rw [mpGet_push hg, h2]⟩
    · unfold Instr.mapUpdate
      simp only [Sem.run_bind, run_underlying hm, Result.andThen_ok, mpGetObj h1, hk.check, hk.find, mpGet_none hg]
      simp only [Option.map_none]
      rw [mkE_push, mpSetObj _ h1]
      simp
    · rw [List.map_append, List.nodup_append]
      refine ⟨hnd, by simp, fun a ha c hc => ?_⟩
      simp only [List.map_cons, List.map_nil, List.mem_singleton] at hc
      subst hc
      rintro rfl
      exact mpGet_key hg ha
  | some u =>
    obtain ⟨i, hi⟩ := mpGet_some hg
    obtain ⟨_, hL⟩ := mpAt_at hi
    have hset := mpGet_set (v := v) hi
    simp only [Nat.sub_zero] at hL hset
    refine ⟨.map (mkE kV vV (L.set i (s, v))) (L.set i (s, v)).length, L.set i (s, v), ?_, World.putObj_heap_same h1.lt, ?_, fun x => by rw [hset, h2]⟩
    · unfold Instr.mapUpdate
      simp only [Sem.run_bind, run_underlying hm, Result.andThen_ok, mpGetObj h1, hk.check, hk.find, hi]
      simp only [Option.map_some]
      have hkey : (((mkE kV vV L)[i]?).map (·.key)).getD (kV s) = kV s := by
        have : (mkE kV vV L)[i]? = some { key := kV s, val := vV u, born := i } := by
          simp [mkE, List.getElem?_zipIdx, hL]
        rw [this]; rfl
      rw [hkey]
      simp only [Sem.run_bind, hk.stays, Result.andThen_ok]
      rw [mkE_set, mpSetObj _ h1]
      simp
    · have : (L.set i (s, v)).map (·.1) = L.map (·.1) := by
        rw [List.map_set]
        refine List.ext_getElem? fun j => ?_
        rw [List.getElem?_set]
        split
        · rename_i e
          subst e
          split
          · simp [hL]
          · rename_i h'
            rw [List.getElem?_eq_none (by omega)]
        · rfl
      rw [this]; exact hnd

theorem run_range_mp {mt et : TypeId} (hm : Tryz.prog.underlying mt = some (.map t et)) {W : World} {b : Nat} {L : List (α × β)} (h : IsMp kV vV W b L) : (Instr.range mt (.map (some b))).run Tryz.prog W = .ok (.pointer (some ⟨W.heap.size, 0, none⟩)) (W.alloc (.mapIter (some b) L.length #[] L.length)) := by
  unfold Instr.range
  simp only [Sem.run_bind, run_underlying hm, Result.andThen_ok, mpGetObj h, Sem.run_pure, run_newObj_alloc]

def IterM (W : World) (r b : Nat) (n : Nat) (sn : List Nat) : Prop := W.heap[r]? = some (.mapIter (some b) n sn.toArray n) ∧ ∀ i ∈ sn, i < n
theorem IterM.lt {W : World} {r b n : Nat} {sn : List Nat} (h : IterM W r b n sn) : r < W.heap.size := (Array.getElem?_eq_some_iff.1 h.1).1
theorem IterM.of_block {W W' : World} {r b n : Nat} {sn : List Nat} (h : IterM W r b n sn) (hb : W'.heap[r]? = W.heap[r]?) : IterM W' r b n sn := ⟨hb.trans h.1, h.2⟩
theorem IterM.new (W : World) (b n : Nat) {r : Nat} (hr : W.heap.size = r) : IterM (W.alloc (.mapIter (some b) n #[] n)) r b n [] := by
  subst hr; exact ⟨World.alloc_heap_new W _, fun _ h => by cases h⟩
def leftM (n : Nat) (sn : List Nat) : Nat := ((List.range n).filter fun i => !sn.contains i).length
theorem leftM_lt {n : Nat} {sn : List Nat} {i : Nat} (hi : i < n) (hn : i ∉ sn) : leftM n (sn ++ [i]) < leftM n sn := by
  unfold leftM
  rw [← List.countP_eq_length_filter, ← List.countP_eq_length_filter]
  have h1 : (List.range n).countP (fun j => !(sn ++ [i]).contains j) + 1 ≤ (List.range n).countP (fun j => !sn.contains j) := by
    have hmem : i ∈ List.range n := List.mem_range.2 hi
    obtain ⟨a, b, hab⟩ := List.append_of_mem hmem
    rw [hab]
    simp only [List.countP_append, List.countP_cons]
    have m1 : ∀ l : List Nat, l.countP (fun j => !(sn ++ [i]).contains j) ≤ l.countP (fun j => !sn.contains j) := fun l => List.countP_mono_left fun j _ hj => by
      simp at hj ⊢; exact hj.1
    have q1 := m1 a
    have q2 := m1 b
    have e1 : (!(sn ++ [i]).contains i) = false := by simp
    have e2 : (!sn.contains i) = true := by simp [hn]
    simp only [e1, e2, if_true, Bool.false_eq_true, if_false]
    omega
  omega
theorem mkE_get {L : List (α × β)} {i : Nat} (hi : i < L.length) : (mkE kV vV L)[i]? = some { key := kV L[i].1, val := vV L[i].2, born := i } := by
  simp [mkE, List.getElem?_zipIdx, hi]

theorem next_mp {W : World} {r b : Nat} {L : List (α × β)} {sn : List Nat} (hm : IsMp kV vV W b L) (h : IterM W r b L.length sn) (ty : TypeId) :
    ((∀ i, i < L.length → i ∈ sn) ∧ (Instr.next (.pointer (some ⟨r, 0, none⟩)) false ty).run Tryz.prog W = .ok (.tuple #[.bool false]) W) ∨
    ∃ i, ∃ hi : i < L.length, i ∉ sn ∧ ∃ W1, IterM W1 r b L.length (sn ++ [i]) ∧ W.grownBy W1 (some r) ∧ W1.heap.size = W.heap.size ∧
      (Instr.next (.pointer (some ⟨r, 0, none⟩)) false ty).run Tryz.prog W = .ok (.tuple #[.bool true, kV L[i].1, vV L[i].2]) W1 ∧
      (Instr.entry (.pointer (some ⟨r, 0, none⟩))).run Tryz.prog W1 = .ok (.tuple #[kV L[i].1, vV L[i].2]) W1 := by
  have hborn : ∀ x ∈ (mkE kV vV L).toList, ∃ i, ∃ hi : i < L.length, x = { key := kV L[i].1, val := vV L[i].2, born := i } := by
    intro x hx
    obtain ⟨i, hi, e⟩ := List.getElem_of_mem hx
    have hi' : i < L.length := by simpa [mkE] using hi
    exact ⟨i, hi', by rw [← e]; simp [mkE]⟩
  rcases run_next_at (P := Tryz.prog) W ty r b L.length L.length sn.toArray (mkE kV vV L) L.length h.1 hm (fun x hx => by obtain ⟨i, hi, e⟩ := hborn x hx; rw [e]; exact hi) (Nat.le_refl _) with ⟨h0, hrun⟩ | ⟨e, he, w1, hw1, hrun⟩
  · left
    refine ⟨fun i hi => ?_, hrun⟩
    by_cases hc : i ∈ sn
    · exact hc
    · have : ({ key := kV L[i].1, val := vV L[i].2, born := i } : MapEntry) ∈ (leftOf (mkE kV vV L) sn.toArray).toList := by
        unfold leftOf
        simp only [Array.toList_filter, List.mem_filter]
        refine ⟨?_, by simpa using hc⟩
        have := mkE_get (kV := kV) (vV := vV) hi
        exact Array.mem_toList_iff.2 (Array.mem_of_getElem? this)
      have hl : (leftOf (mkE kV vV L) sn.toArray).toList.length = 0 := by simpa using h0
      rw [List.length_eq_zero_iff.1 hl] at this
      cases this
  · right
    have he' : e ∈ (mkE kV vV L).toList ∧ sn.contains e.born = false := by
      unfold leftOf at he
      simp only [Array.toList_filter, List.mem_filter] at he
      exact ⟨he.1, by simpa using he.2⟩
    obtain ⟨i, hi, hee⟩ := hborn e he'.1
    have hni : i ∉ sn := by have := he'.2; rw [hee] at this; simpa using this
    have hr1 : w1.heap[r]? = W.heap[r]? ∧ w1.heap = W.heap ∧ w1.os = W.os ∧ w1.tape = W.tape ∧ w1.output = W.output := by rcases hw1 with rfl | rfl <;> exact ⟨rfl, rfl, rfl, rfl, rfl⟩
    refine ⟨i, hi, hni, Go.ChangeMaps.setBlock w1 r (.mapIter (some b) L.length (sn.toArray.push e.born) L.length), ⟨?_, ?_⟩, ⟨?_, ?_, ?_, ?_, ?_⟩, ?_, ?_, ?_⟩
    · have hlt := h.lt
      subst hee
      simp [Go.ChangeMaps.setBlock, hr1.2.1, hlt]
    · intro j hj
      rcases List.mem_append.1 hj with hj | hj
      · exact h.2 j hj
      · rw [List.mem_singleton.1 hj]; exact hi
    · exact hr1.2.2.1
    · exact hr1.2.2.2.1
    · exact hr1.2.2.2.2
    · simp [Go.ChangeMaps.setBlock, hr1.2.1]
    · intro k hk hne
      have : r ≠ k := fun e => hne (by rw [e])
      simp [Go.ChangeMaps.setBlock, hr1.2.1, Array.getElem?_setIfInBounds, this]
    · simp [Go.ChangeMaps.setBlock, hr1.2.1]
    · rw [hrun, hee]
    · have hb1 : (Go.ChangeMaps.setBlock w1 r (.mapIter (some b) L.length (sn.toArray.push e.born) L.length)).heap[b]? = some (.map (mkE kV vV L) L.length) := by
        have hne : r ≠ b := fun e => by
          have h1 := h.1; rw [e] at h1
          have h2 : W.heap[b]? = some (.map (mkE kV vV L) L.length) := hm
          rw [h2] at h1; cases h1
        simp [Go.ChangeMaps.setBlock, hr1.2.1, Array.getElem?_setIfInBounds, hne]
        exact hm
      have hr2 : (Go.ChangeMaps.setBlock w1 r (.mapIter (some b) L.length (sn.toArray.push e.born) L.length)).heap[r]? = some (.mapIter (some b) L.length (sn.toArray.push e.born) L.length) := by
        have hlt := h.lt
        simp [Go.ChangeMaps.setBlock, hr1.2.1, hlt]
      have := run_entry_at (P := Tryz.prog) _ r b L.length sn.toArray (mkE kV vV L) L.length e hr2 hb1 he'.1 (by
        have : (mkE kV vV L).toList.map (·.born) = List.range L.length := by
          apply List.ext_getElem
          · simp [mkE]
          · intro j h1 h2; simp [mkE]
        rw [this]; exact List.nodup_range)
      rw [this, hee]
end
end Go.Proofs.YtkaogjhnogkcdaaGreat
end

section
namespace Go.Proofs.YtkaogjhnogkcdaaGreat
open Go.RowKit
end Go.Proofs.YtkaogjhnogkcdaaGreat
end

section
namespace Go.Proofs.YtkaogjhnogkcdaaGreat
open Go.RowKit
theorem wpIn_region_tq {P : Program} {Q : Exit → Act → World → Prop} {id l0 nn : Nat} {a : Act} {w : World} {l : List Oper} (n : Nat) (t : Tq) (S : World → Prop) (hm : P.follows .mixedOrders = true)
    (hB : (tqeB .any l.toArray n t && decide (t.len = n)) = true) (hnd : noDefer l = true) (hout : ¬ LetsOut Q) (hQ : ∀ d v c a w, Q (.panic c) (a.put d v) w → Q (.panic c) a w)
    (hS : S w.drew) (h : wqTree P l Q S n t a w.drew) : (Code.region id l.toArray true).wpIn (Fence.wide.inRound l0) nn P Q a w := by
  simp only [tqeB, Bool.and_eq_true, decide_eq_true_eq] at hB
  obtain ⟨⟨⟨⟨⟨hsel, hn⟩, hs⟩, hc⟩, hlex⟩, hlen⟩ := hB
  have hdl : (l.drop n).length = l.toArray.size - n := by simp
  have inv0 : HeadInv .any l.toArray n (Array.replicate l.toArray.size false) :=
    ⟨by simp, fun j oj _ hl => (by rw [getD_replicate_false] at hl; cases hl), fun t _ ht => getD_in (by simpa using ht) (getD_replicate_false _ _)⟩
  have H := tq_head (md := .any) (g := l.toArray.size - n) (T := fun a'' w'' => wpList P l.toArray Q (l.drop n) a'' w'') hsel hQ hs hc hn t _ a _ inv0 hlex hS h
  refine wpIn_region_any hm (wpAnyIn_of_wpAny hout (noDefer_spec hnd) _ _ _ _ ?_)
  have := wpAny_of_headH (g := l.toArray.size - n) (fun listed' a' w' hL => by
    have := wpAny_of_seq (md := .any) (l.drop n) n listed' a' w' (fun j => by simp [List.getElem?_drop]) (by rw [hdl]; exact hL.1) hL.2
    rwa [hdl] at this) _ _ _ _ H
  rw [hlen, show n + (l.toArray.size - n) = l.toArray.size by omega] at this
  exact this
theorem wpIn_region_ext_tq {P : Program} {Q : Exit → Act → World → Prop} {id l0 nn : Nat} {a : Act} {w : World} {l : List Oper} (n : Nat) (t : Tq) (hm : P.follows .mixedOrders = true)
    (hB : (tqeB .any l.toArray n t && decide (t.len = n)) = true) (hnd : noDefer l = true) (hout : ¬ LetsOut Q) (hQ : ∀ d v c a w, Q (.panic c) (a.put d v) w → Q (.panic c) a w)
    (h : wqTree P l Q (fun w' => ∃ x : Ex w, w' = x.W) n t a w.drew) : (Code.region id l.toArray true).wpIn (Fence.wide.inRound l0) nn P Q a w :=
  wpIn_region_tq n t _ hm hB hnd hout hQ (inEx (Below.refl w.heap.size w).drew) h
end Go.Proofs.YtkaogjhnogkcdaaGreat
end

section
namespace Go.Proofs.YtkaogjhnogkcdaaGreat
open Go.RowKit
attribute [local go_sem] Ex.cell? Ex.frozen? Gx.cell?

theorem cC_len (c : Ic) : (cC c).length = 3 := rfl
theorem cC_at (l : List Ic) (k : Nat) (hk : k < l.length) (j : Nat) (hj : j < 3) : (cC l[k])[j]? = some (fC l k j) := by
 have e : gC l k = l[k] := gC_at hk
 match j, hj with
 | 0, _ => simp [cC, fC, e]
 | 1, _ => simp [cC, fC, e]
 | 2, _ => simp [cC, fC, e]
theorem ice_row (a b c : Int) (j : Nat) (hj : j < 3) : (#[.int .i64 a, .int .i64 b, .int .i64 c] : Array Value)[j]? = some (fC [⟨a, b, c⟩] 0 j) := by
 match j, hj with
 | 0, _ => rfl
 | 1, _ => rfl
 | 2, _ => rfl
theorem cC_one (c : Ic) (u : Value) (hu : u ∈ cC c) : u.oneCell' = true := by
 simp only [cC, List.mem_cons, List.not_mem_nil, or_false] at hu
 rcases hu with rfl | rfl | rfl <;> rfl

end Go.Proofs.YtkaogjhnogkcdaaGreat
end

section
namespace Go.Proofs.YtkaogjhnogkcdaaGreat
open Go.RowKit
attribute [local go_sem] Ex.cell? Ex.frozen? Gx.cell?

set_option maxRecDepth 100000 in
set_option maxHeartbeats 6400000 in
theorem Read_own (g : Gl) (Ab Ad Aw : Option Addr) (cb cd cw : Nat) (h : List Rg) (ws : List Int) (m b : Int) (w : World) (hg : GlIn w w.heap.size g Ab Ad) (A1 A2 A3 : Option Addr) (c1 c2 c3 : Nat) (t1 t2 t3 : List Int) (k1 : SlAt w w.heap.size 1 A1 t1.length (fI t1)) (k2 : SlAt w w.heap.size 1 A2 t2.length (fI t2)) (k3 : SlAt w w.heap.size 1 A3 t3.length (fI t3)) (hw : SlAt w w.heap.size 1 Aw ws.length (fU ws))
    (hwb : ∀ k, k < ws.length → 0 ≤ gI ws k ∧ gI ws k ≤ 65535) (hwl : ws.length ≤ maxLen) (hok : Ok g h) (ht : truthB g h t1 t2 t3 = true) (hm0 : 0 ≤ m) (hm1 : m ≤ 255) (hb0 : 0 ≤ b) (hb1 : b ≤ 255) :
    Calls Tryz.prog 77 #[.agg #[.int .i64 g.base, .slice Ab g.bands.length cb, .slice Ad g.depths.length cd, .int .i64 g.blo, .int .i64 g.bhi], .agg #[.slice A1 t1.length c1, .slice A2 t2.length c2, .slice A3 t3.length c3], .slice Aw ws.length cw, .int .u8 m, .int .u8 b] w fun e w' => (∃ A c l, e = .returned (.slice A (l : List Ic).length c) ∧ l.length ≤ 4 ∧ l.length ≤ c ∧ c ≤ maxLen ∧ ReadIs (playTo g t1 t2 t3 h.length) b l ∧
      SlAt w' w'.heap.size 3 A l.length (fC l) ∧ w'.ownsRow w.heap.size 91 3 (.slice A l.length c) l.length (l.flatMap cC)) ∧ Below w.heap.size w w' := by
  obtain ⟨i0, hi0, hz0', hz1', hz2'⟩ := info_parts icR_info
  have HI := Lib.hid hi0
  clear hi0
  have hbb := ex_alloc (ex_alloc (Below.refl w.heap.size w) (.cells #[.int .i64 g.base, .slice Ab g.bands.length cb, .slice Ad g.depths.length cd, .int .i64 g.blo, .int .i64 g.bhi] 27)) (.cells #[.slice A1 t1.length c1, .slice A2 t2.length c2, .slice A3 t3.length c3] 143)
  have hnh := hok.nh
  have hzb : ∀ d, d < h.length → -1000000 ≤ gI (playTo g t1 t2 t3 h.length) d ∧ gI (playTo g t1 t2 t3 h.length) d ≤ 1000000 := fun d hd => by rw [gI_play hd]; exact zAt_bd hok ht hd
  obtain ⟨M, hM⟩ : ∃ M : Nat, m % 5 = (M : Int) := ⟨(m % 5).toNat, by omega⟩
  have hM4 : M ≤ 4 := by omega
  have HM := Lib.hid hM
  clear hM
  go_enter Tryz.func77, Tryz.ntmps77
  go_wp2_with fail
  refine (PlayR_any g _ _ _ _ h _ ((hg.below hbb).up hbb.size) _ _ _ _ _ _ t1 t2 t3 ((k1.below hbb).up hbb.size) ((k2.below hbb).up hbb.size) ((k3.below hbb).up hbb.size) hok ht).mono ?_
  rintro e w1 ⟨⟨vz, rfl, hvz⟩, hx1⟩
  obtain ⟨Az, cz, rfl, _, hsz⟩ := own_sl hvz
  have hB1 := ex_trans hbb hx1
  have hlz : (playTo g t1 t2 t3 h.length).length = h.length := playTo_len
  clear hvz hbb hx1 hok ht k1 k2 k3 hg
  generalize hzs : playTo g t1 t2 t3 h.length = zs at *
  have HZS := Lib.hid hzs
  clear hzs
  have HLZ := Lib.hid hlz
  clear hlz
  go_wp2_with fail
  go_loopw [12, 13] (fun v i wr => ∃ (k : Nat) (l : List Ic), k ≤ M ∧ i = .int .i64 k ∧ Below w1.heap.size w1 wr ∧ wr.ownsRow w1.heap.size 91 3 v l.length (l.flatMap cC) ∧ l.length = k ∧ ReadIs zs b l)
    (fun _ i _ => M - (intOf i).toNat)
  case atStart => exact ⟨0, [], by omega, rfl, Below.refl _ _, ⟨rfl, .inl ⟨rfl, rfl⟩⟩, rfl, fun i hi => by simp at hi⟩
  case round =>
    obtain ⟨k, l, hk, rfl, hbl, hown, hlk, hR⟩ := hrel
    have HLK := Lib.hid hlk
    have HRD := Lib.hid hR
    clear hlk hR
    by_cases hlt : k < M
    · have hlt' : (k : Int) < m % 5 := by rw [HM.out]; omega
      have hB2 := ex_trans hB1 hbl
      go_wp2_with fail
      refine (word_any _ _ ws _ wr ((hw.below hB2).up hB2.size) hwb (by omega) (by omega) hwl).mono ?_
      rintro e x1 ⟨⟨n, rfl, hn0, hn65⟩, hx1⟩
      have hX1 := ex_trans hbl hx1
      have hzn : (1 : Int) ≤ (zs.length : Int) := by have := HLZ.out; omega
      have hr0 := Int.emod_nonneg n (show (zs.length : Int) ≠ 0 by omega)
      have hr1 := Int.emod_lt_of_pos n (show (0 : Int) < (zs.length : Int) by omega)
      obtain ⟨d, hd⟩ : ∃ d : Nat, n % (zs.length : Int) = (d : Int) := ⟨(n % (zs.length : Int)).toNat, by omega⟩
      have hdl : d < zs.length := by omega
      obtain ⟨er, her⟩ : ∃ er : Int, n / 32 % 4 = er := ⟨_, rfl⟩
      have her0 : 0 ≤ er := by omega
      have her3 : er ≤ 3 := by omega
      have hzn0 : ((zs.length : Int) == 0) = false := by rw [beq_eq_false_iff_ne]; omega
      have hzn0' : (zs.length == 0) = false := by rw [beq_eq_false_iff_ne]; omega
      clear hr0 hr1
      obtain ⟨bz, oz, rfl, hbz, p0⟩ := IsInts.at_ (hsz.below hX1) hdl
      have hzd := hzb d (by rw [← HLZ.out]; exact hdl)
      have hbz1 : bz < x1.heap.size := by have := hX1.size; omega
      go_wp2_with fail
      have hX2 := ex_alloc hX1 (.cells #[.int .i64 (d : Int), .int .i64 0, .int .i64 er] 91)
      have q0 : Blk (x1.alloc (.cells #[.int .i64 (d : Int), .int .i64 0, .int .i64 er] 91)) x1.heap.size 91 #[.int .i64 (d : Int), .int .i64 0, .int .i64 er] := Blk.new _ _ _
      have hXW := ex_alloc hx1 (.cells #[.int .i64 (d : Int), .int .i64 0, .int .i64 er] 91)
      have hsx := hx1.size
      have hsx1 := hX1.size
      have hsz1 : (x1.alloc (.cells #[.int .i64 (d : Int), .int .i64 0, .int .i64 er] 91)).heap.size = x1.heap.size + 1 := by simp
      generalize x1.alloc (.cells #[.int .i64 (d : Int), .int .i64 0, .int .i64 er] 91) = W at *
      generalize x1.heap.size = px at *
      have c0 : W.cell? ⟨px, 0, none⟩ = some (.int .i64 (d : Int)) := q0.cell 0
      have cc1 : W.cell? ⟨px, 1, none⟩ = some (.int .i64 0) := q0.cell 1
      have c2 : W.cell? ⟨px, 2, none⟩ = some (.int .i64 er) := q0.cell 2
      have lq := q0.lt
      have fq := q0.frozen 1
      obtain ⟨_, _, eA, _, p1⟩ := IsInts.at_ (hsz.below hX2) hdl
      injection eA with eA
      injection eA with eA1 eA2
      subst eA1 eA2
      have w0 : (2 * er + 1 == 0) = false := by rw [beq_eq_false_iff_ne]; omega
      have w1' : IntKind.i64.wrap (2 * er) = 2 * er := IntWalk.i64_in _ (by omega)
      have w2' : IntKind.i64.wrap (2 * er + 1) = 2 * er + 1 := IntWalk.i64_in _ (by omega)
      have w3 : IntKind.i64.wrap (n.tdiv 128) = n / 128 := by rw [Int.tdiv_eq_ediv_of_nonneg hn0]; exact IntWalk.i64_in _ (by omega)
      have v0 : 0 ≤ (n / 128) % (2 * er + 1) := Int.emod_nonneg _ (by omega)
      have v1 : (n / 128) % (2 * er + 1) < 2 * er + 1 := Int.emod_lt_of_pos _ (by omega)
      have w4 : IntKind.i64.wrap ((n / 128).tmod (2 * er + 1)) = (n / 128) % (2 * er + 1) := by rw [Int.tmod_eq_emod_of_nonneg (by omega)]; exact IntWalk.i64_in _ (by omega)
      have w5 : IntKind.i64.wrap (gI zs d + (n / 128) % (2 * er + 1)) = gI zs d + (n / 128) % (2 * er + 1) := IntWalk.i64_in _ (by omega)
      have w6 : IntKind.i64.wrap (gI zs d + (n / 128) % (2 * er + 1) - er) = gI zs d + (n / 128) % (2 * er + 1) - er := IntWalk.i64_in _ (by omega)
      refine wp_region_ext_mix 16 [(false, 0), (false, 1), (false, 2), (false, 3), (false, 4), (false, 5), (false, 6), (false, 7), (false, 8), (false, 9), (false, 10), (false, 11), (false, 12), (false, 13), (false, 14), (false, 15)] (by kernel_rfl) (by kernel_rfl) (by intro d _ _ _ _ h; cases d <;> exact h) ?_
      repeat (refine mix_quiet rfl ?_; go_big_quiet_step (fail); refine wpQuiet_nil ?_)
      refine mix_nil rfl ?_
      generalize (n / 128) % (2 * er + 1) = ry at *
      have HX2 := Lib.hid hX2
      have HXW := Lib.hid hXW
      have HQ0 := Lib.hid q0
      clear hX2 hXW q0 hX1 hx1 hB2
      by_cases hbit : (b / 2 ^ k).tmod 2 = 1
      · have ebit : ((b / 2 ^ k).tmod 2 == 1) = true := by simp [hbit]
        have HBIT : Hid (¬ bitOff b k) := Lib.hid (fun h => h hbit)
        clear hbit
        have hf : Fr (fun b => b = px) W ((W.setCell ⟨px, 1, none⟩ (.int .i64 (gI zs d + ry - er))).setCell ⟨px, 1, none⟩ (.int .i64 (gI zs d + ry - er + (5 + n / 8 % 20)))) := ((Fr.refl (fun b => b = px) W).andSet rfl).andSet rfl
        have qV : Blk ((W.setCell ⟨px, 1, none⟩ (.int .i64 (gI zs d + ry - er))).setCell ⟨px, 1, none⟩ (.int .i64 (gI zs d + ry - er + (5 + n / 8 % 20)))) px 91 #[.int .i64 (d : Int), .int .i64 (gI zs d + ry - er + (5 + n / 8 % 20)), .int .i64 er] := by
          have q2 := (HQ0.out.set_ 1 (.int .i64 (gI zs d + ry - er))).set_ 1 (.int .i64 (gI zs d + ry - er + (5 + n / 8 % 20)))
          simpa only [List.setIfInBounds_toArray, List.set_cons_zero, List.set_cons_succ] using q2
        have hsV : ((W.setCell ⟨px, 1, none⟩ (.int .i64 (gI zs d + ry - er))).setCell ⟨px, 1, none⟩ (.int .i64 (gI zs d + ry - er + (5 + n / 8 % 20)))).heap.size = px + 1 := by simp [hsz1]
        have ownV : ((W.setCell ⟨px, 1, none⟩ (.int .i64 (gI zs d + ry - er))).setCell ⟨px, 1, none⟩ (.int .i64 (gI zs d + ry - er + (5 + n / 8 % 20)))).ownsRow w1.heap.size 91 3 u12 l.length (l.flatMap cC) := own_fr (own_below hown HXW.out) hf (fun b hb hbp => by have := own_lt hown hb; omega)
        have BV : Below w1.heap.size w1 ((W.setCell ⟨px, 1, none⟩ (.int .i64 (gI zs d + ry - er))).setCell ⟨px, 1, none⟩ (.int .i64 (gI zs d + ry - er + (5 + n / 8 % 20)))) := hf.toBelow HX2.out HX2.out.size (fun x hx => by omega)
        have y4 : (((W.setCell ⟨px, 1, none⟩ (.int .i64 (gI zs d + ry - er))).setCell ⟨px, 1, none⟩ (.int .i64 (gI zs d + ry - er + (5 + n / 8 % 20)))).alloc (.cells #[.int .i64 (d : Int), .int .i64 (gI zs d + ry - er + (5 + n / 8 % 20)), .int .i64 er] 91)).drew.ownsRow w1.heap.size 91 3 u12 l.length (l.flatMap cC) := own_below ownV ((Below.refl _ _).alloc (Nat.le_refl _) _).drew
        have BY : Below w1.heap.size w1 (((W.setCell ⟨px, 1, none⟩ (.int .i64 (gI zs d + ry - er))).setCell ⟨px, 1, none⟩ (.int .i64 (gI zs d + ry - er + (5 + n / 8 % 20)))).alloc (.cells #[.int .i64 (d : Int), .int .i64 (gI zs d + ry - er + (5 + n / 8 % 20)), .int .i64 er] 91)).drew := (ex_alloc BV _).drew
        have hnew : ∀ j u, ([.int .i64 (d : Int), .int .i64 (gI zs d + ry - er + (5 + n / 8 % 20)), .int .i64 er] : List Value)[j]? = some u → (((W.setCell ⟨px, 1, none⟩ (.int .i64 (gI zs d + ry - er))).setCell ⟨px, 1, none⟩ (.int .i64 (gI zs d + ry - er + (5 + n / 8 % 20)))).alloc (.cells #[.int .i64 (d : Int), .int .i64 (gI zs d + ry - er + (5 + n / 8 % 20)), .int .i64 er] 91)).drew.cell? ((⟨px + 1, 0, none⟩ : Addr).add j) = some u :=
          World.news_of_block (by have h := heap_alloc_new ((W.setCell ⟨px, 1, none⟩ (.int .i64 (gI zs d + ry - er))).setCell ⟨px, 1, none⟩ (.int .i64 (gI zs d + ry - er + (5 + n / 8 % 20)))) (.cells #[.int .i64 (d : Int), .int .i64 (gI zs d + ry - er + (5 + n / 8 % 20)), .int .i64 er] 91); rw [hsV] at h; exact h)
        have c63 : l.length + 1 ≤ maxLen := by have := HLK.out; unfold maxLen; omega
        have cby : (l.length + 1) * 24 ≤ 140737488355328 := by have := HLK.out; omega
        have hbase : w1.heap.size ≤ (((W.setCell ⟨px, 1, none⟩ (.int .i64 (gI zs d + ry - er))).setCell ⟨px, 1, none⟩ (.int .i64 (gI zs d + ry - er + (5 + n / 8 % 20)))).alloc (.cells #[.int .i64 (d : Int), .int .i64 (gI zs d + ry - er + (5 + n / 8 % 20)), .int .i64 er] 91)).drew.heap.size := BY.size
        have hH : (((W.setCell ⟨px, 1, none⟩ (.int .i64 (gI zs d + ry - er))).setCell ⟨px, 1, none⟩ (.int .i64 (gI zs d + ry - er + (5 + n / 8 % 20)))).alloc (.cells #[.int .i64 (d : Int), .int .i64 (gI zs d + ry - er + (5 + n / 8 % 20)), .int .i64 er] 91)).drew.heap.size = px + 1 + 1 := by simp [hsz1]
        go_wp2_with (at_builtin; refine wpList_append_lies _ rfl _ _ _ rfl w1.heap.size 91 i0 _ 3 24 Tryz.underlying31 HI.out hz0' hz1' hz2' rfl (by omega) u12 _ _ rfl y4 ⟨px + 1, 0, none⟩ 1 1 [.int .i64 (d : Int), .int .i64 (gI zs d + ry - er + (5 + n / 8 % 20)), .int .i64 er] rfl rfl hnew (by simp [Value.oneCell']) (by omega) c63 cby hbase (px + 1 + 1) hH ?_; intro gg cap w' hown' hgrow hat hlt')
        go_roundw
        case rel => exact ⟨k + 1, l ++ [⟨(d : Int), gI zs d + ry - er + (5 + n / 8 % 20), er⟩], by omega, by go_num, BY.grown hgrow BY.size (fun j hj => own_ge hown hj), by simpa [List.flatMap_append, cC] using hown', by simp [HLK.out], HRD.out.snoc hdl her0 her3 (fun h => absurd (by rw [← HLK.out]; exact h) HBIT.out)⟩
        case measure => simp [intOf]; omega
      · have ebit : ((b / 2 ^ k).tmod 2 == 1) = false := by simp [hbit]
        clear hbit
        have hf : Fr (fun b => b = px) W (W.setCell ⟨px, 1, none⟩ (.int .i64 (gI zs d + ry - er))) := (Fr.refl (fun b => b = px) W).andSet rfl
        have qV : Blk (W.setCell ⟨px, 1, none⟩ (.int .i64 (gI zs d + ry - er))) px 91 #[.int .i64 (d : Int), .int .i64 (gI zs d + ry - er), .int .i64 er] := by
          have q2 := HQ0.out.set_ 1 (.int .i64 (gI zs d + ry - er))
          simpa only [List.setIfInBounds_toArray, List.set_cons_zero, List.set_cons_succ] using q2
        have hsV : (W.setCell ⟨px, 1, none⟩ (.int .i64 (gI zs d + ry - er))).heap.size = px + 1 := by simp [hsz1]
        have ownV : (W.setCell ⟨px, 1, none⟩ (.int .i64 (gI zs d + ry - er))).ownsRow w1.heap.size 91 3 u12 l.length (l.flatMap cC) := own_fr (own_below hown HXW.out) hf (fun b hb hbp => by have := own_lt hown hb; omega)
        have BV : Below w1.heap.size w1 (W.setCell ⟨px, 1, none⟩ (.int .i64 (gI zs d + ry - er))) := hf.toBelow HX2.out HX2.out.size (fun x hx => by omega)
        have y4 : ((W.setCell ⟨px, 1, none⟩ (.int .i64 (gI zs d + ry - er))).alloc (.cells #[.int .i64 (d : Int), .int .i64 (gI zs d + ry - er), .int .i64 er] 91)).drew.ownsRow w1.heap.size 91 3 u12 l.length (l.flatMap cC) := own_below ownV ((Below.refl _ _).alloc (Nat.le_refl _) _).drew
        have BY : Below w1.heap.size w1 ((W.setCell ⟨px, 1, none⟩ (.int .i64 (gI zs d + ry - er))).alloc (.cells #[.int .i64 (d : Int), .int .i64 (gI zs d + ry - er), .int .i64 er] 91)).drew := (ex_alloc BV _).drew
        have hnew : ∀ j u, ([.int .i64 (d : Int), .int .i64 (gI zs d + ry - er), .int .i64 er] : List Value)[j]? = some u → ((W.setCell ⟨px, 1, none⟩ (.int .i64 (gI zs d + ry - er))).alloc (.cells #[.int .i64 (d : Int), .int .i64 (gI zs d + ry - er), .int .i64 er] 91)).drew.cell? ((⟨px + 1, 0, none⟩ : Addr).add j) = some u :=
          World.news_of_block (by have h := heap_alloc_new (W.setCell ⟨px, 1, none⟩ (.int .i64 (gI zs d + ry - er))) (.cells #[.int .i64 (d : Int), .int .i64 (gI zs d + ry - er), .int .i64 er] 91); rw [hsV] at h; exact h)
        have c63 : l.length + 1 ≤ maxLen := by have := HLK.out; unfold maxLen; omega
        have cby : (l.length + 1) * 24 ≤ 140737488355328 := by have := HLK.out; omega
        have hbase : w1.heap.size ≤ ((W.setCell ⟨px, 1, none⟩ (.int .i64 (gI zs d + ry - er))).alloc (.cells #[.int .i64 (d : Int), .int .i64 (gI zs d + ry - er), .int .i64 er] 91)).drew.heap.size := BY.size
        have hH : ((W.setCell ⟨px, 1, none⟩ (.int .i64 (gI zs d + ry - er))).alloc (.cells #[.int .i64 (d : Int), .int .i64 (gI zs d + ry - er), .int .i64 er] 91)).drew.heap.size = px + 1 + 1 := by simp [hsz1]
        go_wp2_with (at_builtin; refine wpList_append_lies _ rfl _ _ _ rfl w1.heap.size 91 i0 _ 3 24 Tryz.underlying31 HI.out hz0' hz1' hz2' rfl (by omega) u12 _ _ rfl y4 ⟨px + 1, 0, none⟩ 1 1 [.int .i64 (d : Int), .int .i64 (gI zs d + ry - er), .int .i64 er] rfl rfl hnew (by simp [Value.oneCell']) (by omega) c63 cby hbase (px + 1 + 1) hH ?_; intro gg cap w' hown' hgrow hat hlt')
        go_roundw
        case rel => exact ⟨k + 1, l ++ [⟨(d : Int), gI zs d + ry - er, er⟩], by omega, by go_num, BY.grown hgrow BY.size (fun j hj => own_ge hown hj), by simpa [List.flatMap_append, cC] using hown', by simp [HLK.out], HRD.out.snoc hdl her0 her3 (fun _ => ⟨by omega, by omega⟩)⟩
        case measure => simp [intOf]; omega
    · have hlt' : ¬ (k : Int) < m % 5 := by rw [HM.out]; omega
      obtain ⟨A, c, rfl, h1, h2, h3⟩ := own_C hown
      go_wp2
      go_ret
      exact ⟨⟨A, c, l, rfl, by have := HLK.out; omega, h1, h2, by rw [HZS.out]; exact HRD.out, h3, own_base hown hB1.size⟩, ex_trans hB1 hbl⟩

end Go.Proofs.YtkaogjhnogkcdaaGreat
end
