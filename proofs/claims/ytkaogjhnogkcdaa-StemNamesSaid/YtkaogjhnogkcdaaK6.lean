/- Ranges over functions: what the walks share (general laws). · Glass: next (walks): the iterator over the states of a day behind one. · Maps whose keys are two integers, as the program makes them: the runs of their operations. · Glass: days (walk): the states of each day that come from the beginning. -/
import Derived.RangeFuncNested
import Derived.RangeFuncBound
import Derived.RangeFuncCalls
import Derived.RangeFuncLeaves
import Derived.Shelf.Abstract
import Derived.Shelf.RegionOpen
import Derived.WalkKit
import Derived.OwnWalkIn
import Derived.TacticsInMore
import Derived.LoopNIn
import Derived.LoopIn
import Derived.Test.YtkaogjhnogkcdaaK5
set_option linter.unusedVariables false
set_option linter.unusedSimpArgs false
set_option linter.unusedSectionVars false
section
namespace Go.Proofs.Ytkaogjhnogkcdaa
open Go.RowKit Go.Shelf

structure KeepsCells (W W' : World) : Prop where
  size : W.heap.size ≤ W'.heap.size
  same : ∀ (k : Nat) (o : Obj), W.heap[k]? = some o → o.isCells = true → W'.heap[k]? = some o
theorem KeepsCells.refl (W : World) : KeepsCells W W := ⟨Nat.le_refl _, fun _ _ h _ => h⟩
theorem KeepsCells.trans {A B C : World} (h : KeepsCells A B) (k : KeepsCells B C) : KeepsCells A C := ⟨Nat.le_trans h.size k.size, fun i o hi ho => k.same i o (h.same i o hi ho) ho⟩
theorem KeepsCells.below {W W' : World} (h : Below W.heap.size W W') : KeepsCells W W' := ⟨h.size, fun k _ hk _ => (h.block k (Array.getElem?_eq_some_iff.1 hk).1).trans hk⟩
theorem KeepsCells.alloc (W : World) (o : Obj) : KeepsCells W (W.alloc o) := .below ((Below.refl _ _).alloc (Nat.le_refl _) _)
theorem KeepsCells.putObj {W : World} {l : Nat} {o : Obj} (o' : Obj) (hl : W.heap[l]? = some o) (ho : o.isCells = false) : KeepsCells W (W.putObj l o') :=
  ⟨by simp, fun k x hk hx => by
    by_cases h : k = l
    · subst h; rw [hl] at hk; cases hk; rw [ho] at hx; cases hx
    · exact (World.putObj_heap_other h).trans hk⟩
theorem KeepsCells.cell {W W' : World} (h : KeepsCells W W') {p : Addr} {v : Value} (hc : W.cell? p = some v) : W'.cell? p = some v := by
  unfold World.cell? at hc ⊢
  split at hc
  · rename_i c t f hh
    rw [h.same _ _ hh rfl]; exact hc
  · cases hc
theorem KeepsCells.blk {W W' : World} (h : KeepsCells W W') {g : Nat} {t : TypeId} {cs : Array Value} (hb : Blk W g t cs) : Blk W' g t cs := h.same _ _ hb rfl
theorem SlAt.cells {W W' : World} {B sz n : Nat} {A : Option Addr} {f : Nat → Nat → Value} (h : SlAt W B sz A n f) (hk : KeepsCells W W') : SlAt W' B sz A n f :=
  fun hn => let ⟨b, off, e, hb, hc⟩ := h hn; ⟨b, off, e, hb, fun k j hk' hj => hk.cell (hc k j hk' hj)⟩
theorem GlIn.cells {W W' : World} {B : Nat} {g : Gl} {Ab Ad : Option Addr} (h : GlIn W B g Ab Ad) (hk : KeepsCells W W') : GlIn W' B g Ab Ad := ⟨SlAt.cells h.b hk, SlAt.cells h.d hk⟩

theorem grown_of_below {W W' : World} (h : Below W.heap.size W W') : W.grownBy W' none := ⟨h.os, h.tape, h.output, h.size, fun k hk _ => h.block k hk⟩
theorem AbidesFrom.below {β : Type} {B : Nat} {J : β → World → Prop} (hJ : AbidesFrom B J) {s : β} {W W' : World} (h : J s W) (hb : Below W.heap.size W W') : J s W' :=
  hJ s W W' none h (grown_of_below hb) (fun r e => by cases e)
theorem OwnFrom.below {β : Type} {B : Nat} {J : β → World → Prop} (hJ : OwnFrom B J) {s : β} {W W' : World} (h : J s W) (hb : Below W.heap.size W W') : J s W' :=
  hJ s W W' none h (grown_of_below hb) (fun r e => by cases e)

def Marks (W : World) : List Deferred → Prop
  | [] => True
  | d :: ds => ∃ D, d = { target := .collected D, args := #[] } ∧ W.heap[D]? = some (.deferred (some [])) ∧ (∀ e ∈ ds, e.target ≠ .collected D) ∧ Marks W ds
theorem Marks.keep {W W' : World} (hk : ∀ (D : Nat), W.heap[D]? = some (.deferred (some [])) → W'.heap[D]? = some (.deferred (some []))) : ∀ {ds : List Deferred}, Marks W ds → Marks W' ds
  | [], _ => trivial
  | _ :: _, ⟨D, e, h1, h2, h3⟩ => ⟨D, e, hk D h1, h2, h3.keep hk⟩
theorem Marks.lt {W : World} : ∀ {ds : List Deferred}, Marks W ds → ∀ d ∈ ds, ∃ D, d.target = .collected D ∧ D < W.heap.size
  | [], _, d, hd => by cases hd
  | _ :: _, ⟨D, e, h1, _, h3⟩, d, hd => by
    rcases List.mem_cons.1 hd with rfl | hd
    · exact ⟨D, by rw [e], (Array.getElem?_eq_some_iff.1 h1).1⟩
    · exact h3.lt d hd
theorem Marks.new {W W' : World} {ds : List Deferred} (h : Marks W ds) (hk : ∀ (D : Nat), W.heap[D]? = some (.deferred (some [])) → W'.heap[D]? = some (.deferred (some []))) {D : Nat} (hD : W.heap.size ≤ D) (hn : W'.heap[D]? = some (.deferred (some []))) :
    Marks W' ({ target := .collected D, args := #[] } :: ds) :=
  ⟨D, rfl, hn, fun e he h' => by
    obtain ⟨D', h1, h2⟩ := h.lt e he
    rw [h1] at h'
    injection h' with h'
    omega, h.keep hk⟩

structure KeepsBut (B : Nat) (W W' : World) : Prop where
  os : W'.os = W.os
  tape : W'.tape = W.tape
  output : W'.output = W.output
  size : W'.heap.size = W.heap.size
  same : ∀ (k : Nat) (o : Obj), W.heap[k]? = some o → (∀ x, o ≠ .deferred x) → W'.heap[k]? = some o
  low : ∀ k, k < B → W'.heap[k]? = W.heap[k]?
theorem KeepsBut.refl (B : Nat) (W : World) : KeepsBut B W W := ⟨rfl, rfl, rfl, rfl, fun _ _ h _ => h, fun _ _ => rfl⟩
theorem KeepsBut.trans {B : Nat} {X Y Z : World} (h : KeepsBut B X Y) (k : KeepsBut B Y Z) : KeepsBut B X Z :=
  ⟨k.os.trans h.os, k.tape.trans h.tape, k.output.trans h.output, k.size.trans h.size, fun i o hi ho => k.same i o (h.same i o hi ho) ho, fun i hi => (k.low i hi).trans (h.low i hi)⟩
theorem KeepsBut.put {B : Nat} {W : World} {D : Nat} (h : W.heap[D]? = some (.deferred (some []))) (hD : B ≤ D) : KeepsBut B W (W.putObj D (.deferred none)) :=
  ⟨rfl, rfl, rfl, by simp, fun k o hk ho => by
    by_cases e : k = D
    · subst e; rw [h] at hk; cases hk; exact absurd rfl (ho _)
    · exact (World.putObj_heap_other e).trans hk, fun k hk => World.putObj_heap_other (by omega)⟩
theorem KeepsBut.cells {B : Nat} {W W' : World} (h : KeepsBut B W W') : KeepsCells W W' := ⟨Nat.le_of_eq h.size.symm, fun k o hk ho => h.same k o hk (fun x e => by rw [e] at ho; cases ho)⟩
theorem KeepsBut.below {B : Nat} {a W W' : World} (h : KeepsBut B W W') (hb : Below B a W) : Below B a W' :=
  ⟨h.os.trans hb.os, h.tape.trans hb.tape, h.output.trans hb.output, by rw [h.size]; exact hb.size, fun k hk => (h.low k hk).trans (hb.block k hk)⟩

theorem leaves_marks {n : Nat} {P : Program} {fn : Func} {tmps : Array Value} {R : Ending → World → Prop} (B : Nat) : ∀ (ds : List Deferred) (W : World), Marks W ds → (∀ d ∈ ds, ∀ D, d.target = .collected D → B ≤ D) →
    (∀ W', KeepsBut B W W' → ∃ v, (results fn tmps).run P W' = .ok v W' ∧ R (.returned v) W') → LeavesInM Fence.wide n P fn tmps R ds .returning W
  | [], W, _, _, hR => hR W (KeepsBut.refl B W)
  | d :: ds, W, ⟨D, e, h1, h2, h3⟩, hB, hR => by
    subst e
    have hDB : B ≤ D := hB { target := .collected D, args := #[] } (by simp) D rfl
    refine ⟨by simp, .inl ⟨D, W.putObj D (.deferred none), rfl, run_takeDeferred h1, ?_⟩⟩
    refine leaves_marks B ds _ ?_ (fun d hd => hB d (by simp [hd])) (fun W' hW' => hR W' ((KeepsBut.put h1 hDB).trans hW'))
    -- the other marks' blocks lie as they lay
    clear hR hB h1
    induction ds with
    | nil => trivial
    | cons d' ds ih =>
      obtain ⟨D', e', g1, g2, g3⟩ := h3
      subst e'
      have hne : D' ≠ D := fun h => h2 { target := .collected D', args := #[] } (by simp) (by rw [h])
      exact ⟨D', rfl, (World.putObj_heap_other hne).trans g1, g2, ih (fun e he => h2 e (by simp [he])) g3⟩

theorem calls_of_marks {n : Nat} {P : Program} {f : FuncId} {fn : Func} {c : Code} {args : Array Value} {w : World} {R : Ending → World → Prop} (hf : P.funcs[f]? = some fn) (hb : fn.body = some c)
    (h : c.wp P (bodyPostM Fence.wide n P fn R) { tmps := args ++ Array.replicate (fn.ntmps - args.size) undef, defers := [] } w) : Calls P f args w R :=
  callsIn_wide.1 (callsIn_of_wp_marks (F := Fence.wide) (n := n) hf hb trivial (wpIn_wide.2 h) rfl)

end Go.Proofs.Ytkaogjhnogkcdaa
end

section
namespace Go.Proofs.Ytkaogjhnogkcdaa
open Go.RowKit Go.Shelf
attribute [local go_sem] Oper.semAt_some

theorem wide3 {P : Program} {f : FuncId} {args : Array Value} {w : World} {n m : Nat} {R : Ending → World → Prop} (h : Calls P f args w R) : Fence.wide.fn f ∧ (Fence.wide.depth.isSome = true → 1 ≤ n) ∧ CallsIn Fence.wide m P f args w R :=
  ⟨trivial, fun h => by simp [Fence.wide] at h, callsIn_wide.2 h⟩
theorem vint {k : IntKind} {a b : Int} (h : a = b) : Value.int k a = .int k b := by rw [h]

abbrev NextSt (g : Gl) (h : List Rg) (d : Nat) (s : St) := { t : St // t ∈ nextL g h d s }
def encSt (t : St) : Array Value := #[.agg #[.int .i64 t.1, .int .i64 t.2]]

theorem next_any (g : Gl) (Ab Ad Ah : Option Addr) (cb cd ch d : Nat) (h : List Rg) (s : St) (w : World) :
    Calls Try.prog 64 #[.agg #[.int .i64 g.base, .slice Ab g.bands.length cb, .slice Ad g.depths.length cd, .int .i64 g.blo, .int .i64 g.bhi, .slice Ah h.length ch], .agg #[.int .i64 s.1, .int .i64 s.2], .int .i64 (d : Int)] w fun e w' =>
      e = .returned (.func (.func 74) #[] #[.pointer (some ⟨w.heap.size, 0, none⟩), .pointer (some ⟨w.heap.size + 1 + 1, 0, none⟩), .pointer (some ⟨w.heap.size + 1, 0, none⟩)]) ∧
      w' = ((w.alloc (.cells #[.int .i64 g.base, .slice Ab g.bands.length cb, .slice Ad g.depths.length cd, .int .i64 g.blo, .int .i64 g.bhi, .slice Ah h.length ch] 105)).alloc (.cells #[.int .i64 s.1, .int .i64 s.2] 124)).alloc (.cells #[.int .i64 (d : Int)] 3) := by
  go_enter Try.func64, Try.ntmps64
  go_wp2
  go_ret
  exact ⟨rfl, rfl⟩

set_option maxRecDepth 100000 in
set_option maxHeartbeats 4000000 in
theorem next1_in (n : Nat) (g : Gl) (Ab Ad Ah : Option Addr) (cb cd ch d : Nat) (h : List Rg) (s : St) (hok : Ok g h) (hd : d < h.length) (hs1 : 0 ≤ s.1 ∧ s.1 ≤ 10000) (hs2 : 0 ≤ s.2 ∧ s.2 ≤ 10000)
    (l bl bd bs : Nat) (J Jx : List (NextSt g h d s) → World → Prop) (W : World) (hg : GlIn W W.heap.size g Ab Ad) (hh : SlAt W W.heap.size 2 Ah h.length (fR h))
    (hJ : AbidesFrom W.heap.size J) (hJx : AbidesFrom W.heap.size Jx)
    (q1 : Blk W bl 105 #[.int .i64 g.base, .slice Ab g.bands.length cb, .slice Ad g.depths.length cd, .int .i64 g.blo, .int .i64 g.bhi, .slice Ah h.length ch]) (q2 : Blk W bd 3 #[.int .i64 (d : Int)]) (q3 : Blk W bs 124 #[.int .i64 s.1, .int .i64 s.2])
    (hY : ∀ pre x W1, J pre W1 → pre.length < (nextL g h d s).length → YieldAt Fence.wide (n - 1) Try.prog l (encSt x.1) W1 fun e W' =>
      (e = .returned (.bool true) ∧ J (pre ++ [x]) W' ∧ KeepsCells W1 W') ∨ (e = .returned (.bool false) ∧ Jx (pre ++ [x]) W'))
    (h0 : J [] W) :
    CallsIn Fence.wide n Try.prog 74 #[.func (.yield l) #[] #[], .pointer (some ⟨bl, 0, none⟩), .pointer (some ⟨bd, 0, none⟩), .pointer (some ⟨bs, 0, none⟩)] W fun e W' => (∃ v, e = .returned v) ∧
      ((∃ xs, xs.map (·.1) = nextL g h d s ∧ J xs W') ∨ (∃ pre, Jx pre W')) := by
  have a0 := q1.cell 0
  have a1 := q1.cell 1
  have a2 := q1.cell 2
  have a3 := q1.cell 3
  have a4 := q1.cell 4
  have a5 := q1.cell 5
  have d0 := q2.cell 0
  have lt1 := q1.lt
  have lt2 := q2.lt
  have lt3 := q3.lt
  simp at a0 a1 a2 a3 a4 a5 d0
  refine callsIn_of_wp Try.func74 rfl trivial ?_ rfl
  simp only [Try.ntmps74, List.size_toArray, List.length_cons, List.length_nil, Nat.reduceAdd, Nat.reduceSub, Array.replicate_succ, Array.replicate_zero, List.push_toArray, List.append_toArray, List.nil_append, List.cons_append]
  gi_wp2_with fail
  refine wide3 ((creep_any _ _ _ _ _ _ _ _ _ g.bands _ (Nat.le_refl _) (by have := hok.nb; omega) hg.b).mono ?_)
  rintro e w2 ⟨rfl, hb2⟩
  have HL := Lib.hid (show nextL g h d s = deps s (depL g h d) g.blo (creepTo g.bands (d : Int) g.bands.length).lo (g.bhi - g.blo + 1).toNat ((creepTo g.bands (d : Int) g.bands.length).hi - (creepTo g.bands (d : Int) g.bands.length).lo + 1).toNat (depL g h d).length from rfl)
  have hcb : 0 ≤ (creepTo g.bands (d : Int) g.bands.length).lo ∧ (creepTo g.bands (d : Int) g.bands.length).lo ≤ (creepTo g.bands (d : Int) g.bands.length).hi ∧ (creepTo g.bands (d : Int) g.bands.length).hi ≤ 3 := creepTo_bd hok.bands
  generalize (creepTo g.bands (d : Int) g.bands.length).lo = clo at *
  generalize (creepTo g.bands (d : Int) g.bands.length).hi = chi at *
  obtain ⟨hc1, hc2, hc3⟩ := hcb
  obtain ⟨hk1, hk2, hk3⟩ := hok.back
  obtain ⟨nC, hnC⟩ : ∃ nC : Nat, (chi - clo + 1).toNat = nC := ⟨_, rfl⟩
  obtain ⟨nB, hnB⟩ : ∃ nB : Nat, (g.bhi - g.blo + 1).toNat = nB := ⟨_, rfl⟩
  rw [hnC, hnB] at HL
  have hC1 : chi ≤ clo + (nC : Int) - 1 := by omega
  have hC2 : clo + (nC : Int) - 1 ≤ chi := by omega
  have hB1 : g.bhi ≤ g.blo + (nB : Int) - 1 := by omega
  have hB2 : g.blo + (nB : Int) - 1 ≤ g.bhi := by omega
  clear hnC hnB
  have hb2a := ex_alloc hb2 (.cells #[.int .i64 clo, .int .i64 chi] 23)
  have hn5 : g.depths.length ≤ 1000 := by have := hok.nd; omega
  obtain ⟨hcc, _⟩ := bcell hb2
  have hsz2 := hb2.size
  have lt1' : bl < w2.heap.size := by omega
  have lt2' : bd < w2.heap.size := by omega
  gi_wp2_with fail
  refine wide3 ((depths_any g _ _ _ _ _ _ d h _ ((hg.below hb2a).up hb2a.size) ((hh.below hb2a).up hb2a.size) hd hn5).mono ?_)
  rintro e w3 ⟨⟨A, cA, rfl, hsl⟩, hb3⟩
  have hW3 : KeepsCells W w3 := (KeepsCells.below hb2a).trans (KeepsCells.below hb3)
  have hbox : Blk w3 w2.heap.size 23 #[.int .i64 clo, .int .i64 chi] := (Blk.new w2 _ _).below hb3 (by simp)
  have hJ3 : J [] w3 := AbidesFrom.below hJ (AbidesFrom.below hJ h0 hb2a) hb3
  have z1 := hW3.blk q1
  have z3 := hW3.blk q3
  clear hcc hsz2 lt1' lt2' hb2 hb2a hb3 a0 a1 a2 a3 a4 a5 d0 h0
  have hdsl : (depL g h d).length ≤ 2000 := by have h1 := compact_len (depTo g (gR h d).lo (gR h d).hi g.depths.length); have h2 := (depTo_len (g := g) (lo := (gR h d).lo) (hi := (gR h d).hi) (k := g.depths.length)).2; unfold depL; omega
  generalize depL g h d = ds at *
  gi_wp2_with fail
  gi_loopw [18] (fun i wr => ∃ m : Nat, m ≤ ds.length ∧ i = .int .i64 m ∧ KeepsCells w3 wr ∧ ∃ pre : List (NextSt g h d s), pre.map (·.1) = deps s ds g.blo clo nB nC m ∧ J pre wr)
    (fun i _ => ds.length - (intOf i).toNat)
  case atStart => exact ⟨0, by omega, rfl, .refl _, [], rfl, hJ3⟩
  case round =>
    obtain ⟨m, hm, rfl, hkc, pre, hpre, hJp⟩ := hrel
    by_cases hlt : m < ds.length
    · have b3 := (hkc.blk z1).cell 3
      have b4 := (hkc.blk z1).cell 4
      simp at b3 b4
      obtain ⟨b, off, rfl, hbB, p1⟩ := IsInts.at_ (SlAt.cells hsl hkc) hlt
      have HP := Lib.hid hpre
      clear hpre
      obtain ⟨wo, rfl⟩ : ∃ wo : World, wo = wr := ⟨_, rfl⟩
      gi_wp2_with fail
      gi_loopw [8] (fun v8 wr => ∃ m2 : Nat, m2 ≤ nB ∧ v8 = .int .i64 (g.blo + (m2 : Int)) ∧ KeepsCells w3 wr ∧ ∃ pre : List (NextSt g h d s), pre.map (·.1) = deps s ds g.blo clo nB nC m ++ backs s (gI ds m) g.blo clo nC m2 ∧ J pre wr)
        (fun v8 _ => (g.blo + (nB : Int) - intOf v8).toNat)
      case atStart => exact ⟨0, by omega, vint (by simp), hkc, pre, by rw [HP.out]; simp [backs], hJp⟩
      case round =>
        clear HP hJp pre hkc b3 b4 p1
        obtain ⟨m2, hm2, rfl, hkc, pre, hpre, hJp⟩ := hrel
        have HP := Lib.hid hpre
        clear hpre
        have b4 := (hkc.blk z1).cell 4
        have c0 := (hkc.blk hbox).cell 0
        simp at b4 c0
        obtain ⟨wp, rfl⟩ : ∃ wp : World, wp = wr := ⟨_, rfl⟩
        by_cases hlt2 : m2 < nB
        · have t1 : g.blo + (m2 : Int) ≤ g.bhi := by omega
          gi_wp2_with fail
          gi_loopw [9] (fun v9 wr => ∃ m3 : Nat, m3 ≤ nC ∧ v9 = .int .i64 (clo + (m3 : Int)) ∧ KeepsCells w3 wr ∧ ∃ pre : List (NextSt g h d s), pre.map (·.1) = deps s ds g.blo clo nB nC m ++ (backs s (gI ds m) g.blo clo nC m2 ++ creeps s (gI ds m) (g.blo + m2) clo m3) ∧ J pre wr)
            (fun v9 _ => (clo + (nC : Int) - intOf v9).toNat)
          case atStart => exact ⟨0, by omega, vint (by simp), hkc, pre, by rw [HP.out]; simp [creeps], hJp⟩
          case round =>
            clear HP hJp pre hkc b4 c0
            obtain ⟨m3, hm3, rfl, hkc, pre, hpre, hJp⟩ := hrel
            have HP := Lib.hid hpre
            clear hpre
            have c1 := (hkc.blk hbox).cell 1
            have e0 := (hkc.blk z3).cell 0
            have e1 := (hkc.blk z3).cell 1
            simp at c1 e0 e1
            by_cases hlt3 : m3 < nC
            · have t2 : clo + (m3 : Int) ≤ chi := by omega
              gi_wp2_with fail
              refine wide3 ((after_any _ _ _ _ _ _ (by omega) (by omega) (by omega) (by omega)).mono ?_)
              rintro e w4 ⟨rfl, hb4⟩
              have hfar := far_prefix s ds g.blo clo hlt hlt2 (show m3 + 1 ≤ nC by omega)
              rw [← HL.out, creeps] at hfar
              have hmem : ((s.1 + (clo + (m3 : Int)), mx3 (s.2 - (g.blo + (m2 : Int))) 0 (gI ds m)) : St) ∈ nextL g h d s := hfar.subset (by simp)
              have hlen : pre.length < (nextL g h d s).length := by
                have h1 := hfar.length_le
                have h2 := congrArg List.length HP.out
                simp only [List.length_append, List.length_map, List.length_singleton] at h1 h2
                omega
              have hlN := Lib.hid hlen
              obtain ⟨fn, tmps, assign, body, hy, hR⟩ := hY pre ⟨_, hmem⟩ w4 (AbidesFrom.below hJ hJp hb4) hlen
              have hy' : (Instr.yield l #[.agg #[.int .i64 (s.1 + (clo + (m3 : Int))), .int .i64 (mx3 (s.2 - (g.blo + (m2 : Int))) 0 (gI ds m))]]).run Try.prog w4 = .ok (.round l fn tmps assign body) w4 := hy
              clear hy hlen hfar
              gi_wp2
              refine ⟨fun h => by simp [Fence.wide] at h, ?_⟩
              refine hR.mono ?_
              have hk4 : KeepsCells w3 w4 := hkc.trans (KeepsCells.below hb4)
              rintro e W' (⟨rfl, hJ', hk'⟩ | ⟨rfl, hJx'⟩)
              · gi_wp2
                go_roundw
                case rel =>
                  refine ⟨m3 + 1, by omega, vint (by omega), hk4.trans hk', _, ?_, hJ'⟩
                  rw [List.map_append, HP.out, creeps]; simp [List.append_assoc]
                case measure => simp [intOf]; omega
              · gi_wp2
                refine bodyPost_ret (results_none rfl _ _ _) rfl ?_
                exact ⟨⟨_, rfl⟩, .inr ⟨_, hJx'⟩⟩
            · have t2 : chi < clo + (m3 : Int) := by omega
              have hmn : m3 = nC := by omega
              have HP2 : Hid (pre.map (·.1) = deps s ds g.blo clo nB nC m ++ backs s (gI ds m) g.blo clo nC (m2 + 1)) := Lib.hid (by rw [HP.out, backs, hmn])
              clear hmn HP
              gi_wp2
              go_roundw
              case rel => exact ⟨m2 + 1, by omega, vint (by omega), hkc, pre, HP2.out, hJp⟩
              case measure => simp [intOf]; omega
        · have t1 : g.bhi < g.blo + (m2 : Int) := by omega
          have hmn : m2 = nB := by omega
          have HP2 : Hid (pre.map (·.1) = deps s ds g.blo clo nB nC (m + 1)) := Lib.hid (by rw [HP.out, deps, hmn])
          clear hmn HP
          gi_wp2
          go_roundw
          case rel => exact ⟨m + 1, by omega, by go_num, hkc, pre, HP2.out, hJp⟩
          case measure => simp [intOf]; omega
    · have hmn : m = ds.length := by omega
      have HP2 : Hid (pre.map (·.1) = nextL g h d s) := Lib.hid (by rw [hpre, HL.out, hmn])
      clear hmn hpre
      gi_wp2
      go_end0
      exact ⟨⟨_, rfl⟩, .inl ⟨pre, HP2.out, hJp⟩⟩

end Go.Proofs.Ytkaogjhnogkcdaa
end

section
namespace Go.Proofs.Ytkaogjhnogkcdaa
open Go.RowKit

def keyV (s : St) : Value := .agg #[.int .i64 s.1, .int .i64 s.2]

theorem eq_st (s t : St) (w : World) : (Op.equal 124 (keyV s) (keyV t)).run Try.prog w = .ok (s == t) w := by
  unfold keyV
  obtain ⟨a, b⟩ := s
  obtain ⟨c, d⟩ := t
  simp [Op.equal, Op.maxDepth, go_sem]
  by_cases h1 : a = c
  · by_cases h2 : b = d
    · simp [h1, h2]
    · simp [h1, h2]
  · simp [h1]
theorem checkKey_st (em : Bool) (s : St) (w : World) : (Instr.checkKey em 10000 124 (keyV s)).run Try.prog w = .ok () w := by
  kernel_rfl
theorem getObj_at {W : World} {b c : Nat} {es : Array MapEntry} (h : W.heap[b]? = some (.map es c)) : (getObj b).run Try.prog W = .ok (.map es c) W := by simp [getObj, Sem.run, h]
theorem setObj_at {W : World} {b c : Nat} {es : Array MapEntry} (o' : Obj) (h : W.heap[b]? = some (.map es c)) : (setObj b o').run Try.prog W = .ok () (W.putObj b o') := by simp [setObj, Sem.run, h, World.putObj]

def mkEs (L : List St) : Array MapEntry := (L.zipIdx.map fun p => { key := keyV p.1, val := .bool true, born := p.2 }).toArray
def IsMap (W : World) (b : Nat) (L : List St) : Prop := W.heap[b]? = some (.map (mkEs L) L.length)

theorem mkEs_size (L : List St) : (mkEs L).size = L.length := by simp [mkEs]
theorem mkEs_get {L : List St} {i : Nat} (h : i < L.length) : (mkEs L)[i]? = some { key := keyV L[i], val := .bool true, born := i } := by
  simp [mkEs, List.getElem?_zipIdx, h]
theorem mkEs_push (L : List St) (s : St) : (mkEs L).push { key := keyV s, val := .bool true, born := L.length } = mkEs (L ++ [s]) := by
  simp [mkEs, List.zipIdx_append]

theorem findAsking_st (s : St) (w : World) : ∀ (l : List St) (k i : Nat),
    (Instr.findAsking 124 (keyV s) (l.zipIdx k |>.map fun p => { key := keyV p.1, val := .bool true, born := p.2 }) i).run Try.prog w =
      .ok (if s ∈ l then some (i + l.idxOf s, .bool true) else none) w
  | [], _, _ => by simp [Instr.findAsking]
  | t :: l, k, i => by
    simp only [List.zipIdx_cons, List.map_cons, Instr.findAsking, Sem.run_bind, eq_st, Result.andThen_ok]
    by_cases h : s = t
    · subst h; simp
    · have hb : (s == t) = false := by simpa using h
      have hne : (t == s) = false := by simpa using fun e => h e.symm
      simp only [hb, Bool.false_eq_true, if_false]
      rw [findAsking_st s w l (k + 1) (i + 1)]
      by_cases hm : s ∈ l
      · rw [if_pos hm, if_pos (by simp [hm])]
        rw [List.idxOf_cons, hne]
        simp; omega
      · rw [if_neg hm, if_neg (by simp [hm, h])]

theorem findKey_st (s : St) (L : List St) (w : World) : (Instr.findKey 124 (keyV s) (mkEs L).toList).run Try.prog w = .ok (if s ∈ L then some (L.idxOf s, .bool true) else none) w := by
  unfold Instr.findKey
  simp only [Sem.run_bind, run_underlying Try.underlying124, Result.andThen_ok]
  cases L with
  | nil => simp [mkEs, Instr.findNow]
  | cons t L =>
    have h1 := findAsking_st s w (t :: L) 0 0
    have h2 : (mkEs (t :: L)).toList = ((t :: L).zipIdx 0 |>.map fun p => { key := keyV p.1, val := .bool true, born := p.2 }) := by simp [mkEs]
    rw [h2]
    have h3 : ∀ d, Instr.findNow (.struct d) (keyV s) ((t :: L).zipIdx 0 |>.map fun p => { key := keyV p.1, val := .bool true, born := p.2 }) 0 = none := fun d => by
      simp [Instr.findNow, Instr.sameNow]
    rw [h3]
    simp only [Nat.zero_add] at h1
    exact h1

theorem run_lookup_st {W : World} {b : Nat} {L : List St} (h : IsMap W b L) (s : St) : (Instr.lookup 122 (.map (some b)) (keyV s) false).run Try.prog W = .ok (.bool (decide (s ∈ L))) W := by
  unfold Instr.lookup
  simp only [Sem.run_bind, run_underlying Try.underlying122, Result.andThen_ok, getObj_at h, checkKey_st, findKey_st, Sem.run_pure]
  by_cases hm : s ∈ L
  · simp [hm]
  · simp only [hm, if_false, decide_false]
    simp [go_sem]

theorem run_update_st {W : World} {b : Nat} {L : List St} (h : IsMap W b L) (s : St) (hs : s ∉ L) :
    (Instr.mapUpdate 122 (.map (some b)) (keyV s) (.bool true)).run Try.prog W = .ok () (W.putObj b (.map (mkEs (L ++ [s])) (L ++ [s]).length)) := by
  unfold Instr.mapUpdate
  simp only [Sem.run_bind, run_underlying Try.underlying122, Result.andThen_ok, getObj_at h, checkKey_st, findKey_st, if_neg hs]
  rw [mkEs_push, setObj_at _ h]
  simp

theorem IsMap.lt {W : World} {b : Nat} {L : List St} (h : IsMap W b L) : b < W.heap.size := (Array.getElem?_eq_some_iff.1 h).1
theorem IsMap.of_block {W W' : World} {b : Nat} {L : List St} (h : IsMap W b L) (hb : W'.heap[b]? = W.heap[b]?) : IsMap W' b L := hb.trans h
theorem IsMap.below {W W' : World} {b : Nat} {L : List St} (h : IsMap W b L) (hb : Below W.heap.size W W') : IsMap W' b L := h.of_block (hb.block b h.lt)
theorem IsMap.alloc {W : World} {b : Nat} {L : List St} (h : IsMap W b L) (o : Obj) : IsMap (W.alloc o) b L := h.of_block (Below.heap_alloc W o b h.lt)
theorem IsMap.grown {W W' : World} {b : Nat} {L : List St} {row : Option Nat} (h : IsMap W b L) (hg : W.grownBy W' row) (hr : some b ≠ row) : IsMap W' b L := h.of_block (hg.block b h.lt hr)
theorem IsMap.new (W : World) {g : Nat} (hg : W.heap.size = g) : IsMap (W.alloc (.map #[] 0)) g [] := by
  subst hg; exact World.alloc_heap_new W _

theorem run_range_st {W : World} {b : Nat} {L : List St} (h : IsMap W b L) : (Instr.range 122 (.map (some b))).run Try.prog W = .ok (.pointer (some ⟨W.heap.size, 0, none⟩)) (W.alloc (.mapIter (some b) L.length #[] L.length)) := by
  unfold Instr.range
  simp only [Sem.run_bind, run_underlying Try.underlying122, Result.andThen_ok, getObj_at h, Sem.run_pure, run_newObj_alloc]

def Iter (W : World) (r b : Nat) (L : List St) (sn : List Nat) : Prop := W.heap[r]? = some (.mapIter (some b) L.length sn.toArray L.length) ∧ ∀ i ∈ sn, i < L.length
theorem Iter.lt {W : World} {r b : Nat} {L : List St} {sn : List Nat} (h : Iter W r b L sn) : r < W.heap.size := (Array.getElem?_eq_some_iff.1 h.1).1
theorem Iter.of_block {W W' : World} {r b : Nat} {L : List St} {sn : List Nat} (h : Iter W r b L sn) (hb : W'.heap[r]? = W.heap[r]?) : Iter W' r b L sn := ⟨hb.trans h.1, h.2⟩
theorem Iter.new (W : World) (b : Nat) (L : List St) {r : Nat} (hr : W.heap.size = r) : Iter (W.alloc (.mapIter (some b) L.length #[] L.length)) r b L [] := by
  subst hr; exact ⟨World.alloc_heap_new W _, fun _ h => by cases h⟩
def leftN (L : List St) (sn : List Nat) : Nat := ((List.range L.length).filter fun i => !sn.contains i).length
theorem leftN_lt {L : List St} {sn : List Nat} {i : Nat} (hi : i < L.length) (hn : i ∉ sn) : leftN L (sn ++ [i]) < leftN L sn := by
  unfold leftN
  rw [← List.countP_eq_length_filter, ← List.countP_eq_length_filter]
  have h1 : (List.range L.length).countP (fun j => !(sn ++ [i]).contains j) + 1 ≤ (List.range L.length).countP (fun j => !sn.contains j) := by
    have hmem : i ∈ List.range L.length := List.mem_range.2 hi
    obtain ⟨a, b, hab⟩ := List.append_of_mem hmem
    rw [hab]
    simp only [List.countP_append, List.countP_cons]
    have m1 : ∀ l : List Nat, l.countP (fun j => !(sn ++ [i]).contains j) ≤ l.countP (fun j => !sn.contains j) := fun l => List.countP_mono_left fun j _ hj => by
      simp at hj ⊢; exact hj.1
    have q1 := m1 a
    have q2 := m1 b
    have e1 : (!(sn ++ [i]).contains i) = false := by simp
    have e2 : (!sn.contains i) = true := by simp [hn]
    simp only [e1, e2, if_true, Bool.false_eq_true, if_false]
    omega
  omega

theorem next_st {W : World} {r b : Nat} {L : List St} {sn : List Nat} (hm : IsMap W b L) (h : Iter W r b L sn) (ty : TypeId) :
    ((∀ i, i < L.length → i ∈ sn) ∧ (Instr.next (.pointer (some ⟨r, 0, none⟩)) false ty).run Try.prog W = .ok (.tuple #[.bool false]) W) ∨
    ∃ i, ∃ hi : i < L.length, i ∉ sn ∧ ∃ W1, Iter W1 r b L (sn ++ [i]) ∧ W.grownBy W1 (some r) ∧ W1.heap.size = W.heap.size ∧
      (Instr.next (.pointer (some ⟨r, 0, none⟩)) false ty).run Try.prog W = .ok (.tuple #[.bool true, keyV L[i], .bool true]) W1 ∧
      (Instr.entry (.pointer (some ⟨r, 0, none⟩))).run Try.prog W1 = .ok (.tuple #[keyV L[i], .bool true]) W1 := by
  have hborn : ∀ x ∈ (mkEs L).toList, ∃ i, ∃ hi : i < L.length, x = { key := keyV L[i], val := .bool true, born := i } := by
    intro x hx
    obtain ⟨i, hi, e⟩ := List.getElem_of_mem hx
    have hi' : i < L.length := by simpa [mkEs] using hi
    exact ⟨i, hi', by rw [← e]; simp [mkEs]⟩
  rcases run_next_at (P := Try.prog) W ty r b L.length L.length sn.toArray (mkEs L) L.length h.1 hm (fun x hx => by obtain ⟨i, hi, e⟩ := hborn x hx; rw [e]; exact hi) (Nat.le_refl _) with ⟨h0, hrun⟩ | ⟨e, he, w1, hw1, hrun⟩
  · left
    refine ⟨fun i hi => ?_, hrun⟩
    by_cases hc : i ∈ sn
    · exact hc
    · have : ({ key := keyV L[i], val := .bool true, born := i } : MapEntry) ∈ (leftOf (mkEs L) sn.toArray).toList := by
        unfold leftOf
        simp only [Array.toList_filter, List.mem_filter]
        refine ⟨?_, by simpa using hc⟩
        have := mkEs_get hi
        exact Array.mem_toList_iff.2 (Array.mem_of_getElem? this)
      have hl : (leftOf (mkEs L) sn.toArray).toList.length = 0 := by simpa using h0
      rw [List.length_eq_zero_iff.1 hl] at this
      cases this
  · right
    have he' : e ∈ (mkEs L).toList ∧ sn.contains e.born = false := by
      unfold leftOf at he
      simp only [Array.toList_filter, List.mem_filter] at he
      exact ⟨he.1, by simpa using he.2⟩
    obtain ⟨i, hi, hee⟩ := hborn e he'.1
    have hni : i ∉ sn := by have := he'.2; rw [hee] at this; simpa using this
    have hr1 : w1.heap[r]? = W.heap[r]? ∧ w1.heap = W.heap ∧ w1.os = W.os ∧ w1.tape = W.tape ∧ w1.output = W.output := by rcases hw1 with rfl | rfl <;> exact ⟨rfl, rfl, rfl, rfl, rfl⟩
    refine ⟨i, hi, hni, Go.ChangeMaps.setBlock w1 r (.mapIter (some b) L.length (sn.toArray.push e.born) L.length), ⟨?_, ?_⟩, ⟨?_, ?_, ?_, ?_, ?_⟩, ?_, ?_, ?_⟩
    · have hlt := h.lt
      subst hee
      simp [Go.ChangeMaps.setBlock, hr1.2.1, hlt]
    · intro j hj
      rcases List.mem_append.1 hj with hj | hj
      · exact h.2 j hj
      · rw [List.mem_singleton.1 hj]; exact hi
    · exact hr1.2.2.1
    · exact hr1.2.2.2.1
    · exact hr1.2.2.2.2
    · simp [Go.ChangeMaps.setBlock, hr1.2.1]
    · intro k hk hne
      have : r ≠ k := fun e => hne (by rw [e])
      simp [Go.ChangeMaps.setBlock, hr1.2.1, Array.getElem?_setIfInBounds, this]
    · simp [Go.ChangeMaps.setBlock, hr1.2.1]
    · rw [hrun, hee]
    · have hb1 : (Go.ChangeMaps.setBlock w1 r (.mapIter (some b) L.length (sn.toArray.push e.born) L.length)).heap[b]? = some (.map (mkEs L) L.length) := by
        have hne : r ≠ b := fun e => by
          have h1 := h.1; rw [e] at h1
          have h2 : W.heap[b]? = some (.map (mkEs L) L.length) := hm
          rw [h2] at h1; cases h1
        simp [Go.ChangeMaps.setBlock, hr1.2.1, Array.getElem?_setIfInBounds, hne]
        exact hm
      have hr2 : (Go.ChangeMaps.setBlock w1 r (.mapIter (some b) L.length (sn.toArray.push e.born) L.length)).heap[r]? = some (.mapIter (some b) L.length (sn.toArray.push e.born) L.length) := by
        have hlt := h.lt
        simp [Go.ChangeMaps.setBlock, hr1.2.1, hlt]
      have := run_entry_at (P := Try.prog) _ r b L.length sn.toArray (mkEs L) L.length e hr2 hb1 he'.1 (by
        have : (mkEs L).toList.map (·.born) = List.range L.length := by
          apply List.ext_getElem
          · simp [mkEs]
          · intro j h1 h2; simp [mkEs]
        rw [this]; exact List.nodup_range)
      rw [this, hee]

/-! ### a drawn region in a round -/
section
variable {P : Program} {ops : Array Oper} {Q : Exit → Act → World → Prop} {md : Region.Mode} {l0 n : Nat}
theorem uponIn_of_upon {o : Oper} {a : Act} {next : Act → World → Prop} {r : Result Next} (h : o.upon P a next Q r) : o.uponIn (Fence.wide.inRound l0) n P a next Q r := by
  cases r with
  | ok x w' =>
    cases x <;> simp only [Oper.upon, Oper.uponIn] at h ⊢ <;> first | exact h | exact h.elim | skip
    · exact ⟨fun h => by simp [Fence.wide] at h, CallsIn.inRound l0 (callsIn_wide.2 h)⟩
    · refine ⟨fun h => by simp [Fence.wide] at h, fun c cs _ => ?_⟩
      obtain ⟨v, w'', r, s⟩ := h c cs
      exact ⟨v, w'', r, stepsIn_wide.2 s⟩
  | halt x w' => cases x <;> simp only [Oper.upon, Oper.uponIn] at h ⊢ <;> exact h
theorem wpAnyIn_of_wpAny (hout : ¬ LetsOut Q) (hnd : ∀ (j : Nat) (o : Oper) c, ops[j]? = some o → o.op ≠ .defer c) : ∀ (fuel : Nat) (listed : Array Bool) (a : Act) (w : World),
    wpAny P md ops Q fuel listed a w → wpAnyIn (Fence.wide.inRound l0) n P md ops Q fuel listed a w
  | 0, _, _, _, h => h
  | fuel + 1, listed, a, w, h => by
    refine ⟨h.1, fun i hi => ?_⟩
    have h2 := h.2 i hi
    unfold wpOp at h2
    unfold wpOpIn
    cases ho : ops[i]? with
    | none =>
      simp only [ho] at h2 ⊢
      exact wpAnyIn_of_wpAny hout hnd fuel _ a w h2
    | some o =>
      simp only [ho] at h2 ⊢
      by_cases hw : Region.wanted o (yielded ops a.tmps) = true
      · simp only [hw, if_true] at h2 ⊢
        rcases h2 with h2 | h2
        · refine Oper.wpIn_mono (fun a w h => wpAnyIn_of_wpAny hout hnd fuel _ a w h) ⟨fun f _ => trivial, ?_⟩
          rw [show (Fence.wide.inRound l0).round = some l0 from rfl, Oper.semAt_some l0 _ _ (fun c => hnd i o c ho)]
          exact uponIn_of_upon h2
        · exact absurd h2.2 hout
      · simp only [hw] at h2 ⊢
        exact ⟨fun f _ => trivial, wpAnyIn_of_wpAny hout hnd fuel _ _ w h2⟩
end
def noDefer (l : List Oper) : Bool := l.all fun o => match o.op with | .defer _ => false | _ => true
theorem noDefer_spec {l : List Oper} (h : noDefer l = true) : ∀ (j : Nat) (o : Oper) c, l.toArray[j]? = some o → o.op ≠ .defer c := by
  intro j o c hj he
  have hm : o ∈ l := by
    rw [List.getElem?_toArray] at hj
    exact List.mem_of_getElem? hj
  have := List.all_eq_true.1 h o hm
  rw [he] at this
  cases this
theorem wpIn_region_ext {P : Program} {id l0 n : Nat} {Q : Exit → Act → World → Prop} {a : Act} {w : World} {l : List Oper} (hm : P.follows .mixedOrders = true) (hB : Region.lexB .any l.toArray = true) (hnd : noDefer l = true) (hout : ¬ LetsOut Q)
    (h : wpQuiet P l.toArray (fun w' => ∃ x : Ex w, w' = x.W) (fun a' => ∀ w', (∃ x : Ex w, w' = x.W) → Q .normal a' w') l a) : (Code.region id l.toArray true).wpIn (Fence.wide.inRound l0) n P Q a w := by
  simp only [Region.lexB, Bool.and_eq_true] at hB
  refine wpIn_region_any hm (wpAnyIn_of_wpAny hout (noDefer_spec hnd) _ _ _ _ ?_)
  refine wpAny_of_quiet (C := fun w' => ∃ x : Ex w, w' = x.W) (Q := fun a' => ∀ w', (∃ x : Ex w, w' = x.W) → Q .normal a' w') (fun _ w' hw' h => h w' hw') _ _ _ _ ⟨⟨_, (Below.refl w.heap.size w).drew⟩, rfl⟩ ?_
  have := wpAnyQ_lex (C := fun w' => ∃ x : Ex w, w' = x.W) (md := .any) hB.1 l.toArray.toList 0 (Array.replicate l.toArray.size false) a (by simp) (by simpa using hB.2) (by simpa using h)
  simpa using this

end Go.Proofs.Ytkaogjhnogkcdaa
end

section
namespace Go.Proofs.Ytkaogjhnogkcdaa
open Go.RowKit Go.Shelf
attribute [local go_sem] Oper.semAt_some Ex.cell? Ex.frozen?

def zero (g : Gl) (s : St) : Int := g.base + s.1 - s.2
def Can (g : Gl) (h : List Rg) (l : List Ic) (o : Nat → Bool) : Nat → St → Prop
  | 0, s => s = (0, 0)
  | d + 1, t => ∃ s, Can g h l o d s ∧ t ∈ nextL g h d s ∧ fitsB l o (d : Int) (zero g t) = true

theorem compact_mem {l : List Int} {x : Int} (h : x ∈ Lib.compact l) : x ∈ l := by
  unfold Lib.compact Lib.compactUpTo at h
  obtain ⟨i, hi, rfl⟩ := List.mem_map.1 h
  have : i < l.length := List.mem_range.1 (List.mem_filter.1 hi).1
  simp [this]
theorem depTo_bd {g : Gl} {h : List Rg} (hok : Ok g h) {lo hi x : Int} : ∀ {k : Nat}, k ≤ g.depths.length → x ∈ depTo g lo hi k → 0 ≤ x ∧ x ≤ 30
  | 0, _, hx => by rw [depTo, List.mem_singleton] at hx; rw [hx]; exact hok.sinks lo
  | k + 1, hk, hx => by
    rw [depTo] at hx
    split at hx
    · rcases List.mem_append.1 hx with hx | hx
      · exact depTo_bd hok (by omega) hx
      · rw [List.mem_singleton.1 hx]
        have := hok.depths k (by omega)
        unfold deepOk at this
        simp only [Bool.and_eq_true] at this
        exact inB_iff.1 this.2.1
    · exact depTo_bd hok (by omega) hx
theorem gI_mem {l : List Int} {k : Nat} (hk : k < l.length) : gI l k ∈ l := by simp [gI, hk]
theorem depL_bd {g : Gl} {h : List Rg} (hok : Ok g h) (d : Nat) {k : Nat} (hk : k < (depL g h d).length) : 0 ≤ gI (depL g h d) k ∧ gI (depL g h d) k ≤ 30 :=
  depTo_bd hok (Nat.le_refl _) (compact_mem (gI_mem hk))
theorem nextL_bd {g : Gl} {h : List Rg} (hok : Ok g h) {d : Nat} {s t : St} (ht : t ∈ nextL g h d s) (hs : 0 ≤ s.1 ∧ 0 ≤ s.2 ∧ s.2 ≤ 30) : s.1 ≤ t.1 ∧ t.1 ≤ s.1 + 3 ∧ 0 ≤ t.2 ∧ t.2 ≤ 30 := by
  unfold nextL at ht
  obtain ⟨m, hm, b, c, h1, h2, h3, h4, rfl⟩ := mem_deps.1 ht
  have k1 := hok.creep d
  have k2 := hok.back
  have k3 := depL_bd hok d hm
  have k4 := mx3_bd (s.2 - b) 0 (gI (depL g h d) m)
  simp only
  omega
theorem Can.bd {g : Gl} {h : List Rg} {l : List Ic} {o : Nat → Bool} (hok : Ok g h) : ∀ {d : Nat} {s : St}, Can g h l o d s → 0 ≤ s.1 ∧ s.1 ≤ 3 * d ∧ 0 ≤ s.2 ∧ s.2 ≤ 30
  | 0, s, hs => by have : s = (0, 0) := hs; subst this; simp
  | d + 1, t, ⟨s, hs, ht, _⟩ => by
    have h1 := Can.bd hok hs
    have h2 := nextL_bd hok ht ⟨h1.1, h1.2.2⟩
    omega

structure DS (g : Gl) (h : List Rg) (l : List Ic) (o : Nat → Bool) (w : World) (rc oc : Array Value) (k : Nat) (v5 : Value) (ds : List Deferred) (W : World) : Prop where
  bw : Below w.heap.size w W
  q1 : Blk W w.heap.size 107 rc
  q2 : Blk W (w.heap.size + 1) 121 oc
  mks : Marks W ds
  mb : ∀ d ∈ ds, ∀ D, d.target = .collected D → w.heap.size ≤ D
  ms : ∃ ms : List (Nat × List St), ms.length = k + 1 ∧ W.ownsRow (w.heap.size + 1 + 1) 122 1 v5 ms.length (ms.map fun m => .map (some m.1)) ∧
    ∀ i (hi : i < ms.length), IsMap W ms[i].1 ms[i].2 ∧ w.heap.size ≤ ms[i].1 ∧ ms[i].2.Nodup ∧ ∀ s, s ∈ ms[i].2 ↔ Can g h l o i s
structure DM (g : Gl) (h : List Rg) (l : List Ic) (o : Nat → Bool) (w Wk : World) (k b : Nat) (L : List St) (sn : List Nat) (N : List St) (ds : List Deferred) (W : World) : Prop where
  bw : Below Wk.heap.size Wk W
  it : Iter W (Wk.heap.size + 1 + 1 + 1) b L sn
  m : IsMap W (Wk.heap.size + 1) N
  nd : N.Nodup
  mem : ∀ t, t ∈ N ↔ ∃ i, ∃ hi : i < L.length, i ∈ sn ∧ t ∈ nextL g h k L[i] ∧ fitsB l o (k : Int) (zero g t) = true
  q6 : Blk W Wk.heap.size 3 #[.int .i64 (k : Int)]
  q7 : Blk W (Wk.heap.size + 1 + 1) 122 #[.map (some (Wk.heap.size + 1))]
  mks : Marks W ds
  mb : ∀ d ∈ ds, ∀ D, d.target = .collected D → w.heap.size ≤ D
open Classical in
noncomputable def itLeft (W : World) (r : Nat) (L : List St) : Nat := match W.heap[r]? with | some (.mapIter _ _ seen _) => leftN L seen.toList | _ => 0
theorem itLeft_eq {W : World} {r b : Nat} {L : List St} {sn : List Nat} (h : Iter W r b L sn) : itLeft W r L = leftN L sn := by unfold itLeft; rw [h.1]

theorem own_cells {W : World} {base n : Nat} {e : TypeId} {v : Value} {xs : List Value} (h : W.ownsRow base e 1 v n xs) (hn : 0 < n) :
    ∃ g cap, v = .slice (some ⟨g, 0, none⟩) n cap ∧ base ≤ g ∧ g < W.heap.size ∧ n ≤ cap ∧ ∀ i, i < n → W.cell? ⟨g, i, none⟩ = xs[i]? := by
  rcases h.2 with ⟨_, h0⟩ | ⟨g, cap, cur, rfl, hb, hh, hnc, _, hsz, hc⟩
  · omega
  · refine ⟨g, cap, rfl, hb, (Array.getElem?_eq_some_iff.1 hh).1, hnc, fun i hi => ?_⟩
    rw [cell_of_row W g i cur e (0, 0) hh, ← hc]
    simp [hi]
theorem Marks.below {W W' : World} {ds : List Deferred} (h : Marks W ds) (hb : Below W.heap.size W W') : Marks W' ds :=
  h.keep fun D hD => (hb.block D (Array.getElem?_eq_some_iff.1 hD).1).trans hD
theorem Marks.grown {W W' : World} {ds : List Deferred} {row : Option Nat} (h : Marks W ds) (hg : W.grownBy W' row) (hr : ∀ b, row = some b → ∃ o, W.heap[b]? = some o ∧ ∀ x, o ≠ .deferred x) : Marks W' ds :=
  h.keep fun D hD => (hg.block D (Array.getElem?_eq_some_iff.1 hD).1 (fun e => by
    obtain ⟨o, ho, hx⟩ := hr D e.symm
    rw [hD] at ho; cases ho; exact hx _ rfl)).trans hD

theorem own_map_ne {W : World} {base n : Nat} {e : TypeId} {sz : Nat} {v : Value} {xs : List Value} {b : Nat} {L : List St} (h : W.ownsRow base e sz v n xs) (hm : IsMap W b L) : some b ≠ v.ownBlock := by
  rcases h.2 with ⟨rfl, _⟩ | ⟨g, cap, cur, rfl, _, hh, _⟩
  · simp [Value.ownBlock]
  · intro e
    simp only [Value.ownBlock] at e
    injection e with e
    subst e
    have hm' : W.heap[b]? = some (.map (mkEs L) L.length) := hm
    rw [hm'] at hh; cases hh
theorem own_obj {W : World} {base n : Nat} {e : TypeId} {sz : Nat} {v : Value} {xs : List Value} (h : W.ownsRow base e sz v n xs) {b : Nat} (hb : v.ownBlock = some b) : ∃ o, W.heap[b]? = some o ∧ ∀ x, o ≠ .deferred x := by
  rcases h.2 with ⟨rfl, _⟩ | ⟨g, cap, cur, rfl, _, hh, _⟩
  · simp [Value.ownBlock] at hb
  · simp only [Value.ownBlock] at hb
    injection hb with hb
    subst hb
    exact ⟨_, hh, fun x e => by cases e⟩

theorem map_info : (Try.prog.info? 122).map (fun i => (i.zero, i.size, i.bytes)) = some (some (.map none), 1, 8) := by kernel_rfl

set_option maxRecDepth 100000 in
set_option maxHeartbeats 4000000 in
theorem days_any (g : Gl) (Ab Ad Ah Ai : Option Addr) (cb cd ch ci : Nat) (h : List Rg) (l : List Ic) (o : Nat → Bool) (w : World) (hg : GlIn w w.heap.size g Ab Ad) (hh : SlAt w w.heap.size 2 Ah h.length (fR h))
    (hi : SlAt w w.heap.size 3 Ai l.length (fC l)) (hok : Ok g h) (h8 : l.length ≤ 8) (hbd : IcesBd l) :
    Calls Try.prog 61 #[.agg #[.int .i64 g.base, .slice Ab g.bands.length cb, .slice Ad g.depths.length cd, .int .i64 g.blo, .int .i64 g.bhi, .slice Ah h.length ch, .slice Ai l.length ci], .agg #[.bool (o 0), .bool (o 1), .bool (o 2), .bool (o 3), .bool (o 4), .bool (o 5), .bool (o 6), .bool (o 7)]] w fun e w' =>
      ∃ v, ∃ ms : List (Nat × List St), e = .returned v ∧ ms.length = h.length + 1 ∧ w'.ownsRow w.heap.size 122 1 v ms.length (ms.map fun m => .map (some m.1)) ∧
        (∀ i (hi : i < ms.length), IsMap w' ms[i].1 ms[i].2 ∧ w.heap.size ≤ ms[i].1 ∧ ms[i].2.Nodup ∧ ∀ s, s ∈ ms[i].2 ↔ Can g h l o i s) ∧ Below w.heap.size w w' := by
  obtain ⟨i0, hi0, hz0, hz1, hz2⟩ := info_parts map_info
  have HI := Lib.hid hi0
  clear hi0
  have hmm := @run_makeMap Try.prog
  have hW0m : IsMap (((w.alloc (.cells #[.int .i64 g.base, .slice Ab g.bands.length cb, .slice Ad g.depths.length cd, .int .i64 g.blo, .int .i64 g.bhi, .slice Ah h.length ch, .slice Ai l.length ci] 107)).alloc (.cells #[.bool (o 0), .bool (o 1), .bool (o 2), .bool (o 3), .bool (o 4), .bool (o 5), .bool (o 6), .bool (o 7)] 121)).alloc (.map #[] 0)) (w.heap.size + 1 + 1) [] := IsMap.new _ (by simp)
  have hins := run_update_st hW0m (0, 0) (by simp)
  have hpu := grownBy_putObj' (((w.alloc (.cells #[.int .i64 g.base, .slice Ab g.bands.length cb, .slice Ad g.depths.length cd, .int .i64 g.blo, .int .i64 g.bhi, .slice Ah h.length ch, .slice Ai l.length ci] 107)).alloc (.cells #[.bool (o 0), .bool (o 1), .bool (o 2), .bool (o 3), .bool (o 4), .bool (o 5), .bool (o 6), .bool (o 7)] 121)).alloc (.map #[] 0)) (w.heap.size + 1 + 1) (.map (mkEs ([] ++ [(0, 0)])) (([] : List St) ++ [(0, 0)]).length)
  have hmp : IsMap ((((w.alloc (.cells #[.int .i64 g.base, .slice Ab g.bands.length cb, .slice Ad g.depths.length cd, .int .i64 g.blo, .int .i64 g.bhi, .slice Ah h.length ch, .slice Ai l.length ci] 107)).alloc (.cells #[.bool (o 0), .bool (o 1), .bool (o 2), .bool (o 3), .bool (o 4), .bool (o 5), .bool (o 6), .bool (o 7)] 121)).alloc (.map #[] 0)).putObj (w.heap.size + 1 + 1) (.map (mkEs ([] ++ [(0, 0)])) (([] : List St) ++ [(0, 0)]).length)) (w.heap.size + 1 + 1) [(0, 0)] := World.putObj_heap_same hW0m.lt
  have hsz1 : ((((w.alloc (.cells #[.int .i64 g.base, .slice Ab g.bands.length cb, .slice Ad g.depths.length cd, .int .i64 g.blo, .int .i64 g.bhi, .slice Ah h.length ch, .slice Ai l.length ci] 107)).alloc (.cells #[.bool (o 0), .bool (o 1), .bool (o 2), .bool (o 3), .bool (o 4), .bool (o 5), .bool (o 6), .bool (o 7)] 121)).alloc (.map #[] 0)).putObj (w.heap.size + 1 + 1) (.map (mkEs ([] ++ [(0, 0)])) (([] : List St) ++ [(0, 0)]).length)).heap.size = w.heap.size + 1 + 1 + 1 := by simp
  obtain ⟨W1, hW1⟩ : ∃ W1, (((w.alloc (.cells #[.int .i64 g.base, .slice Ab g.bands.length cb, .slice Ad g.depths.length cd, .int .i64 g.blo, .int .i64 g.bhi, .slice Ah h.length ch, .slice Ai l.length ci] 107)).alloc (.cells #[.bool (o 0), .bool (o 1), .bool (o 2), .bool (o 3), .bool (o 4), .bool (o 5), .bool (o 6), .bool (o 7)] 121)).alloc (.map #[] 0)).putObj (w.heap.size + 1 + 1) (.map (mkEs ([] ++ [(0, 0)])) (([] : List St) ++ [(0, 0)]).length) = W1 := ⟨_, rfl⟩
  rw [hW1] at hins hpu hmp hsz1
  unfold keyV at hins
  simp only at hins
  have z1 : Blk W1 w.heap.size 107 #[.int .i64 g.base, .slice Ab g.bands.length cb, .slice Ad g.depths.length cd, .int .i64 g.blo, .int .i64 g.bhi, .slice Ah h.length ch, .slice Ai l.length ci] := (((Blk.new w _ _).alloc _).alloc _).grown hpu (by simp; omega)
  have z2 : Blk W1 (w.heap.size + 1) 121 #[.bool (o 0), .bool (o 1), .bool (o 2), .bool (o 3), .bool (o 4), .bool (o 5), .bool (o 6), .bool (o 7)] := ((Blk.new' _ _ _ (by simp)).alloc _).grown hpu (by simp)
  have hB1 : Below w.heap.size w W1 := (ex_alloc (ex_alloc (ex_alloc (Below.refl _ _) _) _) _).grown hpu (by simp; omega) (fun k e => by cases e; omega)
  have HSZ := Lib.hid hsz1
  have hsz1a : w.heap.size + 1 + 1 < W1.heap.size := by omega
  have hsz1b : w.heap.size < W1.heap.size := by omega
  have hsz1c : w.heap.size + 1 < W1.heap.size := by omega
  clear hsz1 hpu hW0m hW1
  have a0 := z1.cell 0
  have a1 := z1.cell 1
  have a2 := z1.cell 2
  have a3 := z1.cell 3
  have a4 := z1.cell 4
  have a5 := z1.cell 5
  have a6 := z1.cell 6
  simp at a0 a1 a2 a3 a4 a5 a6
  refine calls_of_marks (n := 5) Try.func61 rfl ?_
  simp only [Try.ntmps61, List.size_toArray, List.length_cons, List.length_nil, Nat.reduceAdd, Nat.reduceSub, Array.replicate_succ, Array.replicate_zero, List.push_toArray, List.append_toArray, List.nil_append, List.cons_append]
  go_wp2_with fail
  have hD0 : DS g h l o w #[.int .i64 g.base, .slice Ab g.bands.length cb, .slice Ad g.depths.length cd, .int .i64 g.blo, .int .i64 g.bhi, .slice Ah h.length ch, .slice Ai l.length ci] #[.bool (o 0), .bool (o 1), .bool (o 2), .bool (o 3), .bool (o 4), .bool (o 5), .bool (o 6), .bool (o 7)] 0 (.slice (some ⟨W1.heap.size, 0, none⟩) 1 1) [] (W1.alloc (.cells #[.map (some (w.heap.size + 1 + 1))] 122)) := by
    refine ⟨ex_alloc hB1 _, z1.alloc _, z2.alloc _, trivial, (fun d hd => nomatch hd), [(w.heap.size + 1 + 1, [(0, 0)])], rfl, ⟨rfl, .inr ⟨W1.heap.size, 1, #[.map (some (w.heap.size + 1 + 1))], rfl, by omega, heap_alloc_new W1 _, by simp, by unfold maxLen; omega, rfl, rfl⟩⟩, ?_⟩
    intro i hi
    obtain rfl : i = 0 := by simpa using hi
    refine ⟨hmp.alloc _, by show w.heap.size ≤ w.heap.size + 1 + 1; omega, by simp, fun s => ?_⟩
    simp [Can]
  refine wp_loop (fun a W => ∃ (u6 u7 u8 u9 u19 u20 u21 u22 u23 u24 u25 u26 u27 u28 u29 u30 u31 u32 u33 u34 u35 u36 u37 u38 u39 u40 u41 u42 u43 u44 u45 u46 u47 u48 u49 u50 u51 u52 u53 u54 u55 u56 u57 u58 : Value) (v5 : Value) (k : Nat) (ds : List Deferred), k ≤ h.length ∧ a = ⟨#[.agg #[.int .i64 g.base, .slice Ab g.bands.length cb, .slice Ad g.depths.length cd, .int .i64 g.blo, .int .i64 g.bhi, .slice Ah h.length ch, .slice Ai l.length ci], .agg #[.bool (o 0), .bool (o 1), .bool (o 2), .bool (o 3), .bool (o 4), .bool (o 5), .bool (o 6), .bool (o 7)], .pointer (some ⟨w.heap.size, 0, none⟩), .pointer (some ⟨w.heap.size + 1, 0, none⟩), .slice none 0 0, v5, u6, u7, u8, u9, .map (some (w.heap.size + 1 + 1)), .agg #[.int .i64 0, .int .i64 0], .map (some (w.heap.size + 1 + 1)), .slice (some ⟨W1.heap.size, 0, none⟩) 1 1, .pointer (some ⟨w.heap.size, 0, none⟩), .pointer (some ⟨w.heap.size, 5, none⟩), .slice Ah h.length ch, .int .i64 (h.length : Int), .int .i64 (k : Int), u19, u20, u21, u22, u23, u24, u25, u26, u27, u28, u29, u30, u31, u32, u33, u34, u35, u36, u37, u38, u39, u40, u41, u42, u43, u44, u45, u46, u47, u48, u49, u50, u51, u52, u53, u54, u55, u56, u57, u58, undef], ds⟩ ∧ DS g h l o w #[.int .i64 g.base, .slice Ab g.bands.length cb, .slice Ad g.depths.length cd, .int .i64 g.blo, .int .i64 g.bhi, .slice Ah h.length ch, .slice Ai l.length ci] #[.bool (o 0), .bool (o 1), .bool (o 2), .bool (o 3), .bool (o 4), .bool (o 5), .bool (o 6), .bool (o 7)] k v5 ds W)
    (fun a _ => h.length - (intOf (a.tmps.getD 18 undef)).toNat) ⟨_, _, _, _, _, _, _, _, _, _, _, _, _, _, _, _, _, _, _, _, _, _, _, _, _, _, _, _, _, _, _, _, _, _, _, _, _, _, _, _, _, _, _, _, _, 0, [], by omega, rfl, hD0⟩ ?_
  rintro a Wk ⟨u6, u7, u8, u9, u19, u20, u21, u22, u23, u24, u25, u26, u27, u28, u29, u30, u31, u32, u33, u34, u35, u36, u37, u38, u39, u40, u41, u42, u43, u44, u45, u46, u47, u48, u49, u50, u51, u52, u53, u54, u55, u56, u57, u58, v5, k, ds, hk, rfl, hds⟩
  clear hD0 a0 a1 a2 a3 a4 a5 a6 hsz1a hsz1b hsz1c z1 z2 hins HSZ hmp
  obtain ⟨dB, dq1, dq2, dmk, dmb, ms, hml, hown, hms⟩ := hds
  by_cases hlt : k < h.length
  · obtain ⟨gv, cap, rfl, hgv, hgv2, hcap, hcells⟩ := own_cells hown (by omega)
    have hkm : k < ms.length := by omega
    have hck := hcells k hkm
    rw [List.getElem?_map, List.getElem?_eq_getElem hkm] at hck
    obtain ⟨hmk, hmk2, hmk3, hmk4⟩ := hms k hkm
    generalize ms[k] = bL at hck hmk hmk2 hmk3 hmk4
    obtain ⟨b, L⟩ := bL
    simp only [Option.map_some] at hck hmk hmk2 hmk3 hmk4
    clear hcells
    have HMS := Lib.hid hms
    clear hms
    have HM4 := Lib.hid hmk4
    clear hmk4
    have HML := Lib.hid hml
    clear hml
    have dsz := dB.size
    have dl1 := dq1.lt
    have e5 := dq1.cell 5
    have hbl := hmk.lt
    simp at e5
    have hgv3 : gv < Wk.heap.size + 1 := by omega
    have hgv4 : gv < Wk.heap.size + 1 + 1 := by omega
    have hrg := run_range_st (W := (((Wk.alloc (.cells #[.int .i64 (k : Int)] 3)).alloc (.map #[] 0)).alloc (.cells #[.map (some (Wk.heap.size + 1))] 122))) (b := b) (L := L) (((hmk.alloc _).alloc _).alloc _)
    have hrgs : (((Wk.alloc (.cells #[.int .i64 (k : Int)] 3)).alloc (.map #[] 0)).alloc (.cells #[.map (some (Wk.heap.size + 1))] 122)).heap.size = Wk.heap.size + 1 + 1 + 1 := by simp
    rw [hrgs] at hrg
    have hM0 : DM g h l o w Wk k b L [] [] ds ((((Wk.alloc (.cells #[.int .i64 (k : Int)] 3)).alloc (.map #[] 0)).alloc (.cells #[.map (some (Wk.heap.size + 1))] 122)).alloc (.mapIter (some b) L.length #[] L.length)) :=
      { bw := ex_alloc (ex_alloc (ex_alloc (ex_alloc (Below.refl _ _) _) _) _) _
        it := Iter.new _ b L (by simp)
        m := ((IsMap.new _ (by simp)).alloc _).alloc _
        nd := by simp
        mem := fun t => by simp
        q6 := (((Blk.new _ _ _).alloc _).alloc _).alloc _
        q7 := (Blk.new' _ _ _ (by simp)).alloc _
        mks := dmk.below (ex_alloc (ex_alloc (ex_alloc (ex_alloc (Below.refl _ _) _) _) _) _)
        mb := dmb }
    clear hrgs
    go_wp2_with fail
    refine wp_loop (fun a W => ∃ (u8 u9 u27 u28 u29 u30 u31 u32 u33 u34 u35 u36 u37 u38 u39 u40 u41 u42 u43 u44 u45 u46 u47 u48 u49 u50 u51 u52 u53 u54 u55 u56 u57 u58 : Value) (ds : List Deferred) (sn : List Nat) (N : List St), a = ⟨#[.agg #[.int .i64 g.base, .slice Ab g.bands.length cb, .slice Ad g.depths.length cd, .int .i64 g.blo, .int .i64 g.bhi, .slice Ah h.length ch, .slice Ai l.length ci], .agg #[.bool (o 0), .bool (o 1), .bool (o 2), .bool (o 3), .bool (o 4), .bool (o 5), .bool (o 6), .bool (o 7)], .pointer (some ⟨w.heap.size, 0, none⟩), .pointer (some ⟨w.heap.size + 1, 0, none⟩), .slice none 0 0, .slice (some ⟨gv, 0, none⟩) ms.length cap, .pointer (some ⟨Wk.heap.size, 0, none⟩), .pointer (some ⟨Wk.heap.size + 1 + 1, 0, none⟩), u8, u9, .map (some (w.heap.size + 1 + 1)), .agg #[.int .i64 0, .int .i64 0], .map (some (w.heap.size + 1 + 1)), .slice (some ⟨W1.heap.size, 0, none⟩) 1 1, .pointer (some ⟨w.heap.size, 0, none⟩), .pointer (some ⟨w.heap.size, 5, none⟩), .slice Ah h.length ch, .int .i64 (h.length : Int), .int .i64 (k : Int), .bool true, .int .i64 (k : Int), .map (some (Wk.heap.size + 1)), .slice (some ⟨gv, 0, none⟩) ms.length cap, .int .i64 (k : Int), .pointer (some ⟨gv, k, none⟩), .map (some b), .pointer (some ⟨Wk.heap.size + 1 + 1 + 1, 0, none⟩), u27, u28, u29, u30, u31, u32, u33, u34, u35, u36, u37, u38, u39, u40, u41, u42, u43, u44, u45, u46, u47, u48, u49, u50, u51, u52, u53, u54, u55, u56, u57, u58, undef], ds⟩ ∧ DM g h l o w Wk k b L sn N ds W)
      (fun _ W => itLeft W (Wk.heap.size + 1 + 1 + 1) L) ⟨_, _, _, _, _, _, _, _, _, _, _, _, _, _, _, _, _, _, _, _, _, _, _, _, _, _, _, _, _, _, _, _, _, _, ds, [], [], rfl, hM0⟩ ?_
    clear hM0 hrg dmk dmb
    rintro a wr ⟨u8, u9, u27, u28, u29, u30, u31, u32, u33, u34, u35, u36, u37, u38, u39, u40, u41, u42, u43, u44, u45, u46, u47, u48, u49, u50, u51, u52, u53, u54, u55, u56, u57, u58, ds, sn, N, rfl, hDM⟩
    obtain ⟨mB, mit, mm, mnd, mmem, mq6, mq7, mmk, mmb⟩ := hDM
    have hbr : IsMap wr b L := hmk.of_block (mB.block b hbl)
    have HMM := Lib.hid mmem
    clear mmem
    have e0 := (mB.block _ dl1).trans dq1
    rcases next_st hbr mit 0 with ⟨hall, hrun⟩ | ⟨i, hiL, hni, W2, hit2, hg2, hsz2, hrun, hent⟩
    · have c7 := mq7.cell 0
      have l7 := mq7.lt
      simp at c7
      have y4 := (own_below hown (mB.mono (Nat.le_refl _))).alloc (.cells #[.map (some (Wk.heap.size + 1))] 122)
      have hnm : ms.length ≤ 20 := by have := HML.out; have := hok.nh.2; omega
      have c63 : ms.length + 1 ≤ maxLen := by unfold maxLen; omega
      have hbw : w.heap.size + 1 + 1 ≤ wr.heap.size + 1 := by have := mB.size; omega
      go_wp2_with (at_builtin; refine wpList_append_lies _ rfl _ _ _ rfl (w.heap.size + 1 + 1) 122 i0 _ 1 8 Try.underlying118 HI.out hz0 hz1 hz2 rfl (by omega) (.slice (some ⟨gv, 0, none⟩) ms.length cap) _ _ rfl y4 ⟨wr.heap.size, 0, none⟩ 1 1 [.map (some (Wk.heap.size + 1))] rfl rfl (World.news_of_block (heap_alloc_at _ _ (by simp))) (by simp [Value.oneCell']) (by omega) c63 (by omega) (by simpa using hbw) (wr.heap.size + 1) (by simp) ?_; intro gg cap' w1 hown' hgrow hat hlt')
      have yown := own_below hown (mB.mono (Nat.le_refl _))
      have k1 := dB.trans (mB.mono dsz)
      refine ⟨⟨_, _, _, _, _, _, _, _, _, _, _, _, _, _, _, _, _, _, _, _, _, _, _, _, _, _, _, _, _, _, _, _, _, _, _, _, _, _, _, _, _, _, _, _, _, k + 1, ds, by omega, rfl, ?_⟩, by simp [intOf]; omega⟩
      refine ⟨(ex_alloc k1 _).grown hgrow (by simp; omega) (fun j hj => by have := own_ge yown hj; omega), (((dq1.below mB dl1).alloc _).grown hgrow (own_blk yown (by omega))), (((dq2.below mB (dq2.lt)).alloc _).grown hgrow (own_blk yown (by omega))),
        (mmk.below ((Below.refl _ _).alloc (Nat.le_refl _) _)).grown hgrow (fun b hb => own_obj y4 hb), mmb, ms ++ [(Wk.heap.size + 1, N)], by simp [HML.out], ?_, ?_⟩
      · have := hown'
        simpa using this
      · intro j hj
        have hjl : j < ms.length ∨ j = ms.length := by simp at hj; omega
        rcases hjl with hjl | hjl
        · rw [List.getElem_append_left hjl]
          obtain ⟨x1, x2, x3, x4⟩ := HMS.out j hjl
          have x1' : IsMap (wr.alloc (.cells #[.map (some (Wk.heap.size + 1))] 122)) ms[j].1 ms[j].2 := (x1.of_block (mB.block _ x1.lt)).alloc _
          exact ⟨x1'.grown hgrow (own_map_ne y4 x1'), x2, x3, x4⟩
        · subst hjl
          rw [List.getElem_append_right (Nat.le_refl _)]
          simp only [Nat.sub_self, List.getElem_cons_zero]
          have x1' : IsMap (wr.alloc (.cells #[.map (some (Wk.heap.size + 1))] 122)) (Wk.heap.size + 1) N := mm.alloc _
          refine ⟨x1'.grown hgrow (own_map_ne y4 x1'), by omega, mnd, fun t => ?_⟩
          rw [HML.out, Can, HMM.out]
          constructor
          · rintro ⟨j, hj, _, h1, h2⟩
            exact ⟨L[j], (HM4.out _).1 (List.getElem_mem _), h1, h2⟩
          · rintro ⟨s, hs, h1, h2⟩
            obtain ⟨j, hj, rfl⟩ := List.getElem_of_mem ((HM4.out _).2 hs)
            exact ⟨j, hj, hall j hj, h1, h2⟩
    · -- A STATE HAS COME
      have hsL : L[i] ∈ L := List.getElem_mem _
      have hnx := Lib.hid (show ∀ t, (t ∈ N ∨ (t ∈ nextL g h k L[i] ∧ fitsB l o (k : Int) (zero g t) = true)) ↔ ∃ j, ∃ hj : j < L.length, j ∈ sn ++ [i] ∧ t ∈ nextL g h k L[j] ∧ fitsB l o (k : Int) (zero g t) = true from fun t => by
        rw [HMM.out]
        constructor
        · rintro (⟨j, hj, h1, h2⟩ | h2)
          · exact ⟨j, hj, by simp [h1], h2⟩
          · exact ⟨i, hiL, by simp, h2⟩
        · rintro ⟨j, hj, h1, h2⟩
          rcases List.mem_append.1 h1 with h1 | h1
          · exact .inl ⟨j, hj, h1, h2⟩
          · obtain rfl := List.mem_singleton.1 h1; exact .inr h2)
      have hsb := Can.bd hok ((HM4.out _).1 hsL)
      generalize L[i] = s at *
      have hs1 : 0 ≤ s.1 ∧ s.1 ≤ 10000 := by have := hok.nh.2; omega
      have hs2 : 0 ≤ s.2 ∧ s.2 ≤ 10000 := by omega
      have HSB := Lib.hid hsb
      clear hsb hsL
      unfold keyV at hrun hent
      have mB2 : Below Wk.heap.size Wk W2 := mB.grown hg2 mB.size (fun j hj => by cases hj; omega)
      have e1 : Blk W2 w.heap.size 107 #[.int .i64 g.base, .slice Ab g.bands.length cb, .slice Ad g.depths.length cd, .int .i64 g.blo, .int .i64 g.bhi, .slice Ah h.length ch, .slice Ai l.length ci] := (mB2.block _ dl1).trans dq1
      have e2 : Blk W2 (w.heap.size + 1) 121 #[.bool (o 0), .bool (o 1), .bool (o 2), .bool (o 3), .bool (o 4), .bool (o 5), .bool (o 6), .bool (o 7)] := (mB2.block _ dq2.lt).trans dq2
      have e6 : Blk W2 Wk.heap.size 3 #[.int .i64 (k : Int)] := mq6.grown hg2 (by first | (simp; done) | (simp; omega))
      have e7 : Blk W2 (Wk.heap.size + 1 + 1) 122 #[.map (some (Wk.heap.size + 1))] := mq7.grown hg2 (by first | (simp; done) | (simp; omega))
      have em : IsMap W2 (Wk.heap.size + 1) N := mm.grown hg2 (by first | (simp; done) | (simp; omega))
      have emk : Marks W2 ds := mmk.grown hg2 (fun b hb => by cases hb; exact ⟨_, mit.1, fun x e => by cases e⟩)
      have a0 := e1.cell 0
      have a1 := e1.cell 1
      have a2 := e1.cell 2
      have a3 := e1.cell 3
      have a4 := e1.cell 4
      have a5 := e1.cell 5
      have a6 := e1.cell 6
      have b6 := e6.cell 0
      have f1 := e1.lt
      have f6 := e6.lt
      simp at a0 a1 a2 a3 a4 a5 a6 b6
      have hle := mit.lt
      have HS2 := Lib.hid hsz2
      have f1b : w.heap.size + 1 < W2.heap.size := e2.lt
      clear e0 hsz2
      go_wp2_with fail
      refine (next_any g _ _ _ _ _ _ _ h s _).mono ?_
      rintro e W3 ⟨rfl, hW3⟩
      have hB3 : Below W2.heap.size W2 W3 := by rw [hW3]; exact ex_alloc (ex_alloc (ex_alloc (ex_alloc (Below.refl _ _) _) _) _) _
      have n1 : Blk W3 (W2.heap.size + 1) 105 #[.int .i64 g.base, .slice Ab g.bands.length cb, .slice Ad g.depths.length cd, .int .i64 g.blo, .int .i64 g.bhi, .slice Ah h.length ch] := by rw [hW3]; exact ((Blk.new' _ _ _ (by simp)).alloc _).alloc _
      have n2 : Blk W3 (W2.heap.size + 1 + 1) 124 #[.int .i64 s.1, .int .i64 s.2] := by rw [hW3]; exact (Blk.new' _ _ _ (by simp)).alloc _
      have n3 : Blk W3 (W2.heap.size + 1 + 1 + 1) 3 #[.int .i64 (k : Int)] := by rw [hW3]; exact Blk.new' _ _ _ (by simp)
      have HW3 := Lib.hid hW3
      clear hW3
      go_wp2_with fail
      clear a0 a1 a2 a3 a4 a5 a6 b6 hrun hent
      have l3 := hB3.size
      have w1 : Blk W3 w.heap.size 107 #[.int .i64 g.base, .slice Ab g.bands.length cb, .slice Ad g.depths.length cd, .int .i64 g.blo, .int .i64 g.bhi, .slice Ah h.length ch, .slice Ai l.length ci] := e1.below hB3 e1.lt
      have w2 : Blk W3 (w.heap.size + 1) 121 #[.bool (o 0), .bool (o 1), .bool (o 2), .bool (o 3), .bool (o 4), .bool (o 5), .bool (o 6), .bool (o 7)] := e2.below hB3 e2.lt
      have w6 : Blk W3 Wk.heap.size 3 #[.int .i64 (k : Int)] := e6.below hB3 e6.lt
      have w7 : Blk W3 (Wk.heap.size + 1 + 1) 122 #[.map (some (Wk.heap.size + 1))] := e7.below hB3 e7.lt
      have wm : IsMap W3 (Wk.heap.size + 1) N := em.below hB3
      have wmk : Marks W3 ds := emk.below hB3
      have wit : Iter W3 (Wk.heap.size + 1 + 1 + 1) b L (sn ++ [i]) := hit2.of_block (hB3.block _ hit2.lt)
      have wB : Below Wk.heap.size Wk W3 := mB2.trans (hB3.mono mB2.size)
      have hw3 := (dB.trans (wB.mono dsz))
      have hwsz := hw3.size
      have hmlt := wm.lt
      have hgW : ∀ W, Below W3.heap.size W3 W → GlIn W W.heap.size g Ab Ad := fun W hW => (hg.below (hw3.trans (hW.mono hwsz))).up (Nat.le_trans hwsz hW.size)
      have hhW : ∀ W, Below W3.heap.size W3 W → SlAt W W.heap.size 2 Ah h.length (fR h) := fun W hW => (hh.below (hw3.trans (hW.mono hwsz))).up (Nat.le_trans hwsz hW.size)
      have hIown : OwnFrom W3.heap.size (fun (pre : List (NextSt g h k s)) W => W3.grownBy W (some (Wk.heap.size + 1)) ∧ ∃ N', IsMap W (Wk.heap.size + 1) N' ∧ N'.Nodup ∧ ∀ t, t ∈ N' ↔ t ∈ N ∨ (t ∈ pre.map (·.1) ∧ fitsB l o (k : Int) (zero g t) = true)) := by
        rintro pre A B row ⟨hs1, N', hs2, hs3⟩ hgr hr
        exact ⟨hs1.andThen hgr (fun j hj => .inl (hr j hj).1), N', hs2.grown hgr (fun e => by have := (hr _ e.symm).1; omega), hs3⟩
      refine (wpIn_wide (n := 5)).1 (wpIn_rangeFunc_ownH (F := Fence.wide) (n := 5) rfl (by omega) (gf := 74) (lb := #[.pointer (some ⟨W2.heap.size + 1, 0, none⟩), .pointer (some ⟨W2.heap.size + 1 + 1 + 1, 0, none⟩), .pointer (some ⟨W2.heap.size + 1 + 1, 0, none⟩)]) rfl trivial (enters_of Try.func74 (by kernel_rfl) rfl)
        (encs := fun x : NextSt g h k s => encSt x.1) (Kp := KeepsCells) (S := fun xs => xs.map (·.1) = nextL g h k s) (Sp := fun _ => True) (N := (nextL g h k s).length) (w0 := W3)
        (fun l J Jx W hW hJ hJx hY h0 => (next1_in 4 g Ab Ad Ah cb cd ch k h s hok hlt hs1 hs2 l _ _ _ J Jx W (hgW W hW) (hhW W hW) hJ hJx (n1.below hW n1.lt) (n3.below hW n3.lt) (n2.below hW n2.lt) hY h0).mono
          (fun e W' hp => ⟨hp.1, hp.2.imp id (fun ⟨pre, hpre⟩ => ⟨pre, trivial, hpre⟩)⟩))
        (fun h k => h.trans k) (fun W l o o' _ hl ho _ => KeepsCells.putObj o' hl ho) (Below.refl _ _) (fun _ => rfl)
        (fun (pre : List (NextSt g h k s)) W => W3.grownBy W (some (Wk.heap.size + 1)) ∧ ∃ N', IsMap W (Wk.heap.size + 1) N' ∧ N'.Nodup ∧ ∀ t, t ∈ N' ↔ t ∈ N ∨ (t ∈ pre.map (·.1) ∧ fitsB l o (k : Int) (zero g t) = true))
        (fun _ _ _ => False) hIown (fun _ _ _ _ _ hs _ _ => hs) ⟨World.grownBy.refl W3 _, N, wm, mnd, fun t => by simp⟩
        (fun (x : NextSt g h k s) a' W => ∃ Bx, W3.heap.size ≤ Bx ∧ Blk W Bx 124 #[.int .i64 x.1.1, .int .i64 x.1.2] ∧ a' = ⟨#[.agg #[.int .i64 g.base, .slice Ab g.bands.length cb, .slice Ad g.depths.length cd, .int .i64 g.blo, .int .i64 g.bhi, .slice Ah h.length ch, .slice Ai l.length ci], .agg #[.bool (o 0), .bool (o 1), .bool (o 2), .bool (o 3), .bool (o 4), .bool (o 5), .bool (o 6), .bool (o 7)], .pointer (some ⟨w.heap.size, 0, none⟩), .pointer (some ⟨w.heap.size + 1, 0, none⟩), .slice none 0 0, .slice (some ⟨gv, 0, none⟩) ms.length cap, .pointer (some ⟨Wk.heap.size, 0, none⟩), .pointer (some ⟨Wk.heap.size + 1 + 1, 0, none⟩), .pointer (some ⟨W2.heap.size, 0, none⟩), .pointer (some ⟨Bx, 0, none⟩), .map (some (w.heap.size + 1 + 1)), .agg #[.int .i64 0, .int .i64 0], .map (some (w.heap.size + 1 + 1)), .slice (some ⟨W1.heap.size, 0, none⟩) 1 1, .pointer (some ⟨w.heap.size, 0, none⟩), .pointer (some ⟨w.heap.size, 5, none⟩), .slice Ah h.length ch, .int .i64 (h.length : Int), .int .i64 (k : Int), .bool true, .int .i64 (k : Int), .map (some (Wk.heap.size + 1)), .slice (some ⟨gv, 0, none⟩) ms.length cap, .int .i64 (k : Int), .pointer (some ⟨gv, k, none⟩), .map (some b), .pointer (some ⟨Wk.heap.size + 1 + 1 + 1, 0, none⟩), .tuple #[.bool true, .agg #[.int .i64 s.1, .int .i64 s.2], .bool true], .bool true, .tuple #[.agg #[.int .i64 s.1, .int .i64 s.2], .bool true], .agg #[.int .i64 s.1, .int .i64 s.2], .pointer (some ⟨w.heap.size, 0, none⟩), .agg #[.int .i64 g.base, .slice Ab g.bands.length cb, .slice Ad g.depths.length cd, .int .i64 g.blo, .int .i64 g.bhi, .slice Ah h.length ch], .agg #[.int .i64 s.1, .int .i64 s.2], .int .i64 (k : Int), .func (.func 74) #[] #[.pointer (some ⟨W2.heap.size + 1, 0, none⟩), .pointer (some ⟨W2.heap.size + 1 + 1 + 1, 0, none⟩), .pointer (some ⟨W2.heap.size + 1 + 1, 0, none⟩)], .agg #[.int .i64 x.1.1, .int .i64 x.1.2], u37, u38, u39, u40, u41, u42, u43, u44, u45, u46, u47, u48, u49, u50, u51, u52, u53, u54, u55, u56, u57, u58, undef], []⟩)
        ?hAx ?assign ?body ?done ?stop)
      case hAx =>
        rintro x a' _ A B row ⟨Bx, h1, h2, h3⟩ hgr hr
        exact ⟨Bx, h1, h2.grown hgr (fun e => by obtain ⟨_, o, ho, hc⟩ := hr _ e.symm; rw [h2] at ho; cases ho; cases hc), h3⟩
      case assign =>
        rintro l pre x W K hi hK
        unfold encSt
        gi_wp2
        exact hK _ _ ((KeepsOthers.alloc W _).from _) (KeepsCells.alloc W _) (hIown.alloc _ hi) ⟨W.heap.size, hi.1.size, Blk.new W _ _, rfl⟩
      case stop => rintro D c pre W _ _ hf _; exact hf.elim
      case done =>
        rintro D xs W hD hxs ⟨hgr, N', hm', hnd', hmem'⟩ hDd
        refine ⟨⟨_, _, _, _, _, _, _, _, _, _, _, _, _, _, _, _, _, _, _, _, _, _, _, _, _, _, _, _, _, _, _, _, _, _, _ :: ds, sn ++ [i], N', rfl, ?_⟩, ?_⟩
        · refine ⟨wB.grown hgr wB.size (fun j hj => by cases hj; omega), wit.of_block (hgr.block _ wit.lt (by first | (simp; done) | (simp; omega))), hm', hnd', fun t => ?_, w6.grown hgr (by first | (simp; done) | (simp; omega)), w7.grown hgr (by first | (simp; done) | (simp; omega)), ?_, ?_⟩
          · rw [← hnx.out, hmem', hxs]
          · exact wmk.new (fun D' hD' => (hgr.block D' (Array.getElem?_eq_some_iff.1 hD').1 (fun e => by cases e; have h2 : W3.heap[Wk.heap.size + 1]? = some (.map (mkEs N) N.length) := wm; rw [h2] at hD'; cases hD')).trans hD') hD hDd
          · intro d hd D' hD'
            rcases List.mem_cons.1 hd with rfl | hd
            · injection hD' with hD'; omega
            · exact mmb d hd D' hD'
        · have q1 := itLeft_eq (wit.of_block (hgr.block _ wit.lt (by first | (simp; done) | (simp; omega))))
          have q2 := itLeft_eq mit
          show itLeft _ _ _ < itLeft _ _ _
          rw [q1, q2]
          exact leftN_lt hiL hni
      case body =>
        rintro l' pre x a' W hl' ⟨r', hr'⟩ ⟨hgr, N', hm', hnd', hmem'⟩ ⟨Bx, hBx, bX, rfl⟩ hlen
        clear hr' hIown hhW hgW
        have g1 : Blk W w.heap.size 107 #[.int .i64 g.base, .slice Ab g.bands.length cb, .slice Ad g.depths.length cd, .int .i64 g.blo, .int .i64 g.bhi, .slice Ah h.length ch, .slice Ai l.length ci] := w1.grown hgr (by first | (simp; done) | (simp; omega))
        have g2 : Blk W (w.heap.size + 1) 121 #[.bool (o 0), .bool (o 1), .bool (o 2), .bool (o 3), .bool (o 4), .bool (o 5), .bool (o 6), .bool (o 7)] := w2.grown hgr (by first | (simp; done) | (simp; omega))
        have g6 : Blk W Wk.heap.size 3 #[.int .i64 (k : Int)] := w6.grown hgr (by first | (simp; done) | (simp; omega))
        have g7 : Blk W (Wk.heap.size + 1 + 1) 122 #[.map (some (Wk.heap.size + 1))] := w7.grown hgr (by first | (simp; done) | (simp; omega))
        have a0 := g1.cell 0
        have a1 := g1.cell 1
        have a2 := g1.cell 2
        have a3 := g1.cell 3
        have a4 := g1.cell 4
        have a5 := g1.cell 5
        have a6 := g1.cell 6
        have c0 := g2.cell 0
        have c1 := g2.cell 1
        have c2 := g2.cell 2
        have c3 := g2.cell 3
        have c4 := g2.cell 4
        have c5 := g2.cell 5
        have c6 := g2.cell 6
        have c7 := g2.cell 7
        have b6 := g6.cell 0
        have b7 := g7.cell 0
        have x0 := bX.cell 0
        have x1 := bX.cell 1
        have t1 := g1.lt
        have t2 := g2.lt
        have t6 := g6.lt
        have t7 := g7.lt
        have tX := bX.lt
        simp at a0 a1 a2 a3 a4 a5 a6 c0 c1 c2 c3 c4 c5 c6 c7 b6 b7 x0 x1
        have hWb : Below w.heap.size w W := hw3.grown hgr hwsz (fun j hj => by cases hj; omega)
        have hiX : ∀ X : Ex W, SlAt X.W X.W.heap.size 3 Ai l.length (fC l) := fun X => (hi.below (hWb.trans (X.h.mono hWb.size))).up (Nat.le_trans hWb.size X.h.size)
        have hxb := nextL_bd hok x.2 ⟨hs1.1, by have := HSB.out; omega, by have := HSB.out; omega⟩
        have hgb := hok.base
        have hlk := fun X : Ex W => run_lookup_st (hm'.below X.h) x.1
        unfold keyV at hlk
        have HGB := Lib.hid hgb
        have hgb : -100000 ≤ g.base ∧ g.base ≤ 100000 := by have := HGB.out; omega
        have r1 : 0 ≤ x.1.1 ∧ x.1.1 ≤ 100000 := by omega
        have r2 : 0 ≤ x.1.2 ∧ x.1.2 ≤ 100000 := by omega
        have r3 : -1000000 ≤ g.base + x.1.1 - x.1.2 ∧ g.base + x.1.1 - x.1.2 ≤ 1000000 := by omega
        have HME := Lib.hid hmem'
        clear hmem' HGB
        by_cases hx : x.1 ∈ N'
        · have hlk' : ∀ X : Ex W, (Instr.lookup 122 (.map (some (Wk.heap.size + 1))) (.agg #[.int .i64 x.1.1, .int .i64 x.1.2]) false).run Try.prog X.W = .ok (.bool true) X.W := fun X => by rw [hlk X, decide_eq_true hx]
          clear hlk
          have HI' : Hid (∀ t, t ∈ N' ↔ t ∈ N ∨ (t ∈ (pre ++ [x]).map (·.1) ∧ fitsB l o (k : Int) (zero g t) = true)) := Lib.hid fun t => by
            rw [List.map_append, List.mem_append, HME.out]
            constructor
            · rintro (h1 | ⟨h1, h2⟩)
              · exact .inl h1
              · exact .inr ⟨.inl h1, h2⟩
            · rintro (h1 | ⟨h1 | h1, h2⟩)
              · exact .inl h1
              · exact .inr ⟨h1, h2⟩
              · have : t = x.1 := by simpa using h1
                rw [this]; exact (HME.out _).1 hx
          clear hx HME
          gi_wp2_with fail
          refine wpIn_region_ext (by kernel_rfl) (by kernel_rfl) (by kernel_rfl) (by rintro ⟨_, _, hf⟩; exact hf) ?_
          repeat (any_goals (first | go_big_quiet_step ((first
            | (go_at_call 62; exact Calls.ext_of (zero_any _ _ _ _ _ _ _ _ hgb r1 r2))
            | (go_at_call 71; exact Calls.ext_of (fits_any _ _ _ _ _ _ _ _ _ _ l o _ (hiX _) h8 hbd r3))))))
          refine wpQuiet_nil ?_; intro _ hw'; obtain ⟨X, rfl⟩ := hw'
          gi_wp2
          have k1 : KeepsFrom W3.heap.size W X.W := ⟨X.h.size, fun j oo _ hj _ => (X.h.block j (Array.getElem?_eq_some_iff.1 hj).1).trans hj⟩
          have k2 : KeepsCells W X.W := KeepsCells.below X.h
          have k3 : W3.grownBy X.W (some (Wk.heap.size + 1)) := hgr.andThen (grown_of_below X.h) (fun j hj => by cases hj)
          have k4 := hm'.below X.h
          exact ⟨k1, k2, k3, N', k4, hnd', HI'.out⟩
        have hlk' : ∀ X : Ex W, (Instr.lookup 122 (.map (some (Wk.heap.size + 1))) (.agg #[.int .i64 x.1.1, .int .i64 x.1.2]) false).run Try.prog X.W = .ok (.bool false) X.W := fun X => by rw [hlk X, decide_eq_false hx]
        clear hlk
        have HX := Lib.hid hx
        clear hx
        cases hfit : fitsB l o (k : Int) (g.base + x.1.1 - x.1.2)
        · have HI' : Hid (∀ t, t ∈ N' ↔ t ∈ N ∨ (t ∈ (pre ++ [x]).map (·.1) ∧ fitsB l o (k : Int) (zero g t) = true)) := Lib.hid fun t => by
            rw [List.map_append, List.mem_append, HME.out]
            constructor
            · rintro (h1 | ⟨h1, h2⟩)
              · exact .inl h1
              · exact .inr ⟨.inl h1, h2⟩
            · rintro (h1 | ⟨h1 | h1, h2⟩)
              · exact .inl h1
              · exact .inr ⟨h1, h2⟩
              · have : t = x.1 := by simpa using h1
                rw [this, show zero g x.1 = g.base + x.1.1 - x.1.2 from rfl, hfit] at h2; cases h2
          clear HME
          gi_wp2_with fail
          refine wpIn_region_ext (by kernel_rfl) (by kernel_rfl) (by kernel_rfl) (by rintro ⟨_, _, hf⟩; exact hf) ?_
          repeat (any_goals (first | go_big_quiet_step ((first
            | (go_at_call 62; exact Calls.ext_of (zero_any _ _ _ _ _ _ _ _ hgb r1 r2))
            | (go_at_call 71; exact Calls.ext_of (fits_any _ _ _ _ _ _ _ _ _ _ l o _ (hiX _) h8 hbd r3))))))
          refine wpQuiet_nil ?_; intro _ hw'; obtain ⟨X, rfl⟩ := hw'
          gi_wp2
          have k1 : KeepsFrom W3.heap.size W X.W := ⟨X.h.size, fun j oo _ hj _ => (X.h.block j (Array.getElem?_eq_some_iff.1 hj).1).trans hj⟩
          have k2 : KeepsCells W X.W := KeepsCells.below X.h
          have k3 : W3.grownBy X.W (some (Wk.heap.size + 1)) := hgr.andThen (grown_of_below X.h) (fun j hj => by cases hj)
          have k4 := hm'.below X.h
          exact ⟨k1, k2, k3, N', k4, hnd', HI'.out⟩
        · have HI' : Hid (∀ t, t ∈ N' ++ [x.1] ↔ t ∈ N ∨ (t ∈ (pre ++ [x]).map (·.1) ∧ fitsB l o (k : Int) (zero g t) = true)) := Lib.hid fun t => by
            rw [List.map_append, List.mem_append, List.mem_append, HME.out]
            constructor
            · rintro ((h1 | ⟨h1, h2⟩) | h1)
              · exact .inl h1
              · exact .inr ⟨.inl h1, h2⟩
              · have : t = x.1 := by simpa using h1
                exact .inr ⟨.inr (by simpa using h1), by rw [this]; exact hfit⟩
            · rintro (h1 | ⟨h1 | h1, h2⟩)
              · exact .inl (.inl h1)
              · exact .inl (.inr ⟨h1, h2⟩)
              · exact .inr (by simpa using h1)
          clear HME
          gi_wp2_with fail
          refine wpIn_region_ext (by kernel_rfl) (by kernel_rfl) (by kernel_rfl) (by rintro ⟨_, _, hf⟩; exact hf) ?_
          repeat (any_goals (first | go_big_quiet_step ((first
            | (go_at_call 62; exact Calls.ext_of (zero_any _ _ _ _ _ _ _ _ hgb r1 r2))
            | (go_at_call 71; exact Calls.ext_of (fits_any _ _ _ _ _ _ _ _ _ _ l o _ (hiX _) h8 hbd r3))))))
          refine wpQuiet_nil ?_; intro _ hw'; obtain ⟨X, rfl⟩ := hw'
          have k1 : KeepsFrom W3.heap.size W X.W := ⟨X.h.size, fun j oo _ hj _ => (X.h.block j (Array.getElem?_eq_some_iff.1 hj).1).trans hj⟩
          have k2 : KeepsCells W X.W := KeepsCells.below X.h
          have k3 : W3.grownBy X.W (some (Wk.heap.size + 1)) := hgr.andThen (grown_of_below X.h) (fun j hj => by cases hj)
          have k4 := hm'.below X.h
          have hup := run_update_st k4 x.1 HX.out
          unfold keyV at hup
          have hpu := grownBy_putObj' X.W (Wk.heap.size + 1) (.map (mkEs (N' ++ [x.1])) (N' ++ [x.1]).length)
          have hmp : IsMap (X.W.putObj (Wk.heap.size + 1) (.map (mkEs (N' ++ [x.1])) (N' ++ [x.1]).length)) (Wk.heap.size + 1) (N' ++ [x.1]) := World.putObj_heap_same k4.lt
          have hkc : KeepsCells X.W (X.W.putObj (Wk.heap.size + 1) (.map (mkEs (N' ++ [x.1])) (N' ++ [x.1]).length)) := KeepsCells.putObj _ k4 rfl
          generalize X.W.putObj (Wk.heap.size + 1) (.map (mkEs (N' ++ [x.1])) (N' ++ [x.1]).length) = W5 at *
          have tt7 : Wk.heap.size + 1 + 1 < W.heap.size := t7
          gi_wp2
          refine ⟨k1.trans (KeepsFrom.of_grownBy hpu (fun j e => by cases e; omega)), k2.trans hkc, k3.andThen hpu (fun j hj => .inr hj), N' ++ [x.1], hmp, ?_, HI'.out⟩
          exact List.nodup_append.2 ⟨hnd', by simp, fun a ha b hb => by rintro rfl; rw [List.mem_singleton.1 hb] at ha; exact HX.out ha⟩
  · have hkn : k = h.length := by omega
    have HN := Lib.hid hkn
    clear hkn
    go_wp2
    show LeavesInM _ _ _ _ _ _ _ _ _
    refine leaves_marks w.heap.size ds Wk dmk dmb (fun W' hW' => ⟨_, results_tmp rfl _ _ _, v5, ms, rfl, by rw [hml, HN.out], ?_, ?_, hW'.below dB⟩)
    · have h1 := own_base hown (show w.heap.size ≤ w.heap.size + 1 + 1 by omega)
      refine ⟨h1.1, h1.2.imp id ?_⟩
      rintro ⟨g', cap, cur, e, hb', hh', rest⟩
      exact ⟨g', cap, cur, e, hb', hW'.same _ _ hh' (fun x e => by cases e), rest⟩
    · intro i hi
      obtain ⟨x1, x2, x3, x4⟩ := hms i hi
      exact ⟨hW'.same _ _ x1 (fun x e => by cases e), x2, x3, x4⟩

end Go.Proofs.Ytkaogjhnogkcdaa
end
