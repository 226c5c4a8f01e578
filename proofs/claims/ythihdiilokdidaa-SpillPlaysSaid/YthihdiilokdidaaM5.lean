/- Spill: spots as keys; a stock's range made narrower (walk). · Spill: nets in memory. · Spill: a spot's number (walk). · Spill: an arc is laid (walk). · Spill: a way through a net (walk). · Spill: grams are pushed through a net (walk). -/
import Derived.Test.YthihdiilokdidaaM4
import Derived.Test.YthihdiilokdidaaM3
import Derived.Test.YthihdiilokdidaaM2
set_option linter.unusedVariables false
set_option linter.unusedSimpArgs false
set_option linter.unusedSectionVars false
section
namespace Go.Proofs.Ythihdiilokdidaa
open Go.RowKit
attribute [local go_sem] Ex.cell? Ex.frozen?

theorem sp_eq (s u : Spot) (w : World) : (Op.equal 169 (cSp s) (cSp u)).run Try.prog w = .ok (decide (s = u)) w := by
  obtain ⟨a, b⟩ := s
  obtain ⟨c, d⟩ := u
  unfold cSp
  simp [Op.equal, Op.maxDepth, go_sem]
  by_cases h1 : a = c <;> by_cases h2 : b = d <;> simp [h1, h2]
theorem cSp_ok : KeyOk 169 cSp where
  eq := sp_eq
  check := fun em s w => by
    have hc : ∀ (n : Nat) (x : Int) (w : World), (Instr.checkKey em (n + 1) 3 (.int .i64 x)).run Try.prog w = .ok () w := fun n x w => by
      rw [Instr.checkKey]
      simp [go_sem, run_underlying Try.underlying3]
    show (Instr.checkKey em (9999 + 1) 169 (cSp s)).run Try.prog w = _
    rw [Instr.checkKey]
    unfold cSp
    simp only [Sem.run_bind, run_underlying Try.underlying169, Result.andThen_ok]
    have hc' := fun x w => hc 9998 x w
    simp [go_sem, List.forIn_cons, hc']
  und := ⟨_, Try.underlying169, fun s e es i => by simp [Instr.findNow, Instr.sameNow, cSp]⟩
theorem cSp_fd : KeyFd 169 cSp := KeyFd.of cSp_ok (fun s w => by simp [Instr.keyThatStays, Instr.sameBits, cSp])
def cRg (r : Rg) : Value := .agg #[.int .i64 r.lo, .int .i64 r.hi]
abbrev StMp (W : World) (m : Nat) (F : Spot → Option Rg) : Prop := MpIs cSp cRg W m F
theorem range_info : (Try.prog.info? 50).map (fun i => (i.zero, i.size, i.bytes)) = some (some (.agg #[.int .i64 0, .int .i64 0]), 2, 16) := by kernel_rfl
set_option maxRecDepth 100000 in
set_option maxHeartbeats 3200000 in
theorem narrow_any (s : Ws) (Ar Am Aw : Option Addr) (cr cm cw m : Nat) (p : Spot) (lo hi : Int) (old : Rg) (F : Spot → Option Rg) (w : World) (hm : StMp w m F) (hp : F p = some old) :
    Calls Try.prog 107 #[.agg #[.slice Ar s.rooms.length cr, .int .i64 s.days, .slice Am s.moves.length cm, .slice Aw s.wgs.length cw, .map (some m)], cSp p, .agg #[.int .i64 lo, .int .i64 hi]] w fun e w' => e = .returned (.tuple #[]) ∧ StMp w' m (fun x => if x = p then some ⟨max old.lo lo, min old.hi hi⟩ else F x) ∧ Fr (fun b => b = m) w w' := by
  unfold cSp
  obtain ⟨olo, ohi⟩ := old
  have hb3 := ex_alloc (ex_alloc (ex_alloc (Below.refl w.heap.size w) (.cells #[.slice Ar s.rooms.length cr, .int .i64 s.days, .slice Am s.moves.length cm, .slice Aw s.wgs.length cw, .map (some m)] 153)) (.cells #[.int .i64 p.1, .int .i64 p.2] 169)) (.cells #[.int .i64 lo, .int .i64 hi] 50)
  have hb4 := ex_alloc hb3 (.cells #[.int .i64 olo, .int .i64 ohi] 50)
  have hm3 := hm.below hb3
  have hlk := MpIs.at_ (et := 50) Try.underlying151 cSp_fd hm3 p hp
  unfold cSp cRg at hlk
  go_enter Try.func107, Try.ntmps107
  go_upto_region 2 with fail
  have q0 : Blk ((((w.alloc (.cells #[.slice Ar s.rooms.length cr, .int .i64 s.days, .slice Am s.moves.length cm, .slice Aw s.wgs.length cw, .map (some m)] 153)).alloc (.cells #[.int .i64 p.1, .int .i64 p.2] 169)).alloc (.cells #[.int .i64 lo, .int .i64 hi] 50)).alloc (.cells #[.int .i64 olo, .int .i64 ohi] 50)) (w.heap.size) 153 #[.slice Ar s.rooms.length cr, .int .i64 s.days, .slice Am s.moves.length cm, .slice Aw s.wgs.length cw, .map (some m)] := (((Blk.new' _ _ _ (by simp)).alloc _).alloc _).alloc _
  have q1 : Blk ((((w.alloc (.cells #[.slice Ar s.rooms.length cr, .int .i64 s.days, .slice Am s.moves.length cm, .slice Aw s.wgs.length cw, .map (some m)] 153)).alloc (.cells #[.int .i64 p.1, .int .i64 p.2] 169)).alloc (.cells #[.int .i64 lo, .int .i64 hi] 50)).alloc (.cells #[.int .i64 olo, .int .i64 ohi] 50)) (w.heap.size + 1) 169 #[.int .i64 p.1, .int .i64 p.2] := ((Blk.new' _ _ _ (by simp)).alloc _).alloc _
  have q2 : Blk ((((w.alloc (.cells #[.slice Ar s.rooms.length cr, .int .i64 s.days, .slice Am s.moves.length cm, .slice Aw s.wgs.length cw, .map (some m)] 153)).alloc (.cells #[.int .i64 p.1, .int .i64 p.2] 169)).alloc (.cells #[.int .i64 lo, .int .i64 hi] 50)).alloc (.cells #[.int .i64 olo, .int .i64 ohi] 50)) (w.heap.size + 1 + 1) 50 #[.int .i64 lo, .int .i64 hi] := (Blk.new' _ _ _ (by simp)).alloc _
  have q3 : Blk ((((w.alloc (.cells #[.slice Ar s.rooms.length cr, .int .i64 s.days, .slice Am s.moves.length cm, .slice Aw s.wgs.length cw, .map (some m)] 153)).alloc (.cells #[.int .i64 p.1, .int .i64 p.2] 169)).alloc (.cells #[.int .i64 lo, .int .i64 hi] 50)).alloc (.cells #[.int .i64 olo, .int .i64 ohi] 50)) (w.heap.size + 1 + 1 + 1) 50 #[.int .i64 olo, .int .i64 ohi] := Blk.new' _ _ _ (by simp)
  show Code.wp _ _ _ _ ((((w.alloc (.cells #[.slice Ar s.rooms.length cr, .int .i64 s.days, .slice Am s.moves.length cm, .slice Aw s.wgs.length cw, .map (some m)] 153)).alloc (.cells #[.int .i64 p.1, .int .i64 p.2] 169)).alloc (.cells #[.int .i64 lo, .int .i64 hi] 50)).alloc (.cells #[.int .i64 olo, .int .i64 ohi] 50))
  have hm4 := hm.below hb4
  generalize (((w.alloc (.cells #[.slice Ar s.rooms.length cr, .int .i64 s.days, .slice Am s.moves.length cm, .slice Aw s.wgs.length cw, .map (some m)] 153)).alloc (.cells #[.int .i64 p.1, .int .i64 p.2] 169)).alloc (.cells #[.int .i64 lo, .int .i64 hi] 50)).alloc (.cells #[.int .i64 olo, .int .i64 ohi] 50) = V at *
  clear hlk hm3 hb3
  obtain ⟨p0, hp0⟩ : ∃ p, w.heap.size = p := ⟨_, rfl⟩
  rw [hp0] at q0 q1 q2 q3 ⊢
  have c00 : V.cell? ⟨p0, 0, none⟩ = some (.slice Ar s.rooms.length cr) := q0.cell 0
  have c01 : V.cell? ⟨p0, 1, none⟩ = some (.int .i64 s.days) := q0.cell 1
  have c02 : V.cell? ⟨p0, 2, none⟩ = some (.slice Am s.moves.length cm) := q0.cell 2
  have c03 : V.cell? ⟨p0, 3, none⟩ = some (.slice Aw s.wgs.length cw) := q0.cell 3
  have c04 : V.cell? ⟨p0, 4, none⟩ = some (.map (some m)) := q0.cell 4
  have l0 := q0.lt
  have c10 : V.cell? ⟨p0 + 1, 0, none⟩ = some (.int .i64 p.1) := q1.cell 0
  have c11 : V.cell? ⟨p0 + 1, 1, none⟩ = some (.int .i64 p.2) := q1.cell 1
  have l1 := q1.lt
  have c20 : V.cell? ⟨p0 + 1 + 1, 0, none⟩ = some (.int .i64 lo) := q2.cell 0
  have c21 : V.cell? ⟨p0 + 1 + 1, 1, none⟩ = some (.int .i64 hi) := q2.cell 1
  have l2 := q2.lt
  have c30 : V.cell? ⟨p0 + 1 + 1 + 1, 0, none⟩ = some (.int .i64 olo) := q3.cell 0
  have c31 : V.cell? ⟨p0 + 1 + 1 + 1, 1, none⟩ = some (.int .i64 ohi) := q3.cell 1
  have l3 := q3.lt
  refine wp_region_ext_tqF 15 (.quiet 0 (.quiet 1 (.quiet 2 (.quiet 3 (.quiet 4 (.quiet 5 (.quiet 6 (.quiet 8 (.quiet 9 (.quiet 10 (.quiet 11 (.fork 7 (.loud 12 (.loud 13 (.quiet 14 .done))) 12 (.fork 7 (.loud 13 (.quiet 14 .done)) 13 (.loud 7 (.quiet 14 .done))))))))))))))) (by kernel_rfl) (by kernel_rfl) (by intro d _ _ _ _ h; cases d <;> exact h) ?_
  have D0 := (Below.refl V.heap.size V).drew
  repeat (refine tq_quiet rfl ?_; go_big_quiet_step (fail); refine wpQuiet_nil ?_)
  obtain ⟨Y, hY⟩ : ∃ Y, V.drew = Y := ⟨_, rfl⟩
  rw [hY] at D0 ⊢
  clear hY
  have hmx : (if lo > olo then lo else olo) = max olo lo := by split <;> omega
  refine tq_fork rfl rfl ?_ ?_
  · go_wp2_with fail
    refine ⟨inEx D0, ?_⟩
    repeat (refine tq_quiet rfl ?_; go_big_quiet_step (fail); refine wpQuiet_nil ?_)
    refine tq_loud rfl ?_
    have N1 := ex_trans D0 (ex_alloc (Below.refl Y.heap.size Y) (.cells #[.int .i64 ohi, .int .i64 hi] 3))
    have nb1 : Blk (Y.alloc (.cells #[.int .i64 ohi, .int .i64 hi] 3)) Y.heap.size 3 #[.int .i64 ohi, .int .i64 hi] := Blk.new _ _ _
    go_wp2_with fail
    generalize hZ1 : Y.alloc (.cells #[.int .i64 ohi, .int .i64 hi] 3) = Z1 at *
    refine ⟨inEx N1, ?_⟩
    repeat (refine tq_quiet rfl ?_; go_big_quiet_step (fail); refine wpQuiet_nil ?_)
    refine tq_loud rfl ?_
    go_wp2_with fail
    refine (least2 Y.heap.size 2 ohi hi Z1 (nb1.cell 0) (nb1.cell 1)).mono ?_
    rintro e w' ⟨rfl, rfl⟩
    go_wp2_with fail
    refine ⟨inEx N1, ?_⟩
    repeat (refine tq_quiet rfl ?_; go_big_quiet_step (fail); refine wpQuiet_nil ?_)
    obtain ⟨o, hup, hnew⟩ := MpIs.put (et := 50) Try.underlying151 cSp_fd (hm4.below N1) p (⟨max olo lo, min ohi hi⟩ : Rg)
    unfold cSp cRg at hup
    have HN := Lib.hid hnew
    clear hnew
    refine tq_done (r := [_]) rfl ?_
    go_wp2
    refine bodyPost_end (v := .tuple #[]) (results_none Try.results107 _ _ _) rfl ⟨rfl, HN.out, (Fr.below (ex_trans hb4 N1)).trans (fr_putO (fun b => b = m) _ m o rfl) (fun _ _ h => h)⟩
  · have N2 := ex_trans D0 (ex_alloc (Below.refl Y.heap.size Y) (.cells #[.int .i64 ohi, .int .i64 hi] 3))
    have nb2 : Blk (Y.alloc (.cells #[.int .i64 ohi, .int .i64 hi] 3)) Y.heap.size 3 #[.int .i64 ohi, .int .i64 hi] := Blk.new _ _ _
    go_wp2_with fail
    generalize hZ2 : Y.alloc (.cells #[.int .i64 ohi, .int .i64 hi] 3) = Z2 at *
    refine ⟨inEx N2, ?_⟩
    repeat (refine tq_quiet rfl ?_; go_big_quiet_step (fail); refine wpQuiet_nil ?_)
    refine tq_fork rfl rfl ?_ ?_
    · go_wp2_with fail
      refine ⟨inEx N2, ?_⟩
      repeat (refine tq_quiet rfl ?_; go_big_quiet_step (fail); refine wpQuiet_nil ?_)
      refine tq_loud rfl ?_
      go_wp2_with fail
      refine (least2 Y.heap.size 2 ohi hi Z2 (nb2.cell 0) (nb2.cell 1)).mono ?_
      rintro e w' ⟨rfl, rfl⟩
      go_wp2_with fail
      refine ⟨inEx N2, ?_⟩
      repeat (refine tq_quiet rfl ?_; go_big_quiet_step (fail); refine wpQuiet_nil ?_)
      obtain ⟨o, hup, hnew⟩ := MpIs.put (et := 50) Try.underlying151 cSp_fd (hm4.below N2) p (⟨max olo lo, min ohi hi⟩ : Rg)
      unfold cSp cRg at hup
      have HN := Lib.hid hnew
      clear hnew
      refine tq_done (r := [_]) rfl ?_
      go_wp2
      refine bodyPost_end (v := .tuple #[]) (results_none Try.results107 _ _ _) rfl ⟨rfl, HN.out, (Fr.below (ex_trans hb4 N2)).trans (fr_putO (fun b => b = m) _ m o rfl) (fun _ _ h => h)⟩
    · go_wp2_with fail
      refine (least2 Y.heap.size 2 ohi hi Z2 (nb2.cell 0) (nb2.cell 1)).mono ?_
      rintro e w' ⟨rfl, rfl⟩
      go_wp2_with fail
      refine ⟨inEx N2, ?_⟩
      repeat (refine tq_quiet rfl ?_; go_big_quiet_step (fail); refine wpQuiet_nil ?_)
      refine tq_loud rfl ?_
      go_wp2_with fail
      refine ⟨inEx N2, ?_⟩
      repeat (refine tq_quiet rfl ?_; go_big_quiet_step (fail); refine wpQuiet_nil ?_)
      obtain ⟨o, hup, hnew⟩ := MpIs.put (et := 50) Try.underlying151 cSp_fd (hm4.below N2) p (⟨max olo lo, min ohi hi⟩ : Rg)
      unfold cSp cRg at hup
      have HN := Lib.hid hnew
      clear hnew
      refine tq_done (r := [_]) rfl ?_
      go_wp2
      refine bodyPost_end (v := .tuple #[]) (results_none Try.results107 _ _ _) rfl ⟨rfl, HN.out, (Fr.below (ex_trans hb4 N2)).trans (fr_putO (fun b => b = m) _ m o rfl) (fun _ _ h => h)⟩
end Go.Proofs.Ythihdiilokdidaa
end

section
namespace Go.Proofs.Ythihdiilokdidaa
open Go.RowKit
attribute [local go_sem] Ex.cell? Ex.frozen?

def cAr (a : Ar) : List Value := [.int .i64 (a.tgt : Int), .int .i64 a.room, .int .i64 (a.back : Int)]
theorem cAr_len (a : Ar) : (cAr a).length = 3 := rfl
def vA (vals : List Value) (i : Nat) : Value := vals.getD i undef
/-- the numbers of spots. -/
def numF (sp : List Spot) : Spot → Option Int := fun s => if s ∈ sp then some (sp.idxOf s : Int) else none
/-- objects of a net. -/
def NetTy (t : TypeId) : Prop := t = 207 ∨ t = 205 ∨ t = 185
def NetObj (o : Obj) : Prop := ∃ cs t fr, o = .cells cs t fr ∧ NetTy t
/-- only objects of nets, and the map mb, have turned; nothing below base. -/
structure NetFr (base mb : Nat) (w w' : World) : Prop where
  os : w'.os = w.os
  tape : w'.tape = w.tape
  output : w'.output = w.output
  size : w.heap.size ≤ w'.heap.size
  low : ∀ k, k < base → k < w.heap.size → w'.heap[k]? = w.heap[k]?
  same : ∀ k o, w.heap[k]? = some o → k ≠ mb → ¬ NetObj o → w'.heap[k]? = some o
section
variable {base mb : Nat} {w w' w2 : World}
theorem NetFr.refl (base mb : Nat) (w : World) : NetFr base mb w w := ⟨rfl, rfl, rfl, Nat.le_refl _, fun _ _ _ => rfl, fun _ _ h _ _ => h⟩
theorem NetFr.trans (h : NetFr base mb w w') (k : NetFr base mb w' w2) : NetFr base mb w w2 :=
  ⟨k.os.trans h.os, k.tape.trans h.tape, k.output.trans h.output, Nat.le_trans h.size k.size, fun i hi hs => (k.low i hi (Nat.lt_of_lt_of_le hs h.size)).trans (h.low i hi hs), fun i o ho hne hn => k.same i o (h.same i o ho hne hn) hne hn⟩
theorem NetFr.below (h : Below w.heap.size w w') : NetFr base mb w w' := ⟨h.os, h.tape, h.output, h.size, fun k _ hs => h.block k hs, fun k o ho _ _ => (h.block k (Array.getElem?_eq_some_iff.1 ho).1).trans ho⟩
theorem NetFr.drew (h : NetFr base mb w w') : NetFr base mb w w'.drew := ⟨h.os, h.tape, h.output, h.size, h.low, h.same⟩
theorem NetFr.toBelow {w0 : World} {B : Nat} (h : NetFr base mb w w') (hb : Below B w0 w) (hB : B ≤ base) (hs : B ≤ w.heap.size) : Below B w0 w' :=
  ⟨h.os.trans hb.os, h.tape.trans hb.tape, h.output.trans hb.output, Nat.le_trans hb.size h.size, fun k hk => (h.low k (by omega) (by omega)).trans (hb.block k hk)⟩
/-- one cell of an object of a net. -/
theorem NetFr.set {g : Nat} {cs : Array Value} {t : TypeId} {fr : Nat × Nat} (hg : w.heap[g]? = some (.cells cs t fr)) (ht : NetTy t) (hb : base ≤ g) (i : Nat) (v : Value) : NetFr base mb w (w.setCell ⟨g, i, none⟩ v) :=
  ⟨rfl, rfl, rfl, by simp, fun k hk _ => Below.heap_setCell w ⟨g, i, none⟩ v k (fun e => by have : k = g := e; omega), fun k o ho _ hn => (Below.heap_setCell w ⟨g, i, none⟩ v k (fun e => hn (by
    have : k = g := e
    subst this
    rw [hg] at ho; cases ho; exact ⟨_, _, _, rfl, ht⟩))).trans ho⟩
/-- a row of a net grows. -/
theorem NetFr.grown {e : TypeId} {sz n : Nat} {v : Value} {xs : List Value} (ho : w.ownsRow base e sz v n xs) (ht : NetTy e) (h : w.grownBy w' v.ownBlock) : NetFr base mb w w' := by
  refine ⟨h.os, h.tape, h.output, h.size, fun k hk hs => h.block k hs (fun e => ?_), fun k o hk _ hn => (h.block k (Array.getElem?_eq_some_iff.1 hk).1 (fun e => ?_)).trans hk⟩
  · have := own_ge ho e.symm; omega
  · rcases ho.2 with ⟨rfl, _⟩ | ⟨g, cap, cur, rfl, _, hh, _⟩
    · simp [Value.ownBlock] at e
    · have hg : k = g := by simpa [Value.ownBlock] using e
      subst hg
      rw [hh] at hk; cases hk
      exact hn ⟨_, _, _, rfl, ht⟩
theorem NetFr.putO {o : Obj} (hb : base ≤ mb) : NetFr base mb w (w.putObj mb o) :=
  ⟨rfl, rfl, rfl, by simp, fun k hk _ => World.putObj_heap_other (by omega), fun k o ho hne _ => (World.putObj_heap_other hne).trans ho⟩
theorem Blk.nf {g : Nat} {t : TypeId} {cs : Array Value} (h : Blk w g t cs) (hf : NetFr base mb w w') (hm : g ≠ mb) (ht : ¬ NetTy t) : Blk w' g t cs := hf.same g _ h hm (fun ⟨_, _, _, e, h'⟩ => by cases e; exact ht h')
theorem MpIs.nf {α β : Type} [DecidableEq α] {kV : α → Value} {vV : β → Value} {b : Nat} {F : α → Option β} (h : MpIs kV vV w b F) (hf : NetFr base mb w w') (hm : b ≠ mb) : MpIs kV vV w' b F := by
  obtain ⟨L, h1, h2⟩ := h
  exact ⟨L, hf.same b _ h1 hm (fun ⟨_, _, _, e, _⟩ => by cases e), h2⟩
end
/-- a net in memory: of N nodes, with their arcs. -/
structure NetM (W : World) (base q mb : Nat) (sp : List Spot) (N : Nat) (R : Nat → List Ar) (vo : Value) (vals : List Value) : Prop where
  blk : Blk W q 185 #[.map (some mb), vo]
  out : W.ownsRow base 205 1 vo vals.length vals
  len : vals.length = N
  rows : ∀ i, i < N → W.ownsRow base 207 3 (vA vals i) (R i).length ((R i).flatMap cAr)
  ne : ∀ i j b, i < N → j < N → (vA vals i).ownBlock = some b → (vA vals j).ownBlock = some b → i = j
  num : MpIs cSp keyI W mb (numF sp)
  qb : base ≤ q ∧ base ≤ mb
section
variable {W W' : World} {base q mb N : Nat} {sp : List Spot} {R : Nat → List Ar} {vo : Value} {vals : List Value}
theorem NetM.below (h : NetM W base q mb sp N R vo vals) (hb : Below W.heap.size W W') : NetM W' base q mb sp N R vo vals :=
  ⟨h.blk.below hb h.blk.lt, own_below h.out hb, h.len, fun i hi => own_below (h.rows i hi) hb, h.ne, h.num.below hb, h.qb⟩
theorem own_isMap {w : World} {base : Nat} {e : TypeId} {sz n : Nat} {v : Value} {xs : List Value} (h : w.ownsRow base e sz v n xs) {α β : Type} [DecidableEq α] {kV : α → Value} {vV : β → Value} {m : Nat} {F : α → Option β} (hm : MpIs kV vV w m F) : v.ownBlock ≠ some m := by
  obtain ⟨L, hL, _⟩ := hm
  rcases h.2 with ⟨rfl, _⟩ | ⟨g, cap, cur, rfl, _, hh, _⟩
  · simp [Value.ownBlock]
  · intro e
    have : g = m := by simpa [Value.ownBlock] using e
    subst this
    have h2 : w.heap[g]? = some (.map (mkE kV vV L) L.length) := hL
    rw [hh] at h2; cases h2
theorem blk_isMap {w : World} {g : Nat} {t : TypeId} {cs : Array Value} (h : Blk w g t cs) {α β : Type} [DecidableEq α] {kV : α → Value} {vV : β → Value} {m : Nat} {F : α → Option β} (hm : MpIs kV vV w m F) : g ≠ m := by
  obtain ⟨L, hL, _⟩ := hm
  rintro rfl
  have h2 : w.heap[g]? = some (.map (mkE kV vV L) L.length) := hL
  have h1 : w.heap[g]? = some (.cells cs t (0, 0)) := h
  rw [h1] at h2; cases h2
theorem vA_at {i : Nat} (hi : i < vals.length) : vals[i]? = some (vA vals i) := by simp [vA, hi]
theorem vA_set {i j : Nat} {v : Value} (hj : j < vals.length) : vA (vals.set i v) j = if j = i then v else vA vals j := by
  simp only [vA, List.getD_eq_getElem?_getD, List.getElem?_set]
  by_cases h : i = j
  · subst h; simp [hj]
  · rw [if_neg h, if_neg (fun e => h e.symm)]
/-- the outer row. -/
theorem NetM.outer (h : NetM W base q mb sp N R vo vals) (hN : 0 < N) : ∃ g cap, vo = .slice (some ⟨g, 0, none⟩) N cap ∧ base ≤ g ∧ g < W.heap.size ∧ N ≤ cap ∧ (∀ i, i < N → W.cell? ⟨g, i, none⟩ = some (vA vals i)) ∧ (∀ i, W.frozen? ⟨g, i, none⟩ = false) ∧ ∃ cs, W.heap[g]? = some (.cells cs 205 (0, 0)) := by
  have ho := h.out
  rcases ho.2 with ⟨_, h0⟩ | ⟨g, cap, cur, rfl, hb, hh, hnc, hcm, hsz, hc⟩
  · rw [h.len] at h0; omega
  · rw [h.len] at hnc
    refine ⟨g, cap, by rw [h.len], hb, (Array.getElem?_eq_some_iff.1 hh).1, hnc, fun i hi => ?_, fun i => by simp [World.frozen?, hh], cur, hh⟩
    rw [cell_of_row W g i cur _ (0, 0) hh, ← Array.getElem?_toList]
    have h1 := vA_at (vals := vals) (i := i) (by rw [h.len]; exact hi)
    rw [← h1]
    conv => rhs; rw [← hc]
    rw [List.getElem?_take, if_pos (by rw [h.len]; omega)]
/-- a row of arcs: its form. -/
theorem own_form {w : World} {base : Nat} {e : TypeId} {sz n : Nat} {v : Value} {xs : List Value} (h : w.ownsRow base e sz v n xs) : ∃ A c, v = .slice A n c := by
  rcases h.2 with ⟨rfl, rfl⟩ | ⟨g, cap, cur, rfl, _⟩
  · exact ⟨none, 0, rfl⟩
  · exact ⟨_, _, rfl⟩
theorem arc_row (h : NetM W base q mb sp N R vo vals) {i k : Nat} (hi : i < N) (hk : k < (R i).length) : ∃ g cap, vA vals i = .slice (some ⟨g, 0, none⟩) (R i).length cap ∧ base ≤ g ∧ g < W.heap.size ∧ W.cell? ⟨g, k * 3, none⟩ = some (.int .i64 ((R i)[k].tgt : Int)) ∧ W.cell? ⟨g, k * 3 + 1, none⟩ = some (.int .i64 (R i)[k].room) ∧ W.cell? ⟨g, k * 3 + 2, none⟩ = some (.int .i64 ((R i)[k].back : Int)) ∧ (∀ j, W.frozen? ⟨g, j, none⟩ = false) ∧ ∃ cs, W.heap[g]? = some (.cells cs 207 (0, 0)) := by
  have ho := h.rows i hi
  obtain ⟨g, cap, e, hb, hl, _, _, hc, hf⟩ := own_cell ho (by omega)
  have hlen : ((R i).flatMap cAr).length = (R i).length * 3 := flat_len cAr_len (R i)
  refine ⟨g, cap, e, hb, hl, ?_, ?_, ?_, hf, ?_⟩
  · rw [hc _ (by omega), ← Nat.add_zero (k * 3), flat_get cAr_len hk (by omega)]; rfl
  · rw [hc _ (by omega), flat_get cAr_len hk (by omega)]; rfl
  · rw [hc _ (by omega), flat_get cAr_len hk (by omega)]; rfl
  · rcases ho.2 with ⟨e2, h0⟩ | ⟨g2, cap2, cur, e2, _, hh, _⟩
    · omega
    · rw [e] at e2
      injection e2 with e2 _ _
      injection e2 with e2
      injection e2 with e2
      subst e2
      exact ⟨cur, hh⟩
/-- what is kept where only one row of arcs has turned. -/
theorem NetM.turn (h : NetM W base q mb sp N R vo vals) {S : Nat → Prop} (hf : Fr S W W') (h1 : ¬ S q) (h2 : ¬ S mb) (h3 : ∀ b, vo.ownBlock = some b → ¬ S b) :
    Blk W' q 185 #[.map (some mb), vo] ∧ W'.ownsRow base 205 1 vo vals.length vals ∧ (∀ j, j < N → (∀ b, (vA vals j).ownBlock = some b → ¬ S b) → W'.ownsRow base 207 3 (vA vals j) (R j).length ((R j).flatMap cAr)) ∧ MpIs cSp keyI W' mb (numF sp) :=
  ⟨h.blk.fr hf h1, own_fr h.out hf h3, fun j hj hn => own_fr (h.rows j hj) hf hn, h.num.fr hf h2⟩
def setR (R : Nat → List Ar) (i : Nat) (l : List Ar) : Nat → List Ar := fun j => if j = i then l else R j
/-- a room of an arc is set. -/
theorem NetM.room (h : NetM W base q mb sp N R vo vals) {i k : Nat} (hi : i < N) (hk : k < (R i).length) {g cap : Nat} (hg : vA vals i = .slice (some ⟨g, 0, none⟩) (R i).length cap) (x : Int) :
    NetM (W.setCell ⟨g, k * 3 + 1, none⟩ (.int .i64 x)) base q mb sp N (setR R i ((R i).set k ⟨(R i)[k].tgt, x, (R i)[k].back⟩)) vo vals ∧ NetFr base mb W (W.setCell ⟨g, k * 3 + 1, none⟩ (.int .i64 x)) := by
  have ho := h.rows i hi
  have hob : (vA vals i).ownBlock = some g := by rw [hg]; rfl
  have hF := Fr.set (R := fun b => b = g) W g (k * 3 + 1) (.int .i64 x) rfl
  have hq : ¬ q = g := fun e => own_blkne ho h.blk (by decide) (by rw [hob, e])
  have hm : ¬ mb = g := fun e => own_isMap ho h.num (by rw [hob, e])
  have hv : ∀ b, vo.ownBlock = some b → ¬ b = g := fun b hb e => own_ownne ho h.out (by decide) hob (e ▸ hb)
  obtain ⟨t1, t2, t3, t4⟩ := h.turn hF hq hm hv
  have hlen : ((R i).flatMap cAr).length = (R i).length * 3 := flat_len cAr_len (R i)
  obtain ⟨g2, _, e2, hb2, _, _, _, _, _, cs, hcs⟩ := arc_row h hi hk
  rw [hg] at e2
  injection e2 with e2 _ _
  injection e2 with e2
  injection e2 with e2
  subst e2
  refine ⟨⟨t1, t2, h.len, fun j hj => ?_, h.ne, t4, h.qb⟩, NetFr.set hcs (.inl rfl) hb2 _ _⟩
  unfold setR
  by_cases e : j = i
  · subst e
    rw [if_pos rfl]
    have := own_set ho hob (j := k * 3 + 1) (by omega) (.int .i64 x)
    rw [flat_set cAr_len hk (by omega) (a := ⟨(R j)[k].tgt, x, (R j)[k].back⟩) rfl] at this
    rw [List.length_set]
    exact this
  · rw [if_neg e]
    exact t3 j hj (fun b hb hbg => e (h.ne j i b hj hi hb (by rw [hob, hbg])))
/-- an arc is laid behind the others of a node. -/
theorem NetM.push (h : NetM W base q mb sp N R vo vals) {i : Nat} (hi : i < N) {a : Ar} {v' : Value} {W1 : World} (hg : W.grownBy W1 (vA vals i).ownBlock) (ho : W1.ownsRow base 207 3 v' (R i ++ [a]).length ((R i ++ [a]).flatMap cAr))
    (hat : ∀ b, v'.ownBlock = some b → (vA vals i).ownBlock = some b ∨ W.heap.size ≤ b) {go : Nat} (hgo : vo.ownBlock = some go) :
    NetM (W1.setCell ⟨go, i, none⟩ v') base q mb sp N (setR R i (R i ++ [a])) vo (vals.set i v') ∧ NetFr base mb W (W1.setCell ⟨go, i, none⟩ v') := by
  have hoi := h.rows i hi
  have hF := Fr.grown (R := fun b => (vA vals i).ownBlock = some b) hg (fun b hb => .inl hb)
  have hq : ¬ (vA vals i).ownBlock = some q := own_blkne hoi h.blk (by decide)
  have hm : ¬ (vA vals i).ownBlock = some mb := own_isMap hoi h.num
  have hv : ∀ b, vo.ownBlock = some b → ¬ (vA vals i).ownBlock = some b := fun b hb e => own_ownne hoi h.out (by decide) e hb
  obtain ⟨t1, t2, t3, t4⟩ := h.turn hF hq hm hv
  have hF2 := Fr.set (R := fun b => b = go) W1 go i v' rfl
  have hq2 : ¬ q = go := fun e => own_blkne h.out h.blk (by decide) (by rw [hgo, e])
  have hm2 : ¬ mb = go := fun e => own_isMap h.out h.num (by rw [hgo, e])
  have hvl : i < vals.length := by rw [h.len]; exact hi
  have hset := own_set t2 hgo (j := i) hvl v'
  have hcs : ∃ cs, W1.heap[go]? = some (.cells cs 205 (0, 0)) ∧ base ≤ go := by
    rcases t2.2 with ⟨e, _⟩ | ⟨g, cap, cur, e, hb, hh, _⟩
    · rw [e] at hgo; simp [Value.ownBlock] at hgo
    · rw [e] at hgo
      have : g = go := by simpa [Value.ownBlock] using hgo
      subst this
      exact ⟨cur, hh, hb⟩
  obtain ⟨cs, hcs, hbo⟩ := hcs
  refine ⟨⟨t1.fr hF2 hq2, by rw [List.length_set]; exact hset, by rw [List.length_set]; exact h.len, fun j hj => ?_, fun j k b hj hk h1 h2 => ?_, t4.fr hF2 hm2, h.qb⟩, (NetFr.grown hoi (.inl rfl) hg).trans (NetFr.set hcs (.inr (.inl rfl)) hbo _ _)⟩
  · rw [vA_set (by rw [h.len]; exact hj)]
    unfold setR
    have hgne : ∀ {u : Value} {m : Nat} {xs : List Value}, W1.ownsRow base 207 3 u m xs → ∀ b, u.ownBlock = some b → ¬ b = go := fun hu b hb e => own_ownne hu t2 (by decide) hb (by rw [hgo, e])
    by_cases e : j = i
    · subst e
      rw [if_pos rfl, if_pos rfl]
      exact own_fr ho hF2 (hgne ho)
    · rw [if_neg e, if_neg e]
      have := t3 j hj (fun b hb hbi => e (h.ne j i b hj hi hb hbi))
      exact own_fr this hF2 (hgne this)
  · rw [vA_set (by rw [h.len]; exact hj)] at h1
    rw [vA_set (by rw [h.len]; exact hk)] at h2
    have key : ∀ x, x < N → x ≠ i → (vA vals x).ownBlock = some b → v'.ownBlock = some b → False := fun x hx hne e1 e2 => by
      rcases hat b e2 with h3 | h3
      · exact hne (h.ne x i b hx hi e1 h3)
      · have := own_lt (h.rows x hx) e1; omega
    by_cases ej : j = i <;> by_cases ek : k = i
    · omega
    · rw [if_pos ej] at h1; rw [if_neg ek] at h2; exact (key k hk ek h2 h1).elim
    · rw [if_neg ej] at h1; rw [if_pos ek] at h2; exact (key j hj ej h1 h2).elim
    · rw [if_neg ej] at h1; rw [if_neg ek] at h2; exact h.ne j k b hj hk h1 h2
/-- a node is laid behind the others. -/
theorem NetM.node (h : NetM W base q mb sp N R vo vals) (hR : R N = []) {vo' : Value} {W1 : World} (hg : W.grownBy W1 vo.ownBlock) (ho : W1.ownsRow base 205 1 vo' (vals.length + 1) (vals ++ [.slice none 0 0]))
    (hat : ∀ b, vo'.ownBlock = some b → vo.ownBlock = some b ∨ W.heap.size ≤ b) : NetM (W1.setCell ⟨q, 1, none⟩ vo') base q mb sp (N + 1) R vo' (vals ++ [.slice none 0 0]) ∧ NetFr base mb W (W1.setCell ⟨q, 1, none⟩ vo') := by
  have hF := Fr.grown (R := fun b => vo.ownBlock = some b) hg (fun b hb => .inl hb)
  have hq : ¬ vo.ownBlock = some q := own_blkne h.out h.blk (by decide)
  have hm : ¬ vo.ownBlock = some mb := own_isMap h.out h.num
  have t1 := h.blk.fr hF hq
  have t4 := h.num.fr hF hm
  have hF2 := Fr.set (R := fun b => b = q) W1 q 1 vo' rfl
  have hmq : ¬ mb = q := fun e => blk_isMap h.blk h.num e.symm
  have hset := t1.set_ 1 vo'
  simp only [List.setIfInBounds_toArray, List.set_cons_zero, List.set_cons_succ] at hset
  have hlen : (vals ++ [Value.slice none 0 0]).length = vals.length + 1 := by simp
  have hv : ∀ j, j < N → vA (vals ++ [Value.slice none 0 0]) j = vA vals j := fun j hj => by simp [vA, List.getElem?_append, show j < vals.length by rw [h.len]; exact hj]
  have hvN : vA (vals ++ [Value.slice none 0 0]) N = .slice none 0 0 := by rw [← h.len]; simp [vA]
  refine ⟨⟨hset, by rw [hlen]; exact own_fr ho hF2 (fun b hb e => own_blkne ho t1 (by decide) (by rw [hb, e])), by rw [hlen, h.len], fun j hj => ?_, fun j k b hj hk h1 h2 => ?_, t4.fr hF2 hmq, h.qb⟩, (NetFr.grown h.out (.inr (.inl rfl)) hg).trans (NetFr.set t1 (.inr (.inr rfl)) h.qb.1 _ _)⟩
  · rcases Nat.lt_succ_iff_lt_or_eq.1 hj with hj | hj
    · rw [hv j hj]
      have := own_fr (h.rows j hj) hF (fun b hb e => own_ownne (h.rows j hj) h.out (by decide) hb e)
      exact own_fr this hF2 (fun b hb e => own_blkne this t1 (by decide) (by rw [hb, e]))
    · subst hj
      rw [hvN, hR]
      exact ⟨by simp, .inl ⟨rfl, rfl⟩⟩
  · rcases Nat.lt_succ_iff_lt_or_eq.1 hj with hj | hj
    · rcases Nat.lt_succ_iff_lt_or_eq.1 hk with hk | hk
      · rw [hv j hj] at h1; rw [hv k hk] at h2; exact h.ne j k b hj hk h1 h2
      · subst hk; rw [hvN] at h2; simp [Value.ownBlock] at h2
    · subst hj; rw [hvN] at h1; simp [Value.ownBlock] at h1
end
end Go.Proofs.Ythihdiilokdidaa
end

section
namespace Go.Proofs.Ythihdiilokdidaa
open Go.RowKit
attribute [local go_sem] Ex.cell? Ex.frozen?

theorem arcs_info : (Try.prog.info? 205).map (fun i => (i.zero, i.size, i.bytes)) = some (some (.slice none 0 0), 1, 24) := by kernel_rfl
theorem int_infoS : (Try.prog.info? 3).map (fun i => (i.zero, i.size, i.bytes)) = some (some (.int .i64 0), 1, 8) := by kernel_rfl
theorem numF_in {sp : List Spot} {x : Spot} (h : x ∈ sp) : numF sp x = some (sp.idxOf x : Int) := by unfold numF; rw [if_pos h]
theorem numF_out {sp : List Spot} {x : Spot} (h : x ∉ sp) : numF sp x = none := by unfold numF; rw [if_neg h]
/-- a spot that has a number, or gets the next one. -/
def addS (sp : List Spot) (s : Spot) : List Spot := if s ∈ sp then sp else sp ++ [s]
theorem addS_in {sp : List Spot} {s : Spot} (h : s ∈ sp) : addS sp s = sp := by unfold addS; rw [if_pos h]
theorem addS_out {sp : List Spot} {s : Spot} (h : s ∉ sp) : addS sp s = sp ++ [s] := by unfold addS; rw [if_neg h]
theorem numF_snoc {sp : List Spot} {s : Spot} (h : s ∉ sp) (x : Spot) : (if x = s then some ((sp.length : Nat) : Int) else numF sp x) = numF (sp ++ [s]) x := by
  unfold numF
  by_cases e : x = s
  · subst e
    rw [if_pos rfl, if_pos (by simp), List.idxOf_append, if_neg h]
    simp
  · rw [if_neg e]
    by_cases h2 : x ∈ sp
    · rw [if_pos h2, if_pos (by simp [h2]), List.idxOf_append, if_pos h2]
    · rw [if_neg h2, if_neg (by simp [h2, e])]
theorem NetM.remap {W : World} {base q mb N : Nat} {sp sp' : List Spot} {R : Nat → List Ar} {vo : Value} {vals : List Value} (h : NetM W base q mb sp N R vo vals) {o : Obj} (hm : MpIs cSp keyI (W.putObj mb o) mb (numF sp')) : NetM (W.putObj mb o) base q mb sp' N R vo vals := by
  have hF := fr_putO (fun b => b = mb) W mb o rfl
  have hq : ¬ q = mb := blk_isMap h.blk h.num
  exact ⟨h.blk.fr hF hq, own_fr h.out hF (fun b hb e => own_isMap h.out h.num (by rw [hb, e])), h.len, fun i hi => own_fr (h.rows i hi) hF (fun b hb e => own_isMap (h.rows i hi) h.num (by rw [hb, e])), h.ne, hm, h.qb⟩
set_option maxRecDepth 100000 in
set_option maxHeartbeats 6400000 in
theorem node_any (base q mb : Nat) (sp : List Spot) (R : Nat → List Ar) (vo : Value) (vals : List Value) (s : Spot) (w : World) (hn : NetM w base q mb sp sp.length R vo vals) (hb : sp.length ≤ 1000) (hR : ∀ i, sp.length ≤ i → R i = []) :
    Calls Try.prog 109 #[.pointer (some ⟨q, 0, none⟩), cSp s] w fun e w' => e = .returned (.int .i64 ((addS sp s).idxOf s : Int)) ∧ ∃ vo' vals', NetM w' base q mb (addS sp s) (addS sp s).length R vo' vals' ∧ NetFr base mb w w' := by
  unfold cSp
  obtain ⟨N, hN⟩ : ∃ N, sp.length = N := ⟨_, rfl⟩
  have HN := Lib.hid hN
  rw [hN] at hn hb hR
  clear hN
  obtain ⟨Ao, co, rfl⟩ := own_form hn.out
  have hvl := hn.len
  rw [hvl] at hn
  have HVL := Lib.hid hvl
  clear hvl
  obtain ⟨i0, hi0, hz0, hz1, hz2⟩ := info_parts int_infoS
  by_cases hin : s ∈ sp
  · have hb1 := ex_alloc (Below.refl w.heap.size w) (.cells #[.int .i64 s.1, .int .i64 s.2] 169)
    have qs : Blk (w.alloc (.cells #[.int .i64 s.1, .int .i64 s.2] 169)) w.heap.size 169 #[.int .i64 s.1, .int .i64 s.2] := Blk.new _ _ _
    have hn1 := hn.below hb1
    have hf1 : NetFr base mb w (w.alloc (.cells #[.int .i64 s.1, .int .i64 s.2] 169)) := NetFr.below hb1
    go_enter Try.func109, Try.ntmps109
    go_upto_region 1 with fail
    generalize w.alloc (.cells #[.int .i64 s.1, .int .i64 s.2] 169) = V at *
    obtain ⟨ps, hps⟩ : ∃ p, w.heap.size = p := ⟨_, rfl⟩
    rw [hps] at qs ⊢
    have c0 : V.cell? ⟨q, 0, none⟩ = some (.map (some mb)) := hn1.blk.cell 0
    have c1 : V.cell? ⟨q, 1, none⟩ = some (.slice Ao N co) := hn1.blk.cell 1
    have lq := hn1.blk.lt
    have d0 : V.cell? ⟨ps, 0, none⟩ = some (.int .i64 s.1) := qs.cell 0
    have d1 : V.cell? ⟨ps, 1, none⟩ = some (.int .i64 s.2) := qs.cell 1
    have ls := qs.lt
    have hlk : ∀ X : Ex V, (Instr.lookup 182 (.map (some mb)) (.agg #[.int .i64 s.1, .int .i64 s.2]) true).run Try.prog X.W = .ok (.tuple #[.int .i64 (sp.idxOf s : Int), .bool true]) X.W := fun X => by
      have := MpIs.at2 (et := 3) Try.underlying182 hi0 hz0 cSp_fd (hn1.num.below (X.h.mono (Nat.le_refl _))) s
      rw [numF_in hin] at this
      exact this
    refine wp_region_ext_mix 10 [(false, 0), (false, 1), (false, 2), (false, 3), (false, 4), (false, 5), (false, 6), (false, 7), (false, 8), (false, 9)] (by kernel_rfl) (by kernel_rfl) (by intro d _ _ _ _ h; cases d <;> exact h) ?_
    have D0 := (Below.refl V.heap.size V).drew
    repeat (refine mix_quiet rfl ?_; go_big_quiet_step (fail); refine wpQuiet_nil ?_)
    refine mix_nil rfl ?_
    have hn2 := hn1.below D0
    have hf2 := hf1.trans (NetFr.below (base := base) (mb := mb) D0)
    have HIN := Lib.hid hin
    clear hin hlk
    go_wp2
    go_ret
    exact ⟨by rw [addS_in HIN.out]; rfl, _, _, by rw [addS_in HIN.out, HN.out]; exact hn2, hf2⟩
  · have hb1 := ex_alloc (Below.refl w.heap.size w) (.cells #[.int .i64 s.1, .int .i64 s.2] 169)
    have qs : Blk (w.alloc (.cells #[.int .i64 s.1, .int .i64 s.2] 169)) w.heap.size 169 #[.int .i64 s.1, .int .i64 s.2] := Blk.new _ _ _
    have hn1 := hn.below hb1
    have hf1 : NetFr base mb w (w.alloc (.cells #[.int .i64 s.1, .int .i64 s.2] 169)) := NetFr.below hb1
    go_enter Try.func109, Try.ntmps109
    go_upto_region 1 with fail
    generalize w.alloc (.cells #[.int .i64 s.1, .int .i64 s.2] 169) = V at *
    obtain ⟨ps, hps⟩ : ∃ p, w.heap.size = p := ⟨_, rfl⟩
    rw [hps] at qs ⊢
    have c0 : V.cell? ⟨q, 0, none⟩ = some (.map (some mb)) := hn1.blk.cell 0
    have c1 : V.cell? ⟨q, 1, none⟩ = some (.slice Ao N co) := hn1.blk.cell 1
    have lq := hn1.blk.lt
    have d0 : V.cell? ⟨ps, 0, none⟩ = some (.int .i64 s.1) := qs.cell 0
    have d1 : V.cell? ⟨ps, 1, none⟩ = some (.int .i64 s.2) := qs.cell 1
    have ls := qs.lt
    have hlk : ∀ X : Ex V, (Instr.lookup 182 (.map (some mb)) (.agg #[.int .i64 s.1, .int .i64 s.2]) true).run Try.prog X.W = .ok (.tuple #[.int .i64 0, .bool false]) X.W := fun X => by
      have := MpIs.at2 (et := 3) Try.underlying182 hi0 hz0 cSp_fd (hn1.num.below (X.h.mono (Nat.le_refl _))) s
      rw [numF_out hin] at this
      exact this
    refine wp_region_ext_mix 10 [(false, 0), (false, 1), (false, 2), (false, 3), (false, 4), (false, 5), (false, 6), (false, 7), (false, 8), (false, 9)] (by kernel_rfl) (by kernel_rfl) (by intro d _ _ _ _ h; cases d <;> exact h) ?_
    have D0 := (Below.refl V.heap.size V).drew
    repeat (refine mix_quiet rfl ?_; go_big_quiet_step (fail); refine wpQuiet_nil ?_)
    refine mix_nil rfl ?_
    have hn2 := hn1.below D0
    have hf2 := hf1.trans (NetFr.below (base := base) (mb := mb) D0)
    have qs2 := qs.below D0 qs.lt
    clear hlk c0 c1 lq d0 d1 ls
    generalize V.drew = V2 at *
    have c02 : V2.cell? ⟨q, 0, none⟩ = some (.map (some mb)) := hn2.blk.cell 0
    have c12 : V2.cell? ⟨q, 1, none⟩ = some (.slice Ao N co) := hn2.blk.cell 1
    have lq2 := hn2.blk.lt
    have d02 : V2.cell? ⟨ps, 0, none⟩ = some (.int .i64 s.1) := qs2.cell 0
    have d12 : V2.cell? ⟨ps, 1, none⟩ = some (.int .i64 s.2) := qs2.cell 1
    have ls2 := qs2.lt
    go_upto_region 4 with fail
    refine wp_region_ext_mix 10 [(false, 0), (false, 1), (false, 2), (false, 3), (false, 4), (false, 5), (false, 6), (false, 7), (false, 8), (false, 9)] (by kernel_rfl) (by kernel_rfl) (by intro d _ _ _ _ h; cases d <;> exact h) ?_
    have D1 := (Below.refl V2.heap.size V2).drew
    repeat (refine mix_quiet rfl ?_; go_big_quiet_step (fail); refine wpQuiet_nil ?_)
    refine mix_nil rfl ?_
    have hn3 := hn2.below D1
    have hf3 := hf2.trans (NetFr.below (base := base) (mb := mb) D1)
    have qs3 := qs2.below D1 qs2.lt
    clear c02 c12 lq2 d02 d12 ls2
    generalize V2.drew = V3 at *
    obtain ⟨ob, hup, hmp⟩ := MpIs.put (et := 3) Try.underlying182 cSp_fd hn3.num s ((N : Nat) : Int)
    have hmp2 := hmp.congr (F' := numF (sp ++ [s])) (fun x => by rw [← numF_snoc hin, HN.out])
    unfold cSp keyI at hup
    have hn4 := hn3.remap hmp2
    have hf4 := hf3.trans (NetFr.putO (base := base) (mb := mb) (w := V3) (o := ob) hn3.qb.2)
    have hm3 : ps ≠ mb := blk_isMap qs3 hn3.num
    have qs4 := qs3.fr (fr_putO (fun b => b = mb) V3 mb ob rfl) hm3
    have HMP := Lib.hid hmp2
    clear hmp hmp2 qs qs2 qs3
    go_upto_region 5 with fail
    clear hup
    generalize V3.putObj mb ob = V4 at *
    have c04 : V4.cell? ⟨q, 0, none⟩ = some (.map (some mb)) := hn4.blk.cell 0
    have c14 : V4.cell? ⟨q, 1, none⟩ = some (.slice Ao N co) := hn4.blk.cell 1
    have lq4 := hn4.blk.lt
    have d04 : V4.cell? ⟨ps, 0, none⟩ = some (.int .i64 s.1) := qs4.cell 0
    have d14 : V4.cell? ⟨ps, 1, none⟩ = some (.int .i64 s.2) := qs4.cell 1
    have ls4 := qs4.lt
    have X5 := ex_alloc (Below.refl V4.heap.size V4) (.cells #[.slice none 0 0] 205)
    have hn5 := hn4.below X5
    have hf5 := hf4.trans (NetFr.below (base := base) (mb := mb) X5)
    have qs5 := qs4.below X5 ls4
    obtain ⟨i1, hi1, hy0, hy1, hy2⟩ := info_parts arcs_info
    have c63 : vals.length + 1 ≤ maxLen := by rw [HVL.out]; unfold maxLen; omega
    have cby : (vals.length + 1) * 24 ≤ 140737488355328 := by rw [HVL.out]; omega
    have hbase : base ≤ (V4.alloc (.cells #[.slice none 0 0] 205)).heap.size := by have := hn5.qb.1; have := hn5.blk.lt; omega
    have ho5 := hn5.out
    skip
    go_wp2_with (refine pause_at 34 rfl ?_)
    refine Paused.mk ?_
    refine wpList_append_lies _ rfl _ _ _ rfl base 205 i1 _ 1 24 Try.underlying183 hi1 hy0 hy1 hy2 rfl (by omega) (.slice Ao N co) _ _ rfl ho5 ⟨V4.heap.size, 0, none⟩ 1 1 [.slice none 0 0] rfl rfl (World.news_of_block (heap_alloc_new V4 _)) (by simp [Value.oneCell']) (by omega) c63 cby hbase (V4.heap.size + 1) (by simp) ?_
    intro gg cap w1 hown' hgrow hat hlt'
    obtain ⟨hn6, hf6⟩ := hn5.node (hR N (Nat.le_refl _)) (vo' := (Value.slice (some ⟨gg, 0, none⟩) (vals.length + 1) cap)) hgrow hown' (fun b hb => by
      have : gg = b := by simpa [Value.ownBlock] using hb
      subst this
      exact hat.imp id (fun e => by simp; omega))
    have hf7 := hf5.trans hf6
    have hqn : ¬ (Value.slice Ao N co).ownBlock = some q := own_blkne ho5 hn5.blk (by decide)
    have qb := hn5.blk.grown hgrow (fun e => hqn e.symm)
    have z1 : w1.cell? ⟨q, 1, none⟩ = some (.slice Ao N co) := qb.cell 1
    have z2 := qb.frozen 1
    have z3 := qb.lt
    have hsn : ¬ (Value.slice Ao N co).ownBlock = some ps := own_blkne ho5 qs5 (by decide)
    have qs6 := qs5.grown hgrow (fun e => hsn e.symm)
    have hpq : ps ≠ q := blk_ne qs6 qb (by decide)
    have qs7 := qs6.far (p := ⟨q, 1, none⟩) hpq (Value.slice (some ⟨gg, 0, none⟩) (vals.length + 1) cap)
    have HN6 := Lib.hid hn6
    clear hn6 c04 c14 lq4 d04 d14 ls4 hf6 hown'
    go_upto_region 6 with fail
    have hn6 := HN6.out
    clear HN6 z1 z2 z3 qb
    generalize w1.setCell ⟨q, 1, none⟩ (Value.slice (some ⟨gg, 0, none⟩) (vals.length + 1) cap) = V6 at *
    have c0 : V6.cell? ⟨q, 0, none⟩ = some (.map (some mb)) := hn6.blk.cell 0
    have lq := hn6.blk.lt
    have d0 : V6.cell? ⟨ps, 0, none⟩ = some (.int .i64 s.1) := qs7.cell 0
    have d1 : V6.cell? ⟨ps, 1, none⟩ = some (.int .i64 s.2) := qs7.cell 1
    have ls := qs7.lt
    have hlk : ∀ X : Ex V6, (Instr.lookup 182 (.map (some mb)) (.agg #[.int .i64 s.1, .int .i64 s.2]) false).run Try.prog X.W = .ok (.int .i64 (N : Int)) X.W := fun X => by
      have := MpIs.at_ (et := 3) Try.underlying182 cSp_fd (hn6.num.below (X.h.mono (Nat.le_refl _))) s (v := (N : Int)) (by rw [← numF_snoc hin, if_pos rfl, HN.out])
      exact this
    refine wp_region_ext_mix 6 [(false, 0), (false, 1), (false, 2), (false, 3), (false, 4), (false, 5)] (by kernel_rfl) (by kernel_rfl) (by intro d _ _ _ _ h; cases d <;> exact h) ?_
    have D6 := (Below.refl V6.heap.size V6).drew
    repeat (refine mix_quiet rfl ?_; go_big_quiet_step (fail); refine wpQuiet_nil ?_)
    refine mix_nil rfl ?_
    have hn7 := hn6.below D6
    have hf8 := hf7.trans (NetFr.below (base := base) (mb := mb) D6)
    have HIN := Lib.hid hin
    clear hin hlk
    go_wp2
    go_ret
    exact ⟨by rw [addS_out HIN.out, List.idxOf_append, if_neg HIN.out]; simp [HN.out], _, _, by rw [addS_out HIN.out, List.length_append, HN.out]; exact hn7, hf8⟩
end Go.Proofs.Ythihdiilokdidaa
end

section
namespace Go.Proofs.Ythihdiilokdidaa
open Go.RowKit
attribute [local go_sem] Ex.cell? Ex.frozen? Gx.cell?

theorem arc_info : (Try.prog.info? 207).map (fun i => (i.zero, i.size, i.bytes)) = some (some (.agg #[.int .i64 0, .int .i64 0, .int .i64 0]), 3, 24) := by kernel_rfl
theorem NetM.mid {W W1 : World} {base q mb N : Nat} {sp : List Spot} {R : Nat → List Ar} {vo : Value} {vals : List Value} (h : NetM W base q mb sp N R vo vals) {i : Nat} (hi : i < N) (hg : W.grownBy W1 (vA vals i).ownBlock) {go cap : Nat} (hgo : vo = .slice (some ⟨go, 0, none⟩) N cap) :
    (∀ j, j < N → W1.cell? ⟨go, j, none⟩ = some (vA vals j)) ∧ (∀ x, W1.frozen? ⟨go, x, none⟩ = false) ∧ go < W1.heap.size := by
  have hF := Fr.grown (R := fun b => (vA vals i).ownBlock = some b) hg (fun b hb => .inl hb)
  have hoi := h.rows i hi
  obtain ⟨t1, t2, t3, t4⟩ := h.turn hF (own_blkne hoi h.blk (by decide)) (own_isMap hoi h.num) (fun b hb e => own_ownne hoi h.out (by decide) e hb)
  obtain ⟨g, c, e, _, hl, _, _, hc, hf⟩ := own_cell t2 (by rw [h.len]; omega)
  rw [hgo] at e
  injection e with e _ _
  injection e with e
  injection e with e
  subst e
  exact ⟨fun j hj => (hc j (by rw [h.len]; exact hj)).trans (vA_at (by rw [h.len]; exact hj)), hf, hl⟩
set_option maxRecDepth 100000 in
set_option maxHeartbeats 6400000 in
theorem join_any (base q mb N : Nat) (sp : List Spot) (R : Nat → List Ar) (vo : Value) (vals : List Value) (u v : Nat) (c : Int) (w : World) (hn : NetM w base q mb sp N R vo vals) (hu : u < N) (hv : v < N) (huv : u ≠ v) (hbR : ∀ i, i < N → (R i).length ≤ 1000) :
    Calls Try.prog 110 #[.pointer (some ⟨q, 0, none⟩), .int .i64 (u : Int), .int .i64 (v : Int), .int .i64 c] w fun e w' => e = .returned (.tuple #[]) ∧ ∃ vals', NetM w' base q mb sp N (fun i => R i ++ if i = u then [⟨v, c, (R v).length⟩] else if i = v then [⟨u, 0, (R u).length⟩] else []) vo vals' ∧ NetFr base mb w w' := by
  obtain ⟨go, co, rfl, hbg, hglw, hco, hcsw, hfzw, cs0, hcs0⟩ := hn.outer (by omega)
  have HCSw := Lib.hid hcsw
  clear hcsw hfzw hcs0
  obtain ⟨i1, hi1, hy0, hy1, hy2⟩ := info_parts arc_info
  have HI0 := Lib.hid hi1
  have hf0 := NetFr.refl base mb w
  have hbiw := hbR u hu
  obtain ⟨nu, hnu⟩ : ∃ n, (R u).length = n := ⟨_, rfl⟩
  have HNU := Lib.hid hnu
  obtain ⟨nv, hnv⟩ : ∃ n, (R v).length = n := ⟨_, rfl⟩
  have HNV := Lib.hid hnv
  clear hi1 hnu hnv
  go_enter Try.func110, Try.ntmps110
  obtain ⟨Aiw, ciw, hAiw⟩ := own_form (hn.rows u hu)
  obtain ⟨Ajw, cjw, hAjw⟩ := own_form (hn.rows v hv)
  obtain ⟨niw, hniw⟩ : ∃ n, (R u).length = n := ⟨_, rfl⟩
  obtain ⟨njw, hnjw⟩ : ∃ n, (R v).length = n := ⟨_, rfl⟩
  rw [hniw] at hAiw
  rw [hnjw] at hAjw
  have hci : w.cell? ⟨go, u, none⟩ = some (.slice Aiw niw ciw) := hAiw ▸ HCSw.out u hu
  have hcj : w.cell? ⟨go, v, none⟩ = some (.slice Ajw njw cjw) := hAjw ▸ HCSw.out v hv
  have hq1 : w.cell? ⟨q, 1, none⟩ = some (.slice (some ⟨go, 0, none⟩) N co) := hn.blk.cell 1
  have lq := hn.blk.lt
  have lgo := hglw
  have HIo := hn.rows u hu
  rw [hAiw, hniw] at HIo
  have nq : ¬ some q = (Value.slice Aiw niw ciw).ownBlock := fun e => own_blkne HIo hn.blk (by decide) e.symm
  have ng : ¬ some go = (Value.slice Aiw niw ciw).ownBlock := fun e => own_ownne HIo hn.out (by decide) e.symm rfl
  have HI1 := Lib.hid hAiw
  have HJ1 := Lib.hid hAjw
  have HNI := Lib.hid hniw
  have HNJw := Lib.hid hnjw
  clear hAiw hAjw hniw hnjw
  go_upto_region 0 with fail
  refine wp_region_gx_mix (Value.slice Aiw niw ciw).ownBlock 26 [(false, 0), (false, 1), (false, 2), (false, 3), (false, 4), (false, 5), (false, 6), (false, 7), (false, 8), (false, 9), (false, 10), (false, 11), (false, 12), (false, 13), (false, 14), (false, 15), (false, 16), (false, 17), (false, 18), (false, 19), (false, 20), (false, 21), (false, 22), (true, 23), (true, 24), (false, 25)] (by kernel_rfl) (by kernel_rfl) (by intro d _ _ _ _ h; cases d <;> exact h) ?_
  repeat (refine mix_quiet rfl ?_; go_big_quiet_step (fail); refine wpQuiet_nil ?_)
  refine mix_loud rfl ?_
  have hX1 : Below w.heap.size w (w.alloc (.cells #[.int .i64 (v : Int), .int .i64 c, .int .i64 (njw : Int)] 207)).drew := (ex_alloc (Below.refl w.heap.size w) _).drew
  have hn1 := hn.below hX1
  have y4 := own_below HIo hX1
  have hnews := World.news_of_block (w := (w.alloc (.cells #[.int .i64 (v : Int), .int .i64 c, .int .i64 (njw : Int)] 207)).drew) (heap_alloc_new w _)
  have c63 : niw + 1 ≤ maxLen := by have := hbiw; rw [HNI.out] at this; unfold maxLen; omega
  have cby : (niw + 1) * 24 ≤ 140737488355328 := by have := hbiw; rw [HNI.out] at this; omega
  have hbase : base ≤ (w.alloc (.cells #[.int .i64 (v : Int), .int .i64 c, .int .i64 (njw : Int)] 207)).drew.heap.size := by have := hn.qb.1; have := hn.blk.lt; have := hX1.size; omega
  go_wp2_with fail
  refine ⟨inGx (grown_row hX1), ?_⟩
  refine mix_loud rfl ?_
  go_wp2_with (refine pause_at 32 rfl ?_)
  refine Paused.mk ?_
  refine wpList_append_lies _ rfl _ _ _ rfl base 207 i1 _ 3 24 Try.underlying205 HI0.out hy0 hy1 hy2 rfl (by omega) (.slice Aiw niw ciw) _ _ rfl y4 ⟨w.heap.size, 0, none⟩ 1 1 [.int .i64 (v : Int), .int .i64 c, .int .i64 (njw : Int)] rfl rfl hnews (by simp [Value.oneCell']) (by omega) c63 cby hbase (w.heap.size + 1) (by simp) ?_
  intro gg cap w1 hown' hgrow hat hlt'
  have hg1 : w.grownBy w1 (Value.slice Aiw niw ciw).ownBlock := (grown_row hX1).andThen hgrow (fun j hj => .inr hj)
  go_wp2_with fail
  refine ⟨inGx hg1, ?_⟩
  repeat (refine mix_quiet rfl ?_; go_big_quiet_step (fail); refine wpQuiet_nil ?_)
  have hgrow2 := hgrow
  rw [← HI1.out] at hgrow2
  obtain ⟨m1, m2, m3⟩ := hn1.mid hu hgrow2 rfl
  have hown2 : w1.ownsRow base 207 3 (.slice (some ⟨gg, 0, none⟩) (niw + 1) cap) (R u ++ [(⟨v, c, njw⟩ : Ar)]).length ((R u ++ [(⟨v, c, njw⟩ : Ar)]).flatMap cAr) := by rw [List.length_append, HNI.out, List.flatMap_append]; exact hown'
  obtain ⟨hn2, hf2⟩ := hn1.push hu hgrow2 hown2 (fun b hb => by
    have : gg = b := by simpa [Value.ownBlock] using hb
    subst this
    rw [HI1.out]
    exact hat.imp id (fun e => by have := hX1.size; simp at *; omega)) (go := go) rfl
  have hf3 := (hf0.trans (NetFr.below hX1)).trans hf2
  have m0 := m1 u hu
  rw [HI1.out] at m0
  have HN2 := Lib.hid hn2
  clear hn2 hf2 hown' hown2 hgrow hgrow2 hg1 hX1 hn1 y4 hnews m1
  refine mix_nil (r := [_]) rfl ?_
  go_upto_region 1 with fail
  have hn2 := HN2.out
  clear HN2 m0 m2 m3 hci hcj hq1 lq lgo HIo nq ng
  generalize w1.setCell ⟨go, u, none⟩ (.slice (some ⟨gg, 0, none⟩) (niw + 1) cap) = V at *
  have HBI : Hid (∀ j, (setR R u (R u ++ [(⟨v, c, njw⟩ : Ar)]) j).length ≤ (R j).length + 1) := Lib.hid (fun j => by unfold setR; split <;> simp_all)
  obtain ⟨go2, co2, e2, hbg2, hglV, hco2, hcsV, _, _, _⟩ := hn2.outer (by omega)
  injection e2 with e2 _ e2c
  injection e2 with e2
  injection e2 with e2 _
  subst e2 e2c
  have HCSV := Lib.hid hcsV
  clear hcsV
  have hbiV : (setR R u (R u ++ [(⟨v, c, njw⟩ : Ar)]) v).length ≤ 1000 := by unfold setR; rw [if_neg (fun e => huv e.symm)]; exact hbR v hv
  have hbig : (setR R u (R u ++ [(⟨v, c, njw⟩ : Ar)]) u).length ≤ 1001 := by unfold setR; rw [if_pos rfl, List.length_append]; have := hbR u hu; simp; omega
  obtain ⟨AiV, ciV, hAiV⟩ := own_form (hn2.rows v hv)
  obtain ⟨AjV, cjV, hAjV⟩ := own_form (hn2.rows u hu)
  obtain ⟨niV, hniV⟩ : ∃ n, ((setR R u (R u ++ [(⟨v, c, njw⟩ : Ar)])) v).length = n := ⟨_, rfl⟩
  obtain ⟨njV, hnjV⟩ : ∃ n, ((setR R u (R u ++ [(⟨v, c, njw⟩ : Ar)])) u).length = n := ⟨_, rfl⟩
  rw [hniV] at hAiV
  rw [hnjV] at hAjV
  have hci : V.cell? ⟨go, v, none⟩ = some (.slice AiV niV ciV) := hAiV ▸ HCSV.out v hv
  have hcj : V.cell? ⟨go, u, none⟩ = some (.slice AjV njV cjV) := hAjV ▸ HCSV.out u hu
  have hq1 : V.cell? ⟨q, 1, none⟩ = some (.slice (some ⟨go, 0, none⟩) N co) := hn2.blk.cell 1
  have lq := hn2.blk.lt
  have lgo := hglV
  have HIo := hn2.rows v hv
  rw [hAiV, hniV] at HIo
  have nq : ¬ some q = (Value.slice AiV niV ciV).ownBlock := fun e => own_blkne HIo hn2.blk (by decide) e.symm
  have ng : ¬ some go = (Value.slice AiV niV ciV).ownBlock := fun e => own_ownne HIo hn2.out (by decide) e.symm rfl
  have HI1 := Lib.hid hAiV
  have HJ1 := Lib.hid hAjV
  have HNI := Lib.hid hniV
  have HNJV := Lib.hid hnjV
  clear hAiV hAjV hniV hnjV
  obtain ⟨nb, hnb⟩ : ∃ nb, njV = nb + 1 := ⟨nu, by rw [← HNJV.out]; simp [setR, HNU.out]⟩
  have hwb : IntKind.i64.wrap ((njV : Int) - 1) = (nb : Int) := by rw [IntWalk.i64_in _ (by have := HNJV.out; have := hbig; simp [setR] at this; omega)]; omega
  have HNB := Lib.hid hnb
  clear hnb
  go_upto_region 1 with fail
  refine wp_region_gx_mix (Value.slice AiV niV ciV).ownBlock 26 [(false, 0), (false, 1), (false, 2), (false, 3), (false, 4), (false, 5), (false, 6), (false, 7), (false, 8), (false, 9), (false, 10), (false, 11), (false, 12), (false, 13), (false, 14), (false, 15), (false, 16), (false, 17), (false, 18), (false, 19), (false, 20), (false, 21), (false, 22), (true, 23), (true, 24), (false, 25)] (by kernel_rfl) (by kernel_rfl) (by intro d _ _ _ _ h; cases d <;> exact h) ?_
  repeat (refine mix_quiet rfl ?_; go_big_quiet_step (fail); refine wpQuiet_nil ?_)
  refine mix_loud rfl ?_
  have hX1 : Below V.heap.size V (V.alloc (.cells #[.int .i64 (u : Int), .int .i64 0, .int .i64 (nb : Int)] 207)).drew := (ex_alloc (Below.refl V.heap.size V) _).drew
  have hn1 := hn2.below hX1
  have y4 := own_below HIo hX1
  have hnews := World.news_of_block (w := (V.alloc (.cells #[.int .i64 (u : Int), .int .i64 0, .int .i64 (nb : Int)] 207)).drew) (heap_alloc_new V _)
  have c63 : niV + 1 ≤ maxLen := by have := hbiV; rw [HNI.out] at this; unfold maxLen; omega
  have cby : (niV + 1) * 24 ≤ 140737488355328 := by have := hbiV; rw [HNI.out] at this; omega
  have hbase : base ≤ (V.alloc (.cells #[.int .i64 (u : Int), .int .i64 0, .int .i64 (nb : Int)] 207)).drew.heap.size := by have := hn2.qb.1; have := hn2.blk.lt; have := hX1.size; omega
  go_wp2_with fail
  refine ⟨inGx (grown_row hX1), ?_⟩
  refine mix_loud rfl ?_
  go_wp2_with (refine pause_at 58 rfl ?_)
  refine Paused.mk ?_
  refine wpList_append_lies _ rfl _ _ _ rfl base 207 i1 _ 3 24 Try.underlying205 HI0.out hy0 hy1 hy2 rfl (by omega) (.slice AiV niV ciV) _ _ rfl y4 ⟨V.heap.size, 0, none⟩ 1 1 [.int .i64 (u : Int), .int .i64 0, .int .i64 (nb : Int)] rfl rfl hnews (by simp [Value.oneCell']) (by omega) c63 cby hbase (V.heap.size + 1) (by simp) ?_
  intro gg cap w1 hown' hgrow hat hlt'
  have hg1 : V.grownBy w1 (Value.slice AiV niV ciV).ownBlock := (grown_row hX1).andThen hgrow (fun j hj => .inr hj)
  go_wp2_with fail
  refine ⟨inGx hg1, ?_⟩
  repeat (refine mix_quiet rfl ?_; go_big_quiet_step (fail); refine wpQuiet_nil ?_)
  have hgrow2 := hgrow
  rw [← HI1.out] at hgrow2
  obtain ⟨m1, m2, m3⟩ := hn1.mid hv hgrow2 rfl
  have hown2 : w1.ownsRow base 207 3 (.slice (some ⟨gg, 0, none⟩) (niV + 1) cap) ((setR R u (R u ++ [(⟨v, c, njw⟩ : Ar)])) v ++ [(⟨u, 0, nb⟩ : Ar)]).length (((setR R u (R u ++ [(⟨v, c, njw⟩ : Ar)])) v ++ [(⟨u, 0, nb⟩ : Ar)]).flatMap cAr) := by rw [List.length_append, HNI.out, List.flatMap_append]; exact hown'
  obtain ⟨hn2, hf2⟩ := hn1.push hv hgrow2 hown2 (fun b hb => by
    have : gg = b := by simpa [Value.ownBlock] using hb
    subst this
    rw [HI1.out]
    exact hat.imp id (fun e => by have := hX1.size; simp at *; omega)) (go := go) rfl
  have hf3 := (hf3.trans (NetFr.below hX1)).trans hf2
  have m0 := m1 v hv
  rw [HI1.out] at m0
  have HN2 := Lib.hid hn2
  clear hn2 hf2 hown' hown2 hgrow hgrow2 hg1 hX1 hn1 y4 hnews m1
  refine mix_nil (r := [_]) rfl ?_
  have hnbu : (R u).length = nb := by have h1 := HNJV.out; have h2 := HNB.out; unfold setR at h1; rw [if_pos rfl, List.length_append] at h1; simp at h1; omega
  have hnjv : (R v).length = njw := HNJw.out
  have hR2 : (setR (setR R u (R u ++ [(⟨v, c, njw⟩ : Ar)])) v (setR R u (R u ++ [(⟨v, c, njw⟩ : Ar)]) v ++ [(⟨u, 0, nb⟩ : Ar)])) = fun i => R i ++ if i = u then [⟨v, c, (R v).length⟩] else if i = v then [⟨u, 0, (R u).length⟩] else [] := by
    funext i
    rw [hnbu, hnjv]
    unfold setR
    by_cases e : i = v
    · subst e; rw [if_pos rfl, if_neg (fun h => huv h.symm), if_neg (fun h => huv h.symm), if_pos rfl]
    · rw [if_neg e, if_neg e]
      by_cases e2 : i = u
      · subst e2; rw [if_pos rfl, if_pos rfl]
      · rw [if_neg e2, if_neg e2, List.append_nil]
  have hfin := HN2.out
  rw [hR2] at hfin
  have HFIN := Lib.hid hfin
  clear hfin hR2 hnbu hnjv HN2
  go_wp2
  refine bodyPost_end (v := .tuple #[]) (results_none Try.results110 _ _ _) rfl ⟨rfl, _, HFIN.out, hf3⟩
end Go.Proofs.Ythihdiilokdidaa
end

section
namespace Go.Proofs.Ythihdiilokdidaa
open Go.RowKit
attribute [local go_sem] Ex.cell? Ex.frozen? Gx.cell?

theorem VArr.neBlk {W : World} {b g n : Nat} {t t' : TypeId} {cs : Array Value} {f : Nat → Value} (h : VArr W b t n f) (hb : Blk W g t' cs) (ht : t ≠ t') : g ≠ b := by
  obtain ⟨_, h1, _⟩ := h
  exact fun e => blk_ne h1 hb ht e.symm
theorem VArr.nf {W W' : World} {base x b n : Nat} {t : TypeId} {f : Nat → Value} (h : VArr W b t n f) (hf : NetFr base x W W') (hm : b ≠ x) (ht : ¬ NetTy t) : VArr W' b t n f := by
  obtain ⟨cs, h1, h2⟩ := h
  exact ⟨cs, h1.nf hf hm ht, h2⟩
/-- what a walk looks at: the aim, what is seen, the net, itself. -/
structure Bx (W : World) (pt ps pn pw t bs N cs q : Nat) : Prop where
  t : Blk W pt 3 #[.int .i64 (t : Int)]
  s : Blk W ps 208 #[.slice (some ⟨bs, 0, none⟩) N cs]
  n : Blk W pn 181 #[.pointer (some ⟨q, 0, none⟩)]
  w : Blk W pw 194 #[.func (.func 128) #[] #[.pointer (some ⟨pt, 0, none⟩), .pointer (some ⟨ps, 0, none⟩), .pointer (some ⟨pn, 0, none⟩), .pointer (some ⟨pw, 0, none⟩)]]
/-- what a walk may turn: what is seen, and the arcs. -/
def WkR (vals : List Value) (N bs : Nat) (b : Nat) : Prop := b = bs ∨ ∃ i, i < N ∧ (vA vals i).ownBlock = some b
theorem NetM.notArc {W : World} {base q mb N : Nat} {sp : List Spot} {R : Nat → List Ar} {vo : Value} {vals : List Value} (h : NetM W base q mb sp N R vo vals) {bs n : Nat} {f : Nat → Value} (hv : VArr W bs 4 n f) {g : Nat} {t : TypeId} {cs : Array Value} (hg : Blk W g t cs) (h1 : 4 ≠ t) (h2 : 207 ≠ t) : ¬ WkR vals N bs g := by
  rintro (e | ⟨i, hi, e⟩)
  · exact hv.neBlk hg h1 e
  · exact own_blkne (h.rows i hi) hg h2 e
theorem NetM.notNew {W : World} {base q mb N : Nat} {sp : List Spot} {R : Nat → List Ar} {vo : Value} {vals : List Value} (h : NetM W base q mb sp N R vo vals) {bs n : Nat} {f : Nat → Value} (hv : VArr W bs 4 n f) {g : Nat} (hg : W.heap.size ≤ g) : ¬ WkR vals N bs g := by
  rintro (e | ⟨i, hi, e⟩)
  · have := hv.lt; omega
  · have := own_lt (h.rows i hi) e; omega
theorem Bx.fr {W W' : World} {pt ps pn pw t bs N cs q n base mb : Nat} {sp : List Spot} {R : Nat → List Ar} {vo : Value} {vals : List Value} {f : Nat → Value} (h : Bx W pt ps pn pw t bs N cs q) (hm : NetM W base q mb sp N R vo vals) (hv : VArr W bs 4 n f) (hf : Fr (WkR vals N bs) W W') : Bx W' pt ps pn pw t bs N cs q :=
  ⟨h.t.fr hf (hm.notArc hv h.t (by decide) (by decide)), h.s.fr hf (hm.notArc hv h.s (by decide) (by decide)), h.n.fr hf (hm.notArc hv h.n (by decide) (by decide)), h.w.fr hf (hm.notArc hv h.w (by decide) (by decide))⟩
theorem Bx.below {W W' : World} {pt ps pn pw t bs N cs q : Nat} (h : Bx W pt ps pn pw t bs N cs q) (hb : Below W.heap.size W W') : Bx W' pt ps pn pw t bs N cs q := ⟨h.t.below hb h.t.lt, h.s.below hb h.s.lt, h.n.below hb h.n.lt, h.w.below hb h.w.lt⟩
theorem wkTrans {vals : List Value} {N bs : Nat} {a b c : World} (h : Fr (WkR vals N bs) a b) (k : Fr (WkR vals N bs) b c) : Fr (WkR vals N bs) a c := h.trans k (fun _ _ h => h)
theorem NetM.frX {W W' : World} {base q mb N : Nat} {sp : List Spot} {R : Nat → List Ar} {vo : Value} {vals : List Value} (h : NetM W base q mb sp N R vo vals) {bs n : Nat} {f : Nat → Value} (hv : VArr W bs 4 n f) (hf : Fr (fun b => b = bs) W W') : NetM W' base q mb sp N R vo vals := by
  obtain ⟨cs, hb, _⟩ := hv
  have hq : ¬ q = bs := fun e => blk_ne h.blk hb (by decide) e
  have hm : ¬ mb = bs := fun e => blk_isMap hb h.num e.symm
  exact ⟨h.blk.fr hf hq, own_fr h.out hf (fun b hb2 e => own_blkne h.out hb (by decide) (by rw [hb2, e])), h.len, fun i hi => own_fr (h.rows i hi) hf (fun b hb2 e => own_blkne (h.rows i hi) hb (by decide) (by rw [hb2, e])), h.ne, h.num.fr hf hm, h.qb⟩
theorem arc_at {W : World} {base q mb N : Nat} {sp : List Spot} {R : Nat → List Ar} {vo : Value} {vals : List Value} (h : NetM W base q mb sp N R vo vals) {i k : Nat} {a : Ar} (hi : i < N) (ha : (R i)[k]? = some a) {g n cap : Nat} (hg : vA vals i = .slice (some ⟨g, 0, none⟩) n cap) :
    n = (R i).length ∧ k < (R i).length ∧ base ≤ g ∧ g < W.heap.size ∧ W.cell? ⟨g, k * 3, none⟩ = some (.int .i64 (a.tgt : Int)) ∧ W.cell? ⟨g, k * 3 + 1, none⟩ = some (.int .i64 a.room) ∧ W.cell? ⟨g, k * 3 + 2, none⟩ = some (.int .i64 (a.back : Int)) ∧ (∀ j, W.frozen? ⟨g, j, none⟩ = false) := by
  obtain ⟨hk, e⟩ := List.getElem?_eq_some_iff.1 ha
  obtain ⟨g2, c2, e2, h1, h2, r0, r1, r2, r3, _⟩ := arc_row h hi hk
  rw [hg] at e2
  injection e2 with e3 e4 _
  injection e3 with e3
  injection e3 with e3
  subst e3
  rw [e] at r0 r1 r2
  exact ⟨e4, hk, h1, h2, r0, r1, r2, r3⟩
theorem room_at {W : World} {base q mb N : Nat} {sp : List Spot} {R : Nat → List Ar} {vo : Value} {vals : List Value} (h : NetM W base q mb sp N R vo vals) {i k : Nat} {a : Ar} (hi : i < N) (ha : (R i)[k]? = some a) {g n cap : Nat} (hg : vA vals i = .slice (some ⟨g, 0, none⟩) n cap) (x : Int) :
    NetM (W.setCell ⟨g, k * 3 + 1, none⟩ (.int .i64 x)) base q mb sp N (setR R i ((R i).set k ⟨a.tgt, x, a.back⟩)) vo vals := by
  obtain ⟨e1, hk, _⟩ := arc_at h hi ha hg
  subst e1
  have := (h.room hi hk hg x).1
  rw [(List.getElem?_eq_some_iff.1 ha).2] at this
  exact this
theorem NetM.bsNe {W : World} {base q mb N : Nat} {sp : List Spot} {R : Nat → List Ar} {vo : Value} {vals : List Value} (h : NetM W base q mb sp N R vo vals) {bs n : Nat} {f : Nat → Value} (hv : VArr W bs 4 n f) {i : Nat} (hi : i < N) {g k c : Nat} (hg : vA vals i = .slice (some ⟨g, 0, none⟩) k c) : bs ≠ g := by
  obtain ⟨cs, hb, _⟩ := hv
  rintro rfl
  exact own_blkne (h.rows i hi) hb (by decide) (by rw [hg]; rfl)
/-- the loop over the arcs, in memory. -/
structure WkI (W V : World) (base q mb N t bs cs pt ps pn pw : Nat) (sp : List Spot) (vo : Value) (vals : List Value) (es : List Ed) (S : Nat → Bool) (x i : Nat) : Prop where
  out : ∃ S1, WkLoop N es S S1 x t i ∧ (∀ y, y < N → (fun y => if y = x then true else S y) y = true → S1 y = true) ∧ NetM V base q mb sp N (rowE es) vo vals ∧ VArr V bs 4 N (fun i => .bool (S1 i)) ∧ Bx V pt ps pn pw t bs N cs q ∧ Fr (WkR vals N bs) W V
/-- what a walk tells. -/
structure WkPost (W W' : World) (base q mb N t bs : Nat) (sp : List Spot) (vo : Value) (vals : List Value) (es : List Ed) (S : Nat → Bool) (x : Nat) (grams got : Int) : Prop where
  out : ∃ es' S', WalkIs N es es' S S' x t grams got ∧ NetM W' base q mb sp N (rowE es') vo vals ∧ VArr W' bs 4 N (fun i => .bool (S' i)) ∧ Fr (WkR vals N bs) W W'
theorem arc_le {N : Nat} {es : List Ed} {C : Int} (h : EdsOk N es) (hC : ∀ e ∈ es, e.cap ≤ C) {x i : Nat} {a : Ar} (ha : (rowE es x)[i]? = some a) : a.room ≤ C := by
  obtain ⟨k, e, sg, hA⟩ := arcAt h.ne ha
  have he := List.mem_of_getElem? hA.ed
  have h1 := hC e he
  have h2 := h.bd e he
  rcases hA.way with ⟨_, _, _, a4⟩ | ⟨_, _, _, a4⟩ <;> omega
theorem cap_shape {es es' : List Ed} {C : Int} (h : es'.map Ed.shape = es.map Ed.shape) (hC : ∀ e ∈ es, e.cap ≤ C) : ∀ e ∈ es', e.cap ≤ C := fun e he => by
  obtain ⟨f, hf, e2⟩ := shape_mem h he
  have := hC f hf
  simp only [Ed.shape, Prod.mk.injEq] at e2
  omega
theorem len_shape {es es' : List Ed} (h : es'.map Ed.shape = es.map Ed.shape) : es'.length = es.length := by simpa using congrArg List.length h
theorem cntE_le : ∀ (es : List Ed) (x : Nat), cntE es x ≤ es.length
  | [], _ => Nat.le_refl _
  | e :: l, x => by have := cntE_le l x; simp only [cntE, List.length_cons]; split <;> omega
set_option maxRecDepth 100000 in
set_option maxHeartbeats 12800000 in
theorem walk_any (base q mb N t bs cs pt ps pn pw : Nat) (sp : List Spot) (vo : Value) (vals : List Value) (C : Int) (hC : 0 ≤ C ∧ C ≤ 1099511627776) (ht : t < N) (hbs : base ≤ bs) (hN : N ≤ 1000) :
    ∀ (n : Nat) (es : List Ed) (S : Nat → Bool) (x : Nat) (grams : Int) (W : World), seenCnt S N < n → EdsOk N es → (∀ e ∈ es, e.cap ≤ C) → es.length ≤ 1000 → x < N → S x = false → S t = false → 0 < grams → grams ≤ 1048576 → Bx W pt ps pn pw t bs N cs q →
    NetM W base q mb sp N (rowE es) vo vals → VArr W bs 4 N (fun i => .bool (S i)) →
    Calls Try.prog 128 #[.int .i64 (x : Int), .int .i64 grams, .pointer (some ⟨pt, 0, none⟩), .pointer (some ⟨ps, 0, none⟩), .pointer (some ⟨pn, 0, none⟩), .pointer (some ⟨pw, 0, none⟩)] W fun e W' => ∃ got, e = .returned (.int .i64 got) ∧ WkPost W W' base q mb N t bs sp vo vals es S x grams got := by
  intro n
  induction n with
  | zero => intro es S x grams W h; omega
  | succ n ih =>
    intro es S x grams W hn ho hcap hel hx hSx hSt hg0 hg1 hB hM hV
    have HIH := Lib.hid ih
    clear ih
    have bt : W.cell? ⟨pt, 0, none⟩ = some (.int .i64 (t : Int)) := hB.t.cell 0
    have bs_ : W.cell? ⟨ps, 0, none⟩ = some (.slice (some ⟨bs, 0, none⟩) N cs) := hB.s.cell 0
    have bn : W.cell? ⟨pn, 0, none⟩ = some (.pointer (some ⟨q, 0, none⟩)) := hB.n.cell 0
    have bw : W.cell? ⟨pw, 0, none⟩ = some (.func (.func 128) #[] #[.pointer (some ⟨pt, 0, none⟩), .pointer (some ⟨ps, 0, none⟩), .pointer (some ⟨pn, 0, none⟩), .pointer (some ⟨pw, 0, none⟩)]) := hB.w.cell 0
    have lt := hB.t.lt
    have lS := hB.s.lt
    have ln := hB.n.lt
    have lw := hB.w.lt
    by_cases hxt : x = t
    · subst hxt
      have heq : ((x : Int) == (x : Int)) = true := by simp
      have HP : WkPost W W base q mb N x bs sp vo vals es S x grams grams := ⟨es, S, WalkIs.here ho hg0, hM, hV, Fr.refl _ _⟩
      have HP2 := Lib.hid HP
      clear HP
      go_enter Try.func128, Try.ntmps128
      go_wp2
      go_ret
      exact ⟨grams, rfl, HP2.out⟩
    have hne : ((x : Int) == (t : Int)) = false := by rw [beq_eq_false_iff_ne]; omega
    have HXT := Lib.hid hxt
    clear hxt
    have hVc := hV.cell hx
    rw [hSx] at hVc
    have hVf := hV.frozen
    have hVl := hV.lt
    have hV1 := hV.set (i := x) (.bool true) hx
    have hF1 := Fr.set (R := fun b => b = bs) W bs x (.bool true) rfl
    have hM1 := hM.frX hV hF1
    have hf1 : Fr (WkR vals N bs) W (W.setCell ⟨bs, x, none⟩ (.bool true)) := Fr.set W bs x _ (.inl rfl)
    have hB1 := hB.fr hM hV hf1
    have hV1' : VArr (W.setCell ⟨bs, x, none⟩ (.bool true)) bs 4 N (fun i => .bool ((fun y => if y = x then true else S y) i)) := hV1.ext (fun i _ => by show (if i = x then Value.bool true else .bool (S i)) = .bool (if i = x then true else S i); split <;> rfl)
    have hW0 : WkLoop N es S (fun y => if y = x then true else S y) x t 0 := WkLoop.start hSt HXT.out
    have hSn := seen_less hx hSx
    have HN : Hid (∀ S1 : Nat → Bool, (∀ y, y < N → (fun y => if y = x then true else S y) y = true → S1 y = true) → seenCnt S1 N < n) := Lib.hid (fun S1 h => by have := seen_mono (n := N) h; omega)
    obtain ⟨go, co, hvo, hbg, hgl, hco, hcs, _, _, _⟩ := hM1.outer (by omega)
    obtain ⟨Ax, cx, hAx⟩ := own_form (hM1.rows x hx)
    have HVO := Lib.hid hvo
    have HCS := Lib.hid hcs
    clear hcs
    obtain ⟨len, hlen⟩ : ∃ len, (rowE es x).length = len := ⟨_, rfl⟩
    rw [hlen] at hAx
    have hcx : (W.setCell ⟨bs, x, none⟩ (.bool true)).cell? ⟨go, x, none⟩ = some (.slice Ax len cx) := hAx ▸ HCS.out x hx
    have hq1 : (W.setCell ⟨bs, x, none⟩ (.bool true)).cell? ⟨q, 1, none⟩ = some (.slice (some ⟨go, 0, none⟩) N co) := HVO.out ▸ hM1.blk.cell 1
    have lq := hM1.blk.lt
    have hlb : len ≤ 1000 := by have := cntE_le es x; rw [← hlen, rowE_len]; omega
    have HAX := Lib.hid hAx
    have HLEN := Lib.hid hlen
    clear hlen hAx hvo
    have bt1 : (W.setCell ⟨bs, x, none⟩ (.bool true)).cell? ⟨pt, 0, none⟩ = some (.int .i64 (t : Int)) := hB1.t.cell 0
    have bs_1 : (W.setCell ⟨bs, x, none⟩ (.bool true)).cell? ⟨ps, 0, none⟩ = some (.slice (some ⟨bs, 0, none⟩) N cs) := hB1.s.cell 0
    have bn1 : (W.setCell ⟨bs, x, none⟩ (.bool true)).cell? ⟨pn, 0, none⟩ = some (.pointer (some ⟨q, 0, none⟩)) := hB1.n.cell 0
    have bw1 : (W.setCell ⟨bs, x, none⟩ (.bool true)).cell? ⟨pw, 0, none⟩ = some (.func (.func 128) #[] #[.pointer (some ⟨pt, 0, none⟩), .pointer (some ⟨ps, 0, none⟩), .pointer (some ⟨pn, 0, none⟩), .pointer (some ⟨pw, 0, none⟩)]) := hB1.w.cell 0
    have lt1 := hB1.t.lt
    have lS1 := hB1.s.lt
    have ln1 := hB1.n.lt
    have lw1 := hB1.w.lt
    have HV1 := Lib.hid hV1'
    have HM1 := Lib.hid hM1
    have HB1 := Lib.hid hB1
    clear hV1 hV1' hM1 hB1 hV hM hB hF1
    go_enter Try.func128, Try.ntmps128
    go_wp2_with fail
    have hV1 := HV1.out
    have hM1 := HM1.out
    have hB1 := HB1.out
    clear bt bs_ bn bw lt lS ln lw
    clear bt1 bs_1 bn1 bw1 lt1 lS1 ln1 lw1
    clear HV1 HM1 HB1 hcx hq1 lq hVc hVf hVl
    generalize W.setCell ⟨bs, x, none⟩ (.bool true) = W1 at *
    refine wp_loop (fun a V => Rel (fun a V => ∃ i : Nat, i ≤ len ∧ WkI W V base q mb N t bs cs pt ps pn pw sp vo vals es S x i ∧ ∃ u : Nat → Value, a = ⟨List.toArray (.int .i64 (x : Int) :: .int .i64 grams :: .pointer (some ⟨pt, 0, none⟩) :: .pointer (some ⟨ps, 0, none⟩) :: .pointer (some ⟨pn, 0, none⟩) :: .pointer (some ⟨pw, 0, none⟩) :: u 6 :: u 7 :: .int .i64 0 :: u 9 :: u 10 :: u 11 :: u 12 :: u 13 :: u 14 :: u 15 :: u 16 :: u 17 :: u 18 :: u 19 :: u 20 :: u 21 :: u 22 :: u 23 :: u 24 :: u 25 :: .int .i64 (len : Int) :: .int .i64 (i : Int) :: u 28 :: u 29 :: u 30 :: u 31 :: u 32 :: u 33 :: u 34 :: u 35 :: u 36 :: u 37 :: u 38 :: u 39 :: u 40 :: u 41 :: u 42 :: u 43 :: u 44 :: u 45 :: u 46 :: u 47 :: u 48 :: u 49 :: u 50 :: u 51 :: u 52 :: u 53 :: u 54 :: u 55 :: u 56 :: u 57 :: u 58 :: u 59 :: u 60 :: u 61 :: u 62 :: u 63 :: u 64 :: u 65 :: u 66 :: u 67 :: u 68 :: u 69 :: u 70 :: u 71 :: u 72 :: u 73 :: u 74 :: u 75 :: u 76 :: u 77 :: u 78 :: u 79 :: u 80 :: u 81 :: u 82 :: u 83 :: u 84 :: u 85 :: u 86 :: u 87 :: u 88 :: u 89 :: u 90 :: u 91 :: u 92 :: u 93 :: u 94 :: []), []⟩) a V) (fun a _ => len - (intOf (a.tmps.getD 27 undef)).toNat) ⟨⟨0, by omega, ⟨⟨_, hW0, fun y _ h => h, hM1, hV1, hB1, hf1⟩⟩, exFrame (by kernel_rfl)⟩⟩ ?_
    clear hW0 hM1 hV1 hB1 hf1 HCS hgl
    rintro a V ⟨⟨i, hi, ⟨⟨S1, hW, hmo, hM, hV, hB, hf⟩⟩, u, rfl⟩⟩
    have bt : V.cell? ⟨pt, 0, none⟩ = some (.int .i64 (t : Int)) := hB.t.cell 0
    have bs_ : V.cell? ⟨ps, 0, none⟩ = some (.slice (some ⟨bs, 0, none⟩) N cs) := hB.s.cell 0
    have bn : V.cell? ⟨pn, 0, none⟩ = some (.pointer (some ⟨q, 0, none⟩)) := hB.n.cell 0
    have bw : V.cell? ⟨pw, 0, none⟩ = some (.func (.func 128) #[] #[.pointer (some ⟨pt, 0, none⟩), .pointer (some ⟨ps, 0, none⟩), .pointer (some ⟨pn, 0, none⟩), .pointer (some ⟨pw, 0, none⟩)]) := hB.w.cell 0
    have lt := hB.t.lt
    have lS := hB.s.lt
    have ln := hB.n.lt
    have lw := hB.w.lt
    obtain ⟨go2, co2, hvo2, _, hgl, _, hcs, hfz, _⟩ := hM.outer (by omega)
    have hgo : go2 = go ∧ co2 = co := by rw [HVO.out] at hvo2; injection hvo2 with e1 _ e2; injection e1 with e1; injection e1 with e1 _; exact ⟨e1.symm, e2.symm⟩
    obtain ⟨rfl, rfl⟩ := hgo
    have HCS := Lib.hid hcs
    clear hcs hvo2
    have hq1 : V.cell? ⟨q, 1, none⟩ = some (.slice (some ⟨go2, 0, none⟩) N co2) := HVO.out ▸ hM.blk.cell 1
    have lq := hM.blk.lt
    by_cases hlt : i < len
    · obtain ⟨a, ha⟩ : ∃ a, (rowE es x)[i]? = some a := ⟨(rowE es x)[i]'(by rw [HLEN.out]; exact hlt), List.getElem?_eq_getElem _⟩
      obtain ⟨gx, capx, hgx, _, hgxl, r0, r1, r2, rf, _⟩ := arc_row hM hx (k := i) (by rw [HLEN.out]; exact hlt)
      have hai : (rowE es x)[i]'(by rw [HLEN.out]; exact hlt) = a := by have := List.getElem?_eq_some_iff.1 ha; exact this.2
      rw [hai] at r0 r1 r2
      rw [HLEN.out] at hgx
      have hcx : V.cell? ⟨go2, x, none⟩ = some (.slice (some ⟨gx, 0, none⟩) len capx) := hgx ▸ HCS.out x hx
      have HGX := Lib.hid hgx
      have HA := Lib.hid ha
      have hto := arc_lt ho ha
      have hrl := arc_le ho hcap ha
      clear hgx hai ha
      obtain ⟨tg, room, back⟩ := a
      simp only at r0 r1 r2 hto hrl
      have hX := ex_alloc (Below.refl V.heap.size V) (.cells #[.int .i64 (tg : Int), .int .i64 room, .int .i64 (back : Int)] 207)
      have qa : Blk (V.alloc (.cells #[.int .i64 (tg : Int), .int .i64 room, .int .i64 (back : Int)] 207)) V.heap.size 207 #[.int .i64 (tg : Int), .int .i64 room, .int .i64 (back : Int)] := Blk.new _ _ _
      have hM2 := hM.below hX
      have hV2 := hV.below hX
      have hf2 := wkTrans hf (Fr.below hX)
      have hB2 := hB.below hX
      have hnA : ¬ WkR vals N bs V.heap.size := hM.notNew hV (Nat.le_refl _)
      have hVt := hV2.cell hto.1
      go_upto_region 8 with fail
      generalize V.alloc (.cells #[.int .i64 (tg : Int), .int .i64 room, .int .i64 (back : Int)] 207) = V2 at *
      obtain ⟨pa, hpa⟩ : ∃ p, V.heap.size = p := ⟨_, rfl⟩
      rw [hpa] at qa hnA ⊢
      clear hpa hq1 lq hcx r0 r1 r2 rf hM hV hB hf HCS hX hgl hfz hgxl
      clear bt bs_ bn bw lt lS ln lw
      have bt : V2.cell? ⟨pt, 0, none⟩ = some (.int .i64 (t : Int)) := hB2.t.cell 0
      have bs_ : V2.cell? ⟨ps, 0, none⟩ = some (.slice (some ⟨bs, 0, none⟩) N cs) := hB2.s.cell 0
      have bn : V2.cell? ⟨pn, 0, none⟩ = some (.pointer (some ⟨q, 0, none⟩)) := hB2.n.cell 0
      have bw : V2.cell? ⟨pw, 0, none⟩ = some (.func (.func 128) #[] #[.pointer (some ⟨pt, 0, none⟩), .pointer (some ⟨ps, 0, none⟩), .pointer (some ⟨pn, 0, none⟩), .pointer (some ⟨pw, 0, none⟩)]) := hB2.w.cell 0
      have lt := hB2.t.lt
      have lS := hB2.s.lt
      have ln := hB2.n.lt
      have lw := hB2.w.lt
      have qa0 : V2.cell? ⟨pa, 0, none⟩ = some (.int .i64 (tg : Int)) := qa.cell 0
      have qa1 : V2.cell? ⟨pa, 1, none⟩ = some (.int .i64 room) := qa.cell 1
      have qa2 : V2.cell? ⟨pa, 2, none⟩ = some (.int .i64 (back : Int)) := qa.cell 2
      have qal := qa.lt
      have hVl := hV2.lt
      by_cases hrm : room = 0
      · subst hrm
        have hW2 := hW.skip HA.out (.inl rfl)
        have HW2 := Lib.hid hW2
        clear hW2
        go_wp2_with fail
        refine ⟨⟨⟨i + 1, by omega, ⟨⟨S1, HW2.out, hmo, hM2, hV2, hB2, hf2⟩⟩, exFrame (by kernel_rfl)⟩⟩, ?_⟩
        show len - (intOf (.int .i64 ((i : Int) + 1))).toNat < len - (intOf (.int .i64 (i : Int))).toNat
        simp [intOf]
        omega
      have hr0 : (room == 0) = false := by rw [beq_eq_false_iff_ne]; exact hrm
      have hrp : 0 < room := by omega
      clear hrm
      cases hst : S1 tg
      rotate_left
      · rw [hst] at hVt
        have hW2 := hW.skip HA.out (.inr hst)
        have HW2 := Lib.hid hW2
        clear hW2 hst
        go_wp2_with fail
        refine ⟨⟨⟨i + 1, by omega, ⟨⟨S1, HW2.out, hmo, hM2, hV2, hB2, hf2⟩⟩, exFrame (by kernel_rfl)⟩⟩, ?_⟩
        show len - (intOf (.int .i64 ((i : Int) + 1))).toNat < len - (intOf (.int .i64 (i : Int))).toNat
        simp [intOf]
        omega
      · rw [hst] at hVt
        have HST := Lib.hid hst
        clear hst
        go_upto_region 9 with fail
        refine wp_region_ext_mix 8 [(false, 0), (false, 1), (false, 2), (false, 3), (false, 4), (false, 5), (true, 6), (true, 7)] (by kernel_rfl) (by kernel_rfl) (by intro d _ _ _ _ h; cases d <;> exact h) ?_
        have D2 := (Below.refl V2.heap.size V2).drew
        repeat (refine mix_quiet rfl ?_; go_big_quiet_step (fail); refine wpQuiet_nil ?_)
        obtain ⟨Y, hY⟩ : ∃ Y, V2.drew = Y := ⟨_, rfl⟩
        rw [hY] at D2 ⊢
        clear hY
        refine mix_loud rfl ?_
        have X3 := ex_trans D2 (ex_alloc (Below.refl Y.heap.size Y) (.cells #[.int .i64 grams, .int .i64 room] 3))
        have nb : Blk (Y.alloc (.cells #[.int .i64 grams, .int .i64 room] 3)) Y.heap.size 3 #[.int .i64 grams, .int .i64 room] := Blk.new _ _ _
        go_wp2_with fail
        generalize Y.alloc (.cells #[.int .i64 grams, .int .i64 room] 3) = V3 at *
        refine ⟨inEx X3, ?_⟩
        refine mix_loud rfl ?_
        go_wp2_with fail
        refine (least2 Y.heap.size 2 grams room V3 (nb.cell 0) (nb.cell 1)).mono ?_
        rintro e w' ⟨rfl, rfl⟩
        go_wp2_with fail
        refine ⟨inEx X3, ?_⟩
        have hM3 := hM2.below X3
        have hV3 := hV2.below X3
        have hB3 := hB2.below X3
        have hf3 := wkTrans hf2 (Fr.below X3)
        replace qa := qa.below X3 qa.lt
        clear nb hM2 hV2 hB2 hf2 hVt qa0 qa1 qa2 qal hVl
        clear bt bs_ bn bw lt lS ln lw
        refine mix_nil (r := [_, _]) rfl ?_
        go_wp2_with fail
        refine (HIH.out es S1 tg (min grams room) V3 (HN.out S1 hmo) ho hcap hel hto.1 HST.out hW.aim (by omega) (by omega) hB3 hM3 hV3).mono ?_
        rintro e V4 ⟨got, rfl, ⟨es', S2, hw, hM4, hV4, hfr⟩⟩
        have hB4 := hB3.fr hM3 hV3 hfr
        have hf4 := wkTrans hf3 hfr
        replace qa := qa.fr hfr hnA
        have hbd := hw.bd
        clear hB3 hM3 hV3 hf3 hfr
        by_cases hgp : 0 < got
        rotate_left
        · obtain rfl : got = 0 := by omega
          obtain ⟨hW2, rfl⟩ := hW.fail HA.out hw
          have hmo2 : ∀ y, y < N → (fun y => if y = x then true else S y) y = true → S2 y = true := fun y hy h => hw.mono y (hmo y hy h)
          have HW2 := Lib.hid hW2
          clear hW2 hw
          have hng : ¬ ((0 : Int) > 0) := by omega
          go_wp2_with fail
          refine ⟨⟨⟨i + 1, by omega, ⟨⟨S2, HW2.out, hmo2, hM4, hV4, hB4, hf4⟩⟩, exFrame (by kernel_rfl)⟩⟩, ?_⟩
          show len - (intOf (.int .i64 ((i : Int) + 1))).toNat < len - (intOf (.int .i64 (i : Int))).toNat
          simp [intOf]
          omega
        obtain ⟨k, ed, sg, hA, ha4, hwi⟩ := hW.found ho hSx HA.out HST.out ⟨Int.min_le_left grams room, Int.min_le_right grams room⟩ hw hgp
        have HGP := Lib.hid hgp
        have hgp' : (got > 0) = True := by simp; exact hgp
        have ho4 := ho.shape hw.shape hw.cap
        obtain ⟨m1, ⟨b, hb4, m2⟩, m3⟩ := hA.more got
        simp only at m1 m2 m3 hb4
        obtain ⟨btg, brm, bbk⟩ := b
        simp only at m2
        have hbt := arc_lt ho4 hb4
        have hbl := arc_le ho4 (cap_shape hw.shape hcap) hb4
        simp only at hbt hbl
        have w1 : IntKind.i64.wrap (room - got) = room - got := IntWalk.i64_in _ (by omega)
        have w2 : IntKind.i64.wrap (brm + got) = brm + got := IntWalk.i64_in _ (by omega)
        obtain ⟨hz, hz2, hz3, hgxl, r0, r1, r2, rf⟩ := arc_at hM4 hx ha4 HGX.out
        clear hz hz2 hz3
        simp only at r0 r1 r2
        obtain ⟨go4, co4, hvo4, _, hgl, _, hcs4, _, _⟩ := hM4.outer (by omega)
        have hgo : go4 = go2 ∧ co4 = co2 := by rw [HVO.out] at hvo4; injection hvo4 with e1 _ e2; injection e1 with e1; injection e1 with e1 _; exact ⟨e1.symm, e2.symm⟩
        obtain ⟨rfl, rfl⟩ := hgo
        have hcx : V4.cell? ⟨go4, x, none⟩ = some (.slice (some ⟨gx, 0, none⟩) len capx) := HGX.out ▸ hcs4 x hx
        have hq1 : V4.cell? ⟨q, 1, none⟩ = some (.slice (some ⟨go4, 0, none⟩) N co4) := HVO.out ▸ hM4.blk.cell 1
        have lq := hM4.blk.lt
        clear hcs4 hvo4
        have bt : V4.cell? ⟨pt, 0, none⟩ = some (.int .i64 (t : Int)) := hB4.t.cell 0
        have bs_ : V4.cell? ⟨ps, 0, none⟩ = some (.slice (some ⟨bs, 0, none⟩) N cs) := hB4.s.cell 0
        have bn : V4.cell? ⟨pn, 0, none⟩ = some (.pointer (some ⟨q, 0, none⟩)) := hB4.n.cell 0
        have bw : V4.cell? ⟨pw, 0, none⟩ = some (.func (.func 128) #[] #[.pointer (some ⟨pt, 0, none⟩), .pointer (some ⟨ps, 0, none⟩), .pointer (some ⟨pn, 0, none⟩), .pointer (some ⟨pw, 0, none⟩)]) := hB4.w.cell 0
        have lt := hB4.t.lt
        have lS := hB4.s.lt
        have ln := hB4.n.lt
        have lw := hB4.w.lt
        have qa0 : V4.cell? ⟨pa, 0, none⟩ = some (.int .i64 (tg : Int)) := qa.cell 0
        have qa1 : V4.cell? ⟨pa, 1, none⟩ = some (.int .i64 room) := qa.cell 1
        have qa2 : V4.cell? ⟨pa, 2, none⟩ = some (.int .i64 (back : Int)) := qa.cell 2
        have qal := qa.lt
        have hF5 : Fr (WkR vals N bs) V4 (V4.setCell ⟨gx, i * 3 + 1, none⟩ (.int .i64 (room - got))) := Fr.set V4 gx _ _ (.inr ⟨x, hx, by rw [HGX.out]; rfl⟩)
        have hM5 := room_at hM4 hx ha4 HGX.out (room - got)
        have hB5 := hB4.fr hM4 hV4 hF5
        have hbx := hM4.bsNe hV4 hx HGX.out
        have hV5 := hV4.fr (Fr.set (R := fun b => b = gx) V4 gx (i * 3 + 1) (.int .i64 (room - got)) rfl) (by omega)
        have hf5 := wkTrans hf4 hF5
        have qa5 := qa.fr hF5 hnA
        have HM5 := Lib.hid hM5
        have HB5 := Lib.hid hB5
        have HV5 := Lib.hid hV5
        have HF5 := Lib.hid hf5
        have HQ5 := Lib.hid qa5
        have HM1 := Lib.hid m1
        have HM2 := Lib.hid m2
        have HM3 := Lib.hid m3
        have HWI := Lib.hid hwi
        have HB4 := Lib.hid hb4
        clear hM5 hB5 hV5 hf5 qa5 hM4 hV4 hB4 hf4 hF5 m1 m2 m3 hwi hb4 ha4 hw hA qa hbx
        go_upto_region 12 with fail
        clear bt bs_ bn bw lt lS ln lw
        clear qa0 qa1 qa2 qal r0 r1 r2 rf hcx hq1 lq hgl hgxl
        have hM5 := HM5.out
        have hB5 := HB5.out
        have hV5 := HV5.out
        have hf5 := HF5.out
        have qa := HQ5.out
        clear HM5 HB5 HV5 HF5 HQ5
        generalize V4.setCell ⟨gx, i * 3 + 1, none⟩ (.int .i64 (room - got)) = V5 at *
        have hRt : setR (rowE es') x ((rowE es' x).set i ⟨tg, room - got, back⟩) tg = rowE es' tg := by unfold setR; rw [if_neg hto.2.1]
        have hb5 : (setR (rowE es') x ((rowE es' x).set i ⟨tg, room - got, back⟩) tg)[back]? = some ⟨btg, brm, bbk⟩ := by rw [hRt]; exact HB4.out
        obtain ⟨hbk, hbk2⟩ := List.getElem?_eq_some_iff.1 hb5
        clear hbk2
        obtain ⟨gt, capt, hgt, hz⟩ := arc_row hM5 hto.1 hbk
        obtain ⟨nt, hnt⟩ : ∃ nt, (setR (rowE es') x ((rowE es' x).set i ⟨tg, room - got, back⟩) tg).length = nt := ⟨_, rfl⟩
        clear hz
        rw [hnt] at hgt hbk
        have HGT := Lib.hid hgt
        obtain ⟨hz, hz2, hz3, hgtl, r0, r1, r2, rf⟩ := arc_at hM5 hto.1 hb5 hgt
        clear hz hz2 hz3
        simp only at r0 r1 r2
        clear hnt
        obtain ⟨go5, co5, hvo5, _, hgl, _, hcs5, _, _⟩ := hM5.outer (by omega)
        have hgo : go5 = go4 ∧ co5 = co4 := by rw [HVO.out] at hvo5; injection hvo5 with e1 _ e2; injection e1 with e1; injection e1 with e1 _; exact ⟨e1.symm, e2.symm⟩
        obtain ⟨rfl, rfl⟩ := hgo
        have hcx : V5.cell? ⟨go5, tg, none⟩ = some (.slice (some ⟨gt, 0, none⟩) nt capt) := hgt ▸ hcs5 tg hto.1
        have hq1 : V5.cell? ⟨q, 1, none⟩ = some (.slice (some ⟨go5, 0, none⟩) N co5) := HVO.out ▸ hM5.blk.cell 1
        have lq := hM5.blk.lt
        clear hcs5 hvo5 hgt
        have bt : V5.cell? ⟨pt, 0, none⟩ = some (.int .i64 (t : Int)) := hB5.t.cell 0
        have bs_ : V5.cell? ⟨ps, 0, none⟩ = some (.slice (some ⟨bs, 0, none⟩) N cs) := hB5.s.cell 0
        have bn : V5.cell? ⟨pn, 0, none⟩ = some (.pointer (some ⟨q, 0, none⟩)) := hB5.n.cell 0
        have bw : V5.cell? ⟨pw, 0, none⟩ = some (.func (.func 128) #[] #[.pointer (some ⟨pt, 0, none⟩), .pointer (some ⟨ps, 0, none⟩), .pointer (some ⟨pn, 0, none⟩), .pointer (some ⟨pw, 0, none⟩)]) := hB5.w.cell 0
        have lt := hB5.t.lt
        have lS := hB5.s.lt
        have ln := hB5.n.lt
        have lw := hB5.w.lt
        have qa0 : V5.cell? ⟨pa, 0, none⟩ = some (.int .i64 (tg : Int)) := qa.cell 0
        have qa1 : V5.cell? ⟨pa, 1, none⟩ = some (.int .i64 room) := qa.cell 1
        have qa2 : V5.cell? ⟨pa, 2, none⟩ = some (.int .i64 (back : Int)) := qa.cell 2
        have qal := qa.lt
        refine wp_region_ext_mix 17 [(false, 0), (false, 1), (false, 2), (false, 3), (false, 4), (false, 5), (false, 6), (false, 7), (false, 8), (false, 9), (false, 10), (false, 11), (false, 12), (false, 13), (false, 14), (false, 15), (false, 16)] (by kernel_rfl) (by kernel_rfl) (by intro d _ _ _ _ h; cases d <;> exact h) ?_
        have D6 := (Below.refl V5.heap.size V5).drew
        repeat (refine mix_quiet rfl ?_; go_big_quiet_step (fail); refine wpQuiet_nil ?_)
        have hM6 := hM5.below D6
        have hV6 := hV5.below D6
        have hf6 := wkTrans hf5 (Fr.below D6)
        have hb6 : V5.drew.heap.size = V5.heap.size := rfl
        have g1 : V5.drew.cell? ⟨gt, back * 3 + 1, none⟩ = some (.int .i64 brm) := r1
        have g2 : ∀ j, V5.drew.frozen? ⟨gt, j, none⟩ = false := rf
        clear bt bs_ bn bw lt lS ln lw
        clear qa0 qa1 qa2 qal r0 r1 r2 rf hcx hq1 lq hgl D6 qa
        generalize V5.drew = V6 at *
        have hM7 := room_at hM6 hto.1 hb5 HGT.out (brm + got)
        have hbx := hM6.bsNe hV6 hto.1 HGT.out
        have hV7 := hV6.fr (Fr.set (R := fun b => b = gt) V6 gt (back * 3 + 1) (.int .i64 (brm + got)) rfl) (by omega)
        have hf7 := wkTrans hf6 (Fr.set (R := WkR vals N bs) V6 gt (back * 3 + 1) (.int .i64 (brm + got)) (.inr ⟨tg, hto.1, by rw [HGT.out]; rfl⟩))
        simp only at hM7
        have hRR : setR (setR (rowE es') x ((rowE es' x).set i ⟨tg, room - got, back⟩)) tg ((setR (rowE es') x ((rowE es' x).set i ⟨tg, room - got, back⟩) tg).set back ⟨btg, brm + got, bbk⟩) = rowE (es'.set k ⟨ed.u, ed.v, ed.cap, ed.fl + sg * got⟩) := by
          rw [hRt]
          funext y
          unfold setR
          by_cases e1 : y = tg
          · subst e1; rw [if_pos rfl]; exact HM2.out.symm
          · rw [if_neg e1]
            by_cases e2 : y = x
            · subst e2; rw [if_pos rfl]; exact HM1.out.symm
            · rw [if_neg e2]; exact (HM3.out y e2 e1).symm
        rw [hRR] at hM7
        have HP : Hid (WkPost W (V6.setCell ⟨gt, back * 3 + 1, none⟩ (.int .i64 (brm + got))) base q mb N t bs sp vo vals es S x grams got) := Lib.hid ⟨_, S2, HWI.out, hM7, hV7, hf7⟩
        have g3 : gt < V6.heap.size := by omega
        clear hM7 hV7 hf7 hRR hM6 hV6 hf6 hM5 hV5 hf5 hB5 hRt hb5
        refine mix_nil (r := [_]) rfl ?_
        go_wp2
        go_ret
        exact ⟨got, rfl, HP.out⟩
    · have hil : i = len := by omega
      have hdone : WalkIs N es es S S1 x t grams 0 := WkLoop.done ho (by omega) (by rw [HLEN.out]; exact hil ▸ hW)
      have HP : WkPost W V base q mb N t bs sp vo vals es S x grams 0 := ⟨es, S1, hdone, hM, hV, hf⟩
      have HP2 := Lib.hid HP
      have hnl : ¬ ((i : Int) < (len : Int)) := by omega
      clear HP hdone hil hlt
      go_wp2
      go_ret
      exact ⟨0, rfl, HP2.out⟩
end Go.Proofs.Ythihdiilokdidaa
end

section
namespace Go.Proofs.Ythihdiilokdidaa
open Go.RowKit
attribute [local go_sem] Ex.cell? Ex.frozen? run_store_func

theorem bool_info : (Try.prog.info? 4).map (fun i => (i.zero, i.size, i.bytes)) = some (some (.bool false), 1, 1) := by kernel_rfl
theorem run_seen (N : Nat) (hN : N ≤ 1000) : ∃ oc : Array Value, (oc.size = N ∧ ∀ k, k < N → oc[k]? = some (.bool false)) ∧ ∀ W : World, (Instr.makeSlice 208 (.int .i64 (N : Int)) (.int .i64 (N : Int))).run Try.prog W = .ok (.slice (some ⟨W.heap.size, 0, none⟩) N N) (W.alloc (.cells oc 4)) := by
  obtain ⟨i0, hi0, hz0, hz1, hz2⟩ := info_parts bool_info
  refine ⟨madeCells #[.bool false] N, ⟨size_madeCells _ _, fun k hk => ?_⟩, fun W => ?_⟩
  · simp [madeCells, hk, Nat.mod_one]
  · have := run_makeSlice (P := Try.prog) (w := W) 208 4 i0 _ Try.underlying208 hi0 hz0 .i64 .i64 (N : Int) (N : Int) (by omega) (by omega) (by rw [hz1]; omega) (by rw [hz2]; omega) (by omega)
    rw [hz1, show (Value.bool false).cells = #[Value.bool false] from rfl] at this
    simpa using this
structure PuPost (W W' : World) (base q mb N f t : Nat) (sp : List Spot) (vo : Value) (vals : List Value) (es : List Ed) (got : Int) : Prop where
  out : ∃ es' S', WalkIs N es es' (fun _ => false) S' f t 1048576 got ∧ NetM W' base q mb sp N (rowE es') vo vals ∧ NetFr base mb W W'
theorem NetFr.ofWk {W V V' : World} {base q mb bs N : Nat} {sp : List Spot} {R : Nat → List Ar} {vo : Value} {vals : List Value} (h : NetM V base q mb sp N R vo vals) (hb : Below W.heap.size W V) (hbs : W.heap.size ≤ bs) (hbase : base ≤ W.heap.size) (hm : NetM W base q mb sp N R vo vals) (hf : Fr (WkR vals N bs) V V') : NetFr base mb W V' := by
  refine ⟨hf.os.trans hb.os, hf.tape.trans hb.tape, hf.output.trans hb.output, Nat.le_trans hb.size hf.size, fun k hk hs => ?_, fun k o ho _ hn => ?_⟩
  · refine (hf.block k (Nat.lt_of_lt_of_le hs hb.size) ?_).trans (hb.block k hs)
    rintro (e | ⟨i, hi, e⟩)
    · omega
    · have := own_ge (h.rows i hi) e; omega
  · have hs := (Array.getElem?_eq_some_iff.1 ho).1
    refine ((hf.block k (Nat.lt_of_lt_of_le hs hb.size) ?_).trans (hb.block k hs)).trans ho
    rintro (e | ⟨i, hi, e⟩)
    · omega
    · rcases (hm.rows i hi).2 with ⟨e2, _⟩ | ⟨g, cap, cur, e2, _, hh, _⟩
      · rw [e2] at e; simp [Value.ownBlock] at e
      · rw [e2] at e
        have : g = k := by simpa [Value.ownBlock] using e
        subst this
        rw [hh] at ho; cases ho
        exact hn ⟨_, _, _, rfl, .inl rfl⟩
set_option maxRecDepth 100000 in
set_option maxHeartbeats 6400000 in
theorem push_any (base q mb N f t : Nat) (sp : List Spot) (vo : Value) (vals : List Value) (es : List Ed) (C : Int) (hC : 0 ≤ C ∧ C ≤ 1099511627776) (w : World) (hn : NetM w base q mb sp N (rowE es) vo vals) (hf : f < N) (ht : t < N) (hN : N ≤ 1000) (ho : EdsOk N es) (hcap : ∀ e ∈ es, e.cap ≤ C) (hel : es.length ≤ 1000) :
    Calls Try.prog 111 #[.pointer (some ⟨q, 0, none⟩), .int .i64 (f : Int), .int .i64 (t : Int)] w fun e w' => ∃ got, e = .returned (.int .i64 got) ∧ PuPost w w' base q mb N f t sp vo vals es got := by
  obtain ⟨go, co, hvo, hbg, hglw, hco, _, _, _⟩ := hn.outer (by omega)
  have HVO := Lib.hid hvo
  obtain ⟨oc, ⟨hos, hoc⟩, hmk⟩ := run_seen N hN
  have HOC := Lib.hid hoc
  have HOS := Lib.hid hos
  have hbase : base ≤ w.heap.size := by have := hn.qb.1; have := hn.blk.lt; omega
  have hq1 : w.cell? ⟨q, 1, none⟩ = some (.slice (some ⟨go, 0, none⟩) N co) := hvo ▸ hn.blk.cell 1
  have lq := hn.blk.lt
  clear hvo hoc hos
  have hb5 := ex_alloc (ex_alloc (ex_alloc (ex_alloc (ex_alloc (Below.refl w.heap.size w) (.cells #[.pointer (some ⟨q, 0, none⟩)] 181)) (.cells #[.int .i64 (t : Int)] 3)) (.cells oc 4)) (.cells #[.slice (some ⟨w.heap.size + 1 + 1, 0, none⟩) N N] 208)) (.cells #[.func (.func 128) #[] #[.pointer (some ⟨w.heap.size + 1, 0, none⟩), .pointer (some ⟨w.heap.size + 1 + 1 + 1, 0, none⟩), .pointer (some ⟨w.heap.size, 0, none⟩), .pointer (some ⟨w.heap.size + 1 + 1 + 1 + 1, 0, none⟩)]] 194)
  have q0 : Blk (((((w.alloc (.cells #[.pointer (some ⟨q, 0, none⟩)] 181)).alloc (.cells #[.int .i64 (t : Int)] 3)).alloc (.cells oc 4)).alloc (.cells #[.slice (some ⟨w.heap.size + 1 + 1, 0, none⟩) N N] 208)).alloc (.cells #[.func (.func 128) #[] #[.pointer (some ⟨w.heap.size + 1, 0, none⟩), .pointer (some ⟨w.heap.size + 1 + 1 + 1, 0, none⟩), .pointer (some ⟨w.heap.size, 0, none⟩), .pointer (some ⟨w.heap.size + 1 + 1 + 1 + 1, 0, none⟩)]] 194)) (w.heap.size) 181 #[.pointer (some ⟨q, 0, none⟩)] := ((((Blk.new' _ _ _ (by simp)).alloc _).alloc _).alloc _).alloc _
  have q1 : Blk (((((w.alloc (.cells #[.pointer (some ⟨q, 0, none⟩)] 181)).alloc (.cells #[.int .i64 (t : Int)] 3)).alloc (.cells oc 4)).alloc (.cells #[.slice (some ⟨w.heap.size + 1 + 1, 0, none⟩) N N] 208)).alloc (.cells #[.func (.func 128) #[] #[.pointer (some ⟨w.heap.size + 1, 0, none⟩), .pointer (some ⟨w.heap.size + 1 + 1 + 1, 0, none⟩), .pointer (some ⟨w.heap.size, 0, none⟩), .pointer (some ⟨w.heap.size + 1 + 1 + 1 + 1, 0, none⟩)]] 194)) (w.heap.size + 1) 3 #[.int .i64 (t : Int)] := (((Blk.new' _ _ _ (by simp)).alloc _).alloc _).alloc _
  have q3 : Blk (((((w.alloc (.cells #[.pointer (some ⟨q, 0, none⟩)] 181)).alloc (.cells #[.int .i64 (t : Int)] 3)).alloc (.cells oc 4)).alloc (.cells #[.slice (some ⟨w.heap.size + 1 + 1, 0, none⟩) N N] 208)).alloc (.cells #[.func (.func 128) #[] #[.pointer (some ⟨w.heap.size + 1, 0, none⟩), .pointer (some ⟨w.heap.size + 1 + 1 + 1, 0, none⟩), .pointer (some ⟨w.heap.size, 0, none⟩), .pointer (some ⟨w.heap.size + 1 + 1 + 1 + 1, 0, none⟩)]] 194)) (w.heap.size + 1 + 1 + 1) 208 #[.slice (some ⟨w.heap.size + 1 + 1, 0, none⟩) N N] := (Blk.new' _ _ _ (by simp)).alloc _
  have q4 : Blk (((((w.alloc (.cells #[.pointer (some ⟨q, 0, none⟩)] 181)).alloc (.cells #[.int .i64 (t : Int)] 3)).alloc (.cells oc 4)).alloc (.cells #[.slice (some ⟨w.heap.size + 1 + 1, 0, none⟩) N N] 208)).alloc (.cells #[.func (.func 128) #[] #[.pointer (some ⟨w.heap.size + 1, 0, none⟩), .pointer (some ⟨w.heap.size + 1 + 1 + 1, 0, none⟩), .pointer (some ⟨w.heap.size, 0, none⟩), .pointer (some ⟨w.heap.size + 1 + 1 + 1 + 1, 0, none⟩)]] 194)) (w.heap.size + 1 + 1 + 1 + 1) 194 #[.func (.func 128) #[] #[.pointer (some ⟨w.heap.size + 1, 0, none⟩), .pointer (some ⟨w.heap.size + 1 + 1 + 1, 0, none⟩), .pointer (some ⟨w.heap.size, 0, none⟩), .pointer (some ⟨w.heap.size + 1 + 1 + 1 + 1, 0, none⟩)]] := Blk.new' _ _ _ (by simp)
  have qv : VArr (((((w.alloc (.cells #[.pointer (some ⟨q, 0, none⟩)] 181)).alloc (.cells #[.int .i64 (t : Int)] 3)).alloc (.cells oc 4)).alloc (.cells #[.slice (some ⟨w.heap.size + 1 + 1, 0, none⟩) N N] 208)).alloc (.cells #[.func (.func 128) #[] #[.pointer (some ⟨w.heap.size + 1, 0, none⟩), .pointer (some ⟨w.heap.size + 1 + 1 + 1, 0, none⟩), .pointer (some ⟨w.heap.size, 0, none⟩), .pointer (some ⟨w.heap.size + 1 + 1 + 1 + 1, 0, none⟩)]] 194)) (w.heap.size + 1 + 1) 4 N (fun _ => .bool false) := VArr.of (((Blk.new' _ _ oc (by simp)).alloc _).alloc _) HOS.out HOC.out
  have hn5 := hn.below hb5
  go_enter Try.func111, Try.ntmps111
  go_upto_region 4 with fail
  show Code.wp _ _ _ _ (((((w.alloc (.cells #[.pointer (some ⟨q, 0, none⟩)] 181)).alloc (.cells #[.int .i64 (t : Int)] 3)).alloc (.cells oc 4)).alloc (.cells #[.slice (some ⟨w.heap.size + 1 + 1, 0, none⟩) N N] 208)).alloc (.cells #[.func (.func 128) #[] #[.pointer (some ⟨w.heap.size + 1, 0, none⟩), .pointer (some ⟨w.heap.size + 1 + 1 + 1, 0, none⟩), .pointer (some ⟨w.heap.size, 0, none⟩), .pointer (some ⟨w.heap.size + 1 + 1 + 1 + 1, 0, none⟩)]] 194))
  generalize ((((w.alloc (.cells #[.pointer (some ⟨q, 0, none⟩)] 181)).alloc (.cells #[.int .i64 (t : Int)] 3)).alloc (.cells oc 4)).alloc (.cells #[.slice (some ⟨w.heap.size + 1 + 1, 0, none⟩) N N] 208)).alloc (.cells #[.func (.func 128) #[] #[.pointer (some ⟨w.heap.size + 1, 0, none⟩), .pointer (some ⟨w.heap.size + 1 + 1 + 1, 0, none⟩), .pointer (some ⟨w.heap.size, 0, none⟩), .pointer (some ⟨w.heap.size + 1 + 1 + 1 + 1, 0, none⟩)]] 194) = V at *
  obtain ⟨pn, hpn⟩ : ∃ p, w.heap.size = p := ⟨_, rfl⟩
  have hpw : w.heap.size ≤ pn := by omega
  rw [hpn] at q0 q1 q3 q4 qv ⊢
  obtain ⟨pt, hpt⟩ : ∃ p, pn + 1 = p := ⟨_, rfl⟩
  obtain ⟨bs, hbs⟩ : ∃ p, pn + 1 + 1 = p := ⟨_, rfl⟩
  obtain ⟨ps, hps⟩ : ∃ p, pn + 1 + 1 + 1 = p := ⟨_, rfl⟩
  obtain ⟨pw, hpw2⟩ : ∃ p, pn + 1 + 1 + 1 + 1 = p := ⟨_, rfl⟩
  rw [hpw2, hps, hpt] at q4
  rw [hps, hbs] at q3
  rw [hbs] at qv
  rw [hpt] at q1
  rw [hpw2, hps, hbs, hpt]
  have hbsw : w.heap.size ≤ bs := by omega
  have hbb : base ≤ bs := by omega
  have hB : Bx V pt ps pn pw t bs N N q := ⟨q1, q3, q0, q4⟩
  have bw : V.cell? ⟨pw, 0, none⟩ = some (.func (.func 128) #[] #[.pointer (some ⟨pt, 0, none⟩), .pointer (some ⟨ps, 0, none⟩), .pointer (some ⟨pn, 0, none⟩), .pointer (some ⟨pw, 0, none⟩)]) := q4.cell 0
  have lw := q4.lt
  clear hpn hpt hbs hps hpw2 hq1 lq hmk q0 q1 q3 q4
  go_wp2_with fail
  refine (walk_any base q mb N t bs N pt ps pn pw sp vo vals C hC ht hbb hN (seenCnt (fun _ => false) N + 1) es (fun _ => false) f 1048576 V (by omega) ho hcap hel hf rfl rfl (by omega) (by omega) hB hn5 qv).mono ?_
  rintro e V2 ⟨got, rfl, ⟨es', S2, hw, hM, hV, hfr⟩⟩
  have HP : Hid (PuPost w V2 base q mb N f t sp vo vals es got) := Lib.hid ⟨es', S2, hw, hM, NetFr.ofWk hn5 hb5 hbsw hbase hn hfr⟩
  clear hw hM hV hfr
  go_wp2
  go_ret
  exact ⟨got, rfl, HP.out⟩
end Go.Proofs.Ythihdiilokdidaa
end
