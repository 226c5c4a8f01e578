/- Stem: what is left, kind by kind (walk). · Stem (plain): what Same tells, by the map. -/
import Derived.Test.YtkaogjhnogkcdaaGreatJ21
set_option linter.unusedVariables false
set_option linter.unusedSimpArgs false
set_option linter.unusedSectionVars false
section
namespace Go.Proofs.YtkaogjhnogkcdaaGreat
open Go.RowKit Go.Shelf
attribute [local go_sem] Oper.semAt_some Ex.cell? Ex.frozen? Gx.cell?
def LeftF (t : Tb) (rs : List Rd) (F : Ki → Option Rg) : Prop := ∀ q, (KiIn t q → LeftIs rs q (bndP t (gE rs 0)).lo ((bndP t (gE rs 0)).hi + 1) (F q)) ∧ (¬ KiIn t q → F q = none)
def LeftP (t : Tb) (rs : List Rd) (pre : List (KiX t)) (F : Ki → Option Rg) : Prop := ∀ q, (q ∈ pre.map (·.1) → LeftIs rs q (bndP t (gE rs 0)).lo ((bndP t (gE rs 0)).hi + 1) (F q)) ∧ (q ∉ pre.map (·.1) → F q = none)
theorem leftP_all {t : Tb} {rs : List Rd} {xs : List (KiX t)} {F : Ki → Option Rg} (h : LeftP t rs xs F) (hx : HasK t xs) : LeftF t rs F := fun q => ⟨fun hq => (h q).1 (hx q hq), fun hq => (h q).2 (fun hm => by
  obtain ⟨y, _, e⟩ := List.mem_map.1 hm
  exact hq (e ▸ y.2))⟩
structure LfW (us : Array Value) (sl : Array Value) (tb : Array Value) (w W5 : World) (pu pl m po pt : Nat) (W : World) : Prop where
  sz : W5.heap.size ≤ W.heap.size
  b : Below w.heap.size w W
  qu : Blk W pu 116 us
  ql : Blk W pl 63 sl
  qo : Blk W po 134 #[.map (some m)]
  qt : Blk W pt 45 tb
  hm : w.heap.size ≤ m ∧ m < W5.heap.size
  hu : pu < W5.heap.size ∧ pl < W5.heap.size ∧ po < W5.heap.size ∧ pt < W5.heap.size
  ne : pu ≠ m ∧ pl ≠ m ∧ po ≠ m ∧ pt ≠ m
section
variable {us sl tb : Array Value} {w W5 : World} {pu pl m po pt : Nat} {W W' : World}
theorem LfW.go (h : LfW us sl tb w W5 pu pl m po pt W) (hb : Below W.heap.size W W') : LfW us sl tb w W5 pu pl m po pt W' := ⟨Nat.le_trans h.sz hb.size, ex_trans h.b hb, h.qu.below hb h.qu.lt, h.ql.below hb h.ql.lt, h.qo.below hb h.qo.lt, h.qt.below hb h.qt.lt, h.hm, h.hu, h.ne⟩
theorem LfW.grown (h : LfW us sl tb w W5 pu pl m po pt W) {row : Option Nat} (hg : W.grownBy W' row) (hr : ∀ r, row = some r → W5.heap.size ≤ r) : LfW us sl tb w W5 pu pl m po pt W' := by
  have hne : ∀ k, k < W5.heap.size → some k ≠ row := fun k hk e => by have := hr k e.symm; omega
  have hu := h.hu
  exact ⟨Nat.le_trans h.sz hg.size, h.b.grown hg h.b.size (fun j hj => by have := hr j hj; have := h.hm; omega), h.qu.grown hg (hne _ hu.1), h.ql.grown hg (hne _ hu.2.1), h.qo.grown hg (hne _ hu.2.2.1), h.qt.grown hg (hne _ hu.2.2.2), h.hm, h.hu, h.ne⟩
theorem LfW.fr (h : LfW us sl tb w W5 pu pl m po pt W) (hf : Fr (fun k => k = m) W W') : LfW us sl tb w W5 pu pl m po pt W' := 
  ⟨Nat.le_trans h.sz hf.size, hf.toBelow h.b h.b.size (fun x hx => by rw [hx]; exact h.hm.1), h.qu.fr hf h.ne.1, h.ql.fr hf h.ne.2.1, h.qo.fr hf h.ne.2.2.1, h.qt.fr hf h.ne.2.2.2, h.hm, h.hu, h.ne⟩
end
theorem MpN.go {α β : Type} [DecidableEq α] {kV : α → Value} {vV : β → Value} {W W' : World} {b : Nat} {L : List (α × β)} {F : α → Option β} (h : MpN kV vV W b L F) (hb : Below W.heap.size W W') : MpN kV vV W' b L F := h.of_block (hb.block b h.1.lt)
theorem SlAt.map10 {α β : Type} [DecidableEq α] {kV : α → Value} {vV : β → Value} {W W' : World} {m B n : Nat} {L : List (α × β)} {A : Option Addr} {f : Nat → Nat → Value} (h : SlAt W B 10 A n f) (hB : B ≤ W.heap.size) (hm : IsMp kV vV W m L) (hf : Fr (fun k => k = m) W W') : SlAt W' B 10 A n f := fun hn => by
  obtain ⟨b, off, e, hb, hc⟩ := h hn
  have hne : b ≠ m := by
    rintro rfl
    have h1 := hc 0 0 hn (by omega)
    have h2 : W.heap[b]? = some (.map (mkE kV vV L) L.length) := hm
    simp [World.cell?, h2] at h1
  exact ⟨b, off, e, hb, fun k j hk hj => (World.cell?_of_block (hf.block b (Nat.lt_of_lt_of_le hb hB) hne)).trans (hc k j hk hj)⟩
theorem gr_info : (Tryz.prog.info? 41).map (fun i => (i.zero, i.size, i.bytes)) = some (some (.agg #[.int .i64 0, .int .i64 0]), 2, 16) := by kernel_rfl
def lfM (hi : Int) (a : Act) (V : World) : Nat := (hi + 1 - intOf ((match a.tmps.getD 8 undef with | .pointer (some p) => V.cell? p | _ => none).getD undef)).toNat
theorem lfM_eq {hi N : Int} {a : Act} {V : World} {pn : Nat} (h : a.tmps.getD 8 undef = .pointer (some ⟨pn, 0, none⟩)) (hb : Blk V pn 3 #[.int .i64 N]) : lfM hi a V = (hi + 1 - N).toNat := by
  have e : V.cell? ⟨pn, 0, none⟩ = some (.int .i64 N) := hb.cell 0
  unfold lfM
  rw [h]
  simp only [e]
  simp [intOf]
theorem lk_some {V : World} {m : Nat} {F : Ki → Option Rg} (h : MpIs keyK cRg V m F) (q : Ki) {R : Rg} (hR : F q = some R) : (Instr.lookup 134 (.map (some m)) (.agg #[.int .i64 q.k, .int .i64 q.lag, .int .i64 q.sq]) true).run Tryz.prog V = .ok (.tuple #[.agg #[.int .i64 R.lo, .int .i64 R.hi], .bool true]) V := by
  obtain ⟨i0, hi0, hz0, _, _⟩ := info_parts gr_info
  have := MpIs.at2 (et := 41) Tryz.underlying134 hi0 hz0 keyK_fd h q
  rw [hR] at this
  exact this
theorem lk_none {V : World} {m : Nat} {F : Ki → Option Rg} (h : MpIs keyK cRg V m F) (q : Ki) (hR : F q = none) : (Instr.lookup 134 (.map (some m)) (.agg #[.int .i64 q.k, .int .i64 q.lag, .int .i64 q.sq]) true).run Tryz.prog V = .ok (.tuple #[.agg #[.int .i64 0, .int .i64 0], .bool false]) V := by
  obtain ⟨i0, hi0, hz0, _, _⟩ := info_parts gr_info
  have := MpIs.at2 (et := 41) Tryz.underlying134 hi0 hz0 keyK_fd h q
  rw [hR] at this
  exact this
theorem leftP_snoc {t : Tb} {rs : List Rd} {pre : List (KiX t)} {F F' : Ki → Option Rg} {x : KiX t} {q : Ki} (h : LeftP t rs pre F) (hx : x.1 = q) (hq : LeftIs rs q (bndP t (gE rs 0)).lo ((bndP t (gE rs 0)).hi + 1) (F' q)) (hF : ∀ q', q' ≠ q → F' q' = F q') : LeftP t rs (pre ++ [x]) F' := fun q' => by
  rw [List.map_append, List.mem_append]
  simp only [List.map_cons, List.map_nil, List.mem_singleton]
  rw [hx]
  by_cases e : q' = q
  · subst e
    exact ⟨fun _ => hq, fun hn => absurd (.inr rfl) hn⟩
  · rw [hF q' e]
    exact ⟨fun hm => (h q').1 (hm.resolve_right e), fun hn => (h q').2 (fun hm => hn (.inl hm))⟩
set_option maxRecDepth 100000 in
set_option maxHeartbeats 6400000 in
theorem sm_left (t : Tb) (Ab Ad Ah Ai Az : Option Addr) (cb cd ch ci cz nz : Nat) (h : List Rg) (l : List Ic) (rs : List Rd) (Ar : Option Addr) (cr : Nat) (w : World) (hs : SlAt w w.heap.size 10 Ar rs.length (fE rs)) (ht : TbBd t) (hR : RdsBd rs) (h0 : 0 < rs.length) (hrl : rs.length ≤ 1000000) :
    Calls Tryz.prog 69 #[.agg #[.int .i64 t.g.base, .slice Ab t.g.bands.length cb, .slice Ad t.g.depths.length cd, .int .i64 t.g.blo, .int .i64 t.g.bhi, .int .i64 t.k.lo, .int .i64 t.k.hi, .int .i64 t.lag.lo, .int .i64 t.lag.hi, .int .i64 t.sq.lo, .int .i64 t.sq.hi, .int .i64 t.term, .slice Ah h.length ch, .slice Ai l.length ci, .slice Az nz cz], .slice Ar rs.length cr] w fun e w' => (∃ m L F, e = .returned (.map (some m)) ∧ MpN keyK cRg w' m L F ∧ Hid (LeftF t rs F)) ∧ Below w.heap.size w w' := by
  refine calls_of_marks (n := 5) Tryz.func69 rfl ?_
  simp only [Tryz.ntmps69, List.size_toArray, List.length_cons, List.length_nil, Nat.reduceAdd, Nat.reduceSub, Array.replicate_succ, Array.replicate_zero, List.push_toArray, List.append_toArray, List.nil_append, List.cons_append]
  have hmk := @run_makeMap Tryz.prog
  have hb4 := ex_alloc (ex_alloc (ex_alloc (ex_alloc (Below.refl w.heap.size w) (.cells #[.int .i64 t.g.base, .slice Ab t.g.bands.length cb, .slice Ad t.g.depths.length cd, .int .i64 t.g.blo, .int .i64 t.g.bhi, .int .i64 t.k.lo, .int .i64 t.k.hi, .int .i64 t.lag.lo, .int .i64 t.lag.hi, .int .i64 t.sq.lo, .int .i64 t.sq.hi, .int .i64 t.term, .slice Ah h.length ch, .slice Ai l.length ci, .slice Az nz cz] 116)) (.cells #[.slice Ar rs.length cr] 63)) (.map #[] 0)) (.cells #[.map (some (w.heap.size + 1 + 1))] 134)
  have qu : Blk ((((w.alloc (.cells #[.int .i64 t.g.base, .slice Ab t.g.bands.length cb, .slice Ad t.g.depths.length cd, .int .i64 t.g.blo, .int .i64 t.g.bhi, .int .i64 t.k.lo, .int .i64 t.k.hi, .int .i64 t.lag.lo, .int .i64 t.lag.hi, .int .i64 t.sq.lo, .int .i64 t.sq.hi, .int .i64 t.term, .slice Ah h.length ch, .slice Ai l.length ci, .slice Az nz cz] 116)).alloc (.cells #[.slice Ar rs.length cr] 63)).alloc (.map #[] 0)).alloc (.cells #[.map (some (w.heap.size + 1 + 1))] 134)) w.heap.size 116 #[.int .i64 t.g.base, .slice Ab t.g.bands.length cb, .slice Ad t.g.depths.length cd, .int .i64 t.g.blo, .int .i64 t.g.bhi, .int .i64 t.k.lo, .int .i64 t.k.hi, .int .i64 t.lag.lo, .int .i64 t.lag.hi, .int .i64 t.sq.lo, .int .i64 t.sq.hi, .int .i64 t.term, .slice Ah h.length ch, .slice Ai l.length ci, .slice Az nz cz] := (((Blk.new _ _ _).alloc _).alloc _).alloc _
  have ql : Blk ((((w.alloc (.cells #[.int .i64 t.g.base, .slice Ab t.g.bands.length cb, .slice Ad t.g.depths.length cd, .int .i64 t.g.blo, .int .i64 t.g.bhi, .int .i64 t.k.lo, .int .i64 t.k.hi, .int .i64 t.lag.lo, .int .i64 t.lag.hi, .int .i64 t.sq.lo, .int .i64 t.sq.hi, .int .i64 t.term, .slice Ah h.length ch, .slice Ai l.length ci, .slice Az nz cz] 116)).alloc (.cells #[.slice Ar rs.length cr] 63)).alloc (.map #[] 0)).alloc (.cells #[.map (some (w.heap.size + 1 + 1))] 134)) (w.heap.size + 1) 63 #[.slice Ar rs.length cr] := ((Blk.new' _ _ _ (by simp)).alloc _).alloc _
  have qo : Blk ((((w.alloc (.cells #[.int .i64 t.g.base, .slice Ab t.g.bands.length cb, .slice Ad t.g.depths.length cd, .int .i64 t.g.blo, .int .i64 t.g.bhi, .int .i64 t.k.lo, .int .i64 t.k.hi, .int .i64 t.lag.lo, .int .i64 t.lag.hi, .int .i64 t.sq.lo, .int .i64 t.sq.hi, .int .i64 t.term, .slice Ah h.length ch, .slice Ai l.length ci, .slice Az nz cz] 116)).alloc (.cells #[.slice Ar rs.length cr] 63)).alloc (.map #[] 0)).alloc (.cells #[.map (some (w.heap.size + 1 + 1))] 134)) (w.heap.size + 1 + 1 + 1) 134 #[.map (some (w.heap.size + 1 + 1))] := Blk.new' _ _ _ (by simp)
  have mp : MpN keyK cRg ((((w.alloc (.cells #[.int .i64 t.g.base, .slice Ab t.g.bands.length cb, .slice Ad t.g.depths.length cd, .int .i64 t.g.blo, .int .i64 t.g.bhi, .int .i64 t.k.lo, .int .i64 t.k.hi, .int .i64 t.lag.lo, .int .i64 t.lag.hi, .int .i64 t.sq.lo, .int .i64 t.sq.hi, .int .i64 t.term, .slice Ah h.length ch, .slice Ai l.length ci, .slice Az nz cz] 116)).alloc (.cells #[.slice Ar rs.length cr] 63)).alloc (.map #[] 0)).alloc (.cells #[.map (some (w.heap.size + 1 + 1))] 134)) (w.heap.size + 1 + 1) [] (fun _ => none) := (MpN.new ((w.alloc (.cells #[.int .i64 t.g.base, .slice Ab t.g.bands.length cb, .slice Ad t.g.depths.length cd, .int .i64 t.g.blo, .int .i64 t.g.bhi, .int .i64 t.k.lo, .int .i64 t.k.hi, .int .i64 t.lag.lo, .int .i64 t.lag.hi, .int .i64 t.sq.lo, .int .i64 t.sq.hi, .int .i64 t.term, .slice Ah h.length ch, .slice Ai l.length ci, .slice Az nz cz] 116)).alloc (.cells #[.slice Ar rs.length cr] 63)) (by simp)).of_block (Below.heap_alloc _ _ _ (by simp))
  go_upto_region 2 with fail
  show Code.wp _ _ _ _ ((((w.alloc (.cells #[.int .i64 t.g.base, .slice Ab t.g.bands.length cb, .slice Ad t.g.depths.length cd, .int .i64 t.g.blo, .int .i64 t.g.bhi, .int .i64 t.k.lo, .int .i64 t.k.hi, .int .i64 t.lag.lo, .int .i64 t.lag.hi, .int .i64 t.sq.lo, .int .i64 t.sq.hi, .int .i64 t.term, .slice Ah h.length ch, .slice Ai l.length ci, .slice Az nz cz] 116)).alloc (.cells #[.slice Ar rs.length cr] 63)).alloc (.map #[] 0)).alloc (.cells #[.map (some (w.heap.size + 1 + 1))] 134))
  have hs4 := hs.go hb4
  have hszV : (((((w.alloc (.cells #[.int .i64 t.g.base, .slice Ab t.g.bands.length cb, .slice Ad t.g.depths.length cd, .int .i64 t.g.blo, .int .i64 t.g.bhi, .int .i64 t.k.lo, .int .i64 t.k.hi, .int .i64 t.lag.lo, .int .i64 t.lag.hi, .int .i64 t.sq.lo, .int .i64 t.sq.hi, .int .i64 t.term, .slice Ah h.length ch, .slice Ai l.length ci, .slice Az nz cz] 116)).alloc (.cells #[.slice Ar rs.length cr] 63)).alloc (.map #[] 0)).alloc (.cells #[.map (some (w.heap.size + 1 + 1))] 134))).heap.size = w.heap.size + 1 + 1 + 1 + 1 := by simp
  obtain ⟨m, hm⟩ : ∃ p, w.heap.size + 1 + 1 = p := ⟨_, rfl⟩
  rw [hm] at hb4 hs4 hszV qu ql qo mp ⊢
  obtain ⟨po, hpo⟩ : ∃ p, m + 1 = p := ⟨_, rfl⟩
  rw [hpo] at qo ⊢
  obtain ⟨pl, hpl⟩ : ∃ p, w.heap.size + 1 = p := ⟨_, rfl⟩
  rw [hpl] at ql ⊢
  obtain ⟨pu, hpu⟩ : ∃ p, w.heap.size = p := ⟨_, rfl⟩
  rw [hpu] at qu ⊢
  have hord : w.heap.size ≤ m ∧ (pu < m ∧ pl < m ∧ m < po) := by omega
  generalize hV : ((((w.alloc (.cells #[.int .i64 t.g.base, .slice Ab t.g.bands.length cb, .slice Ad t.g.depths.length cd, .int .i64 t.g.blo, .int .i64 t.g.bhi, .int .i64 t.k.lo, .int .i64 t.k.hi, .int .i64 t.lag.lo, .int .i64 t.lag.hi, .int .i64 t.sq.lo, .int .i64 t.sq.hi, .int .i64 t.term, .slice Ah h.length ch, .slice Ai l.length ci, .slice Az nz cz] 116)).alloc (.cells #[.slice Ar rs.length cr] 63)).alloc (.map #[] 0)).alloc (.cells #[.map (some m)] 134)) = V at *
  clear hV
  have hpoV : po < V.heap.size := by omega
  clear hszV hpu hpl hm hpo hs
  have a0 : V.cell? ⟨pu, 0, none⟩ = some (.int .i64 t.g.base) := qu.cell 0
  have a1 : V.cell? ⟨pu, 1, none⟩ = some (.slice Ab t.g.bands.length cb) := qu.cell 1
  have a2 : V.cell? ⟨pu, 2, none⟩ = some (.slice Ad t.g.depths.length cd) := qu.cell 2
  have a3 : V.cell? ⟨pu, 3, none⟩ = some (.int .i64 t.g.blo) := qu.cell 3
  have a4 : V.cell? ⟨pu, 4, none⟩ = some (.int .i64 t.g.bhi) := qu.cell 4
  have a5 : V.cell? ⟨pu, 5, none⟩ = some (.int .i64 t.k.lo) := qu.cell 5
  have a6 : V.cell? ⟨pu, 6, none⟩ = some (.int .i64 t.k.hi) := qu.cell 6
  have a7 : V.cell? ⟨pu, 7, none⟩ = some (.int .i64 t.lag.lo) := qu.cell 7
  have a8 : V.cell? ⟨pu, 8, none⟩ = some (.int .i64 t.lag.hi) := qu.cell 8
  have a9 : V.cell? ⟨pu, 9, none⟩ = some (.int .i64 t.sq.lo) := qu.cell 9
  have a10 : V.cell? ⟨pu, 10, none⟩ = some (.int .i64 t.sq.hi) := qu.cell 10
  have a11 : V.cell? ⟨pu, 11, none⟩ = some (.int .i64 t.term) := qu.cell 11
  have la := qu.lt
  go_wp2_with fail
  refine (kinds_any t Ab Ad cb cd V).mono ?_
  rintro e W5 ⟨rfl, hW5⟩
  clear a0 a1 a2 a3 a4 a5 a6 a7 a8 a9 a10 a11 la
  have hb5 : Below V.heap.size V W5 := by rw [hW5]; exact ex_alloc (Below.refl _ _) _
  have qt : Blk W5 V.heap.size 45 #[.int .i64 t.g.base, .slice Ab t.g.bands.length cb, .slice Ad t.g.depths.length cd, .int .i64 t.g.blo, .int .i64 t.g.bhi, .int .i64 t.k.lo, .int .i64 t.k.hi, .int .i64 t.lag.lo, .int .i64 t.lag.hi, .int .i64 t.sq.lo, .int .i64 t.sq.hi, .int .i64 t.term] := by rw [hW5]; exact Blk.new _ _ _
  have hsz5 : W5.heap.size = V.heap.size + 1 := by rw [hW5]; simp
  obtain ⟨pt, hpt⟩ : ∃ p, V.heap.size = p := ⟨_, rfl⟩
  rw [hpt] at qt ⊢
  have mp5 := mp.of_block (W' := W5) (hb5.block m mp.1.lt)
  have hB5 := ex_trans hb4 hb5
  have hs5 := hs4.go hb5
  have hLW : LfW #[.int .i64 t.g.base, .slice Ab t.g.bands.length cb, .slice Ad t.g.depths.length cd, .int .i64 t.g.blo, .int .i64 t.g.bhi, .int .i64 t.k.lo, .int .i64 t.k.hi, .int .i64 t.lag.lo, .int .i64 t.lag.hi, .int .i64 t.sq.lo, .int .i64 t.sq.hi, .int .i64 t.term, .slice Ah h.length ch, .slice Ai l.length ci, .slice Az nz cz] #[.slice Ar rs.length cr] #[.int .i64 t.g.base, .slice Ab t.g.bands.length cb, .slice Ad t.g.depths.length cd, .int .i64 t.g.blo, .int .i64 t.g.bhi, .int .i64 t.k.lo, .int .i64 t.k.hi, .int .i64 t.lag.lo, .int .i64 t.lag.hi, .int .i64 t.sq.lo, .int .i64 t.sq.hi, .int .i64 t.term] w W5 pu pl m po pt W5 := ⟨Nat.le_refl _, hB5, qu.below hb5 qu.lt, ql.below hb5 ql.lt, qo.below hb5 qo.lt, qt, ⟨hord.1, by omega⟩, ⟨by omega, by omega, by omega, by omega⟩, ⟨by omega, by omega, by omega, by omega⟩⟩
  clear hW5 hs4 mp qu ql qo hsz5 hpt hpoV
  go_wp2_with fail
  have hIown : OwnFrom W5.heap.size (fun (pre : List (KiX t)) W => LfW #[.int .i64 t.g.base, .slice Ab t.g.bands.length cb, .slice Ad t.g.depths.length cd, .int .i64 t.g.blo, .int .i64 t.g.bhi, .int .i64 t.k.lo, .int .i64 t.k.hi, .int .i64 t.lag.lo, .int .i64 t.lag.hi, .int .i64 t.sq.lo, .int .i64 t.sq.hi, .int .i64 t.term, .slice Ah h.length ch, .slice Ai l.length ci, .slice Az nz cz] #[.slice Ar rs.length cr] #[.int .i64 t.g.base, .slice Ab t.g.bands.length cb, .slice Ad t.g.depths.length cd, .int .i64 t.g.blo, .int .i64 t.g.bhi, .int .i64 t.k.lo, .int .i64 t.k.hi, .int .i64 t.lag.lo, .int .i64 t.lag.hi, .int .i64 t.sq.lo, .int .i64 t.sq.hi, .int .i64 t.term] w W5 pu pl m po pt W ∧ SlAt W W5.heap.size 10 Ar rs.length (fE rs) ∧ ∃ L F, MpN keyK cRg W m L F ∧ Hid (LeftP t rs pre F)) := by
    rintro pre A C row ⟨h1, h2, L, F, h3, h4⟩ hgr hr
    have hlt : ∀ k, k < W5.heap.size → some k ≠ row := fun k hk e => by have := (hr k e.symm).1; omega
    exact ⟨h1.grown hgr (fun r e => (hr r e).1), h2.keep (Nat.le_refl _) (fun p hp => World.cell?_of_block (hgr.block _ (Nat.lt_of_lt_of_le hp h1.sz) (hlt _ hp))), L, F, h3.of_block (hgr.block m h3.1.lt (hlt _ h1.hm.2)), h4⟩
  refine (wpIn_wide (n := 5)).1 (wpIn_rangeFunc_ownH (F := Fence.wide) (n := 5) rfl (by omega) (gf := 126) (lb := #[.pointer (some ⟨pt, 0, none⟩)]) rfl trivial (enters_of Tryz.func126 (by kernel_rfl) rfl)
    (encs := fun x : KiX t => encK x) (Kp := KeepsBox pt) (S := fun xs => HasK t xs) (Sp := fun _ => True) (N := 2200) (w0 := W5)
    (fun l J Jx W hW hJ hJx hY h0 => (kinds1_in 4 t Ab Ad cb cd ht l pt J Jx W (qt.below hW qt.lt) hY h0).mono
      (fun e W' hp => ⟨hp.1, hp.2.imp id (fun ⟨pre, hpre⟩ => ⟨pre, trivial, hpre⟩)⟩))
    (fun h k => h.trans k) (fun W l o o' hl ho _ _ => ⟨by simp, World.putObj_heap_other (by have := hLW.hu.2.2.2; omega)⟩) (Below.refl _ _) (fun _ => rfl)
    (fun (pre : List (KiX t)) W => LfW #[.int .i64 t.g.base, .slice Ab t.g.bands.length cb, .slice Ad t.g.depths.length cd, .int .i64 t.g.blo, .int .i64 t.g.bhi, .int .i64 t.k.lo, .int .i64 t.k.hi, .int .i64 t.lag.lo, .int .i64 t.lag.hi, .int .i64 t.sq.lo, .int .i64 t.sq.hi, .int .i64 t.term, .slice Ah h.length ch, .slice Ai l.length ci, .slice Az nz cz] #[.slice Ar rs.length cr] #[.int .i64 t.g.base, .slice Ab t.g.bands.length cb, .slice Ad t.g.depths.length cd, .int .i64 t.g.blo, .int .i64 t.g.bhi, .int .i64 t.k.lo, .int .i64 t.k.hi, .int .i64 t.lag.lo, .int .i64 t.lag.hi, .int .i64 t.sq.lo, .int .i64 t.sq.hi, .int .i64 t.term] w W5 pu pl m po pt W ∧ SlAt W W5.heap.size 10 Ar rs.length (fE rs) ∧ ∃ L F, MpN keyK cRg W m L F ∧ Hid (LeftP t rs pre F))
    (fun _ _ _ => False) hIown (fun _ _ _ _ _ hs _ _ => hs) ⟨hLW, hs5, [], _, mp5, Lib.hid (fun q => ⟨fun hq => by simp at hq, fun _ => rfl⟩)⟩
    (fun (x : KiX t) a' W => ∃ pk, W5.heap.size ≤ pk ∧ Blk W pk 137 #[.int .i64 x.1.k, .int .i64 x.1.lag, .int .i64 x.1.sq] ∧ a' = ⟨#[.agg #[.int .i64 t.g.base, .slice Ab t.g.bands.length cb, .slice Ad t.g.depths.length cd, .int .i64 t.g.blo, .int .i64 t.g.bhi, .int .i64 t.k.lo, .int .i64 t.k.hi, .int .i64 t.lag.lo, .int .i64 t.lag.hi, .int .i64 t.sq.lo, .int .i64 t.sq.hi, .int .i64 t.term, .slice Ah h.length ch, .slice Ai l.length ci, .slice Az nz cz], .slice Ar rs.length cr, .pointer (some ⟨pu, 0, none⟩), .pointer (some ⟨pl, 0, none⟩), .map none, .pointer (some ⟨po, 0, none⟩), .pointer (some ⟨pk, 0, none⟩), undef, undef, undef, undef, .map (some m), .pointer (some ⟨pu, 0, none⟩), .agg #[.int .i64 t.g.base, .slice Ab t.g.bands.length cb, .slice Ad t.g.depths.length cd, .int .i64 t.g.blo, .int .i64 t.g.bhi, .int .i64 t.k.lo, .int .i64 t.k.hi, .int .i64 t.lag.lo, .int .i64 t.lag.hi, .int .i64 t.sq.lo, .int .i64 t.sq.hi, .int .i64 t.term], .func (.func 126) #[] #[.pointer (some ⟨pt, 0, none⟩)], .agg #[.int .i64 x.1.k, .int .i64 x.1.lag, .int .i64 x.1.sq], undef, undef, undef, undef, undef, undef, undef, undef, undef, undef, undef, undef, undef, undef, undef, undef, undef, undef, undef, undef, undef, undef, undef, undef, undef, undef, undef, undef, undef, undef, undef, undef, undef, undef, undef, undef, undef, undef], []⟩)
    ?hAx ?assign ?body ?done ?stop)
  case hAx =>
    rintro x a' _ A C row ⟨pk, h1, h2, h3⟩ hgr hr
    exact ⟨pk, h1, h2.grown hgr (fun e => by obtain ⟨_, o, ho, hc⟩ := hr _ e.symm; rw [h2] at ho; cases ho; cases hc), h3⟩
  case stop => rintro D c pre W _ _ hf _; exact hf.elim
  case assign =>
    rintro l pre x W K hi hK
    unfold encK
    gi_wp2
    exact hK _ _ ((KeepsOthers.alloc W _).from _) ⟨by simp, Below.heap_alloc W _ pt hi.1.qt.lt⟩ (hIown.alloc _ hi) ⟨W.heap.size, hi.1.sz, Blk.new W _ _, rfl⟩
  case done =>
    rintro D xs W hD hxs ⟨h1, h2, L, F, h3, h4⟩ hDd
    have c1 : W.cell? ⟨po, 0, none⟩ = some (.map (some m)) := h1.qo.cell 0
    have lc := h1.qo.lt
    go_wp2
    show LeavesInM _ _ _ _ _ _ _ _ _
    refine leaves_marks w.heap.size _ W ⟨D, rfl, hDd, by simp, trivial⟩ (fun d hd D' hD' => ?_) (fun W' hW' => ⟨_, results_tmp rfl _ _ _, ⟨m, L, F, rfl, h3.of_block ((hW'.same _ _ h3.1 (fun x e => by cases e)).trans h3.1.symm), Lib.hid (leftP_all h4.out hxs)⟩, hW'.below h1.b⟩)
    rcases List.mem_singleton.1 hd with rfl
    injection hD' with hD'
    have := hB5.size
    omega
  case body =>
    rintro l' pre x a' W hl' ⟨r', hr'⟩ ⟨h1, h2, L, F, h3, h4⟩ ⟨pk, hpk, qk, rfl⟩ hlen
    clear hIown mp5 hs5 hLW qt hb4 hb5 hB5
    skip
    have hxq := x.2
    obtain ⟨q, hxe⟩ : ∃ q, x.1 = q := ⟨_, rfl⟩
    rw [hxe] at hxq qk
    have HXE := Lib.hid hxe
    simp only [hxe]
    clear hxe
    have hqb := hxq.bd ht
    have hr0 := hR 0 h0
    have hbb := bnd_bd ht hr0
    have h2W := h2
    replace h2 := h2.up h1.sz
    have hF : Fr (fun k => k = m) W W := Fr.refl _ _
    have h3W := h3.1
    have h1W := h1.sz
    skip
    have HM : Hid (Mid rs q (bndP t (gE rs 0)).lo (bndP t (gE rs 0)).hi (bndP t (gE rs 0)).lo (F q)) := Lib.hid (mid_start (by
      by_cases hin : q ∈ pre.map (·.1)
      · exact .inr ((h4.out q).1 hin)
      · exact .inl ((h4.out q).2 hin)))
    obtain ⟨bi, oi, rfl, hbi, g0, g1, g2, g3, g4, g5, g6, g7, g8, g9⟩ := IsRds.at10 h2 h0
    rw [Nat.zero_mul, Nat.add_zero] at g0 g1 g2 g3 g4 g5 g6 g7 g8 g9
    have a0 : W.cell? ⟨pu, 0, none⟩ = some (.int .i64 t.g.base) := h1.qu.cell 0
    have a1 : W.cell? ⟨pu, 1, none⟩ = some (.slice Ab t.g.bands.length cb) := h1.qu.cell 1
    have a2 : W.cell? ⟨pu, 2, none⟩ = some (.slice Ad t.g.depths.length cd) := h1.qu.cell 2
    have a3 : W.cell? ⟨pu, 3, none⟩ = some (.int .i64 t.g.blo) := h1.qu.cell 3
    have a4 : W.cell? ⟨pu, 4, none⟩ = some (.int .i64 t.g.bhi) := h1.qu.cell 4
    have a5 : W.cell? ⟨pu, 5, none⟩ = some (.int .i64 t.k.lo) := h1.qu.cell 5
    have a6 : W.cell? ⟨pu, 6, none⟩ = some (.int .i64 t.k.hi) := h1.qu.cell 6
    have a7 : W.cell? ⟨pu, 7, none⟩ = some (.int .i64 t.lag.lo) := h1.qu.cell 7
    have a8 : W.cell? ⟨pu, 8, none⟩ = some (.int .i64 t.lag.hi) := h1.qu.cell 8
    have a9 : W.cell? ⟨pu, 9, none⟩ = some (.int .i64 t.sq.lo) := h1.qu.cell 9
    have a10 : W.cell? ⟨pu, 10, none⟩ = some (.int .i64 t.sq.hi) := h1.qu.cell 10
    have a11 : W.cell? ⟨pu, 11, none⟩ = some (.int .i64 t.term) := h1.qu.cell 11
    have la := h1.qu.lt
    have e0 : W.cell? ⟨pl, 0, none⟩ = some (.slice (some ⟨bi, oi, none⟩) rs.length cr) := h1.ql.cell 0
    have le0 := h1.ql.lt
    have hr0i : (0 : Int) < (rs.length : Int) := by omega
    gi_wp2_with fail
    refine wpIn_region_ext_tq 8 (.quiet 0 (.quiet 1 (.quiet 2 (.quiet 3 (.quiet 4 (.quiet 5 (.fork 6 (.loud 7 .done) 7 (.loud 6 .done)))))))) (by kernel_rfl) (by kernel_rfl) (by kernel_rfl) (by rintro ⟨_, _, hf⟩; exact hf) (by intro d _ _ _ _ h; cases d <;> exact h) ?_
    have D0 := (Below.refl W.heap.size W).drew
    repeat (refine tq_quiet rfl ?_; go_big_quiet_step (fail); refine wpQuiet_nil ?_)
    refine tq_fork rfl rfl ?_ ?_
    · go_wp2_with fail
      refine (sm_bounds t Ab Ad cb cd (gE rs 0) _ ht hr0).mono ?_
      rintro e V21 ⟨rfl, hV21⟩
      have N6 := ex_trans ((Below.refl W.heap.size W)).drew hV21
      go_wp2_with fail
      refine ⟨inEx N6, ?_⟩
      refine tq_loud rfl ?_
      go_wp2_with fail
      have sb := (N6).size
      try simp at sb
      have N7 := ex_alloc N6 (.cells #[.int .i64 0, .int .i64 0] 41)
      have bb : Blk (V21.alloc (.cells #[.int .i64 0, .int .i64 0] 41)) (V21.heap.size) 41 #[.int .i64 0, .int .i64 0] := Blk.new' _ _ _ (by first | rfl | (simp; done) | (simp; omega))
      obtain ⟨pb, hpb⟩ : ∃ p, V21.heap.size = p := ⟨_, rfl⟩
      rw [hpb] at bb
      try rw [hpb]
      have yb : W.heap.size ≤ pb := by omega
      clear sb
      refine ⟨inEx N7, ?_⟩
      refine tq_done (r := [_]) rfl ?_
      have XA99 := N7
      generalize (V21.alloc (.cells #[.int .i64 0, .int .i64 0] 41)) = V22 at *
      have sc0 : V22.cell? ⟨pb, 0, none⟩ = some (.int .i64 0) := bb.cell 0
      have sc1 : V22.cell? ⟨pb, 1, none⟩ = some (.int .i64 0) := bb.cell 1
      have sf := bb.frozen0
      have sl := bb.lt
      go_wp2_with fail
      replace bb := bb.set_ 0 (.int .i64 (bndP t (gE rs 0)).lo)
      replace XA99 := ex_set (p := ⟨pb, 0, none⟩) XA99 yb (.int .i64 (bndP t (gE rs 0)).lo)
      replace bb := bb.set_ 1 (.int .i64 (bndP t (gE rs 0)).hi)
      replace XA99 := ex_set (p := ⟨pb, 1, none⟩) XA99 yb (.int .i64 (bndP t (gE rs 0)).hi)
      simp only [List.setIfInBounds_toArray, List.set_cons_zero, List.set_cons_succ] at bb
      clear sf sl sc0 sc1
      generalize ((V22.setCell ⟨pb, 0, none⟩ (.int .i64 (bndP t (gE rs 0)).lo)).setCell ⟨pb, 1, none⟩ (.int .i64 (bndP t (gE rs 0)).hi)) = V23 at *
      have XX := XA99
      have XS := XX.size
      replace h1 := h1.go XX
      replace h2 := h2.go XX
      replace h3 := h3.go XX
      replace qk := qk.below XX qk.lt
      replace hF := hF.go XX
      clear D0 XX XS XA99 N7 hV21 N6 hpb
      generalize V23 = V24 at *
      clear a0 a1 a2 a3 a4 a5 a6 a7 a8 a9 a10 a11 la e0 le0 g0 g1 g2 g3 g4 g5 g6 g7 g8 g9 hbi
      have hyb5 : W5.heap.size ≤ pb := by omega
      clear yb
      obtain ⟨lo, hlo⟩ : ∃ v, (bndP t (gE rs 0)).lo = v := ⟨_, rfl⟩
      obtain ⟨hi', hhi⟩ : ∃ v, (bndP t (gE rs 0)).hi = v := ⟨_, rfl⟩
      rw [hlo, hhi] at bb HM hbb
      have HLO := Lib.hid hlo
      have HHI := Lib.hid hhi
      simp only [hlo, hhi]
      clear hlo hhi
      have u0 := bb.cell 0
      have u1 := bb.cell 1
      have lb := bb.lt
      simp at u0 u1
      have NA := ex_alloc (Below.refl V24.heap.size V24) (.cells #[.int .i64 lo] 3)
      have bn : Blk (V24.alloc (.cells #[.int .i64 lo] 3)) V24.heap.size 3 #[.int .i64 lo] := Blk.new _ _ _
      have yn := h1.sz
      gi_wp2_with fail
      replace h1 := h1.go NA
      replace h2 := h2.go NA
      replace h3 := h3.go NA
      replace qk := qk.below NA qk.lt
      replace hF := hF.go NA
      replace bb := bb.below NA bb.lt
      obtain ⟨pn, hpn⟩ : ∃ p, V24.heap.size = p := ⟨_, rfl⟩
      rw [hpn] at bn yn ⊢
      clear hpn NA
      generalize V24.alloc (.cells #[.int .i64 lo] 3) = V25 at *
      clear u0 u1 lb
      have HF0 : Hid (∀ q', q' ≠ q → F q' = F q') := Lib.hid (fun _ _ => rfl)
      refine wpIn_loop (fun a V => Rel (fun a V => ∃ N : Int, lo ≤ N ∧ N ≤ hi' + 1 ∧ ∃ pn, ∃ L F', LfW #[.int .i64 t.g.base, .slice Ab t.g.bands.length cb, .slice Ad t.g.depths.length cd, .int .i64 t.g.blo, .int .i64 t.g.bhi, .int .i64 t.k.lo, .int .i64 t.k.hi, .int .i64 t.lag.lo, .int .i64 t.lag.hi, .int .i64 t.sq.lo, .int .i64 t.sq.hi, .int .i64 t.term, .slice Ah h.length ch, .slice Ai l.length ci, .slice Az nz cz] #[.slice (some ⟨bi, oi, none⟩) rs.length cr] #[.int .i64 t.g.base, .slice Ab t.g.bands.length cb, .slice Ad t.g.depths.length cd, .int .i64 t.g.blo, .int .i64 t.g.bhi, .int .i64 t.k.lo, .int .i64 t.k.hi, .int .i64 t.lag.lo, .int .i64 t.lag.hi, .int .i64 t.sq.lo, .int .i64 t.sq.hi, .int .i64 t.term] w W5 pu pl m po pt V ∧ SlAt V V.heap.size 10 (some ⟨bi, oi, none⟩) rs.length (fE rs) ∧ MpN keyK cRg V m L F' ∧ Hid (Mid rs q lo hi' N (F' q)) ∧ Hid (∀ q', q' ≠ q → F' q' = F q') ∧ Blk V pk 137 #[.int .i64 q.k, .int .i64 q.lag, .int .i64 q.sq] ∧ Blk V pb 41 #[.int .i64 lo, .int .i64 hi'] ∧ Blk V pn 3 #[.int .i64 N] ∧ (W5.heap.size ≤ pn ∧ Fr (fun k => k = m) W V) ∧ ∃ u : Nat → Value, a = ⟨List.toArray (u 0 :: u 1 :: .pointer (some ⟨pu, 0, none⟩) :: .pointer (some ⟨pl, 0, none⟩) :: u 4 :: .pointer (some ⟨po, 0, none⟩) :: .pointer (some ⟨pk, 0, none⟩) :: .pointer (some ⟨pb, 0, none⟩) :: .pointer (some ⟨pn, 0, none⟩) :: u 9 :: u 10 :: u 11 :: u 12 :: u 13 :: u 14 :: u 15 :: u 16 :: u 17 :: u 18 :: u 19 :: u 20 :: u 21 :: u 22 :: u 23 :: u 24 :: u 25 :: u 26 :: u 27 :: u 28 :: u 29 :: u 30 :: u 31 :: u 32 :: u 33 :: u 34 :: u 35 :: u 36 :: u 37 :: u 38 :: u 39 :: u 40 :: u 41 :: u 42 :: u 43 :: u 44 :: u 45 :: u 46 :: u 47 :: u 48 :: u 49 :: u 50 :: u 51 :: u 52 :: u 53 :: []), []⟩) a V)
        (fun a V => lfM hi' a V) ⟨⟨lo, Int.le_refl _, by omega, pn, L, F, h1, h2, h3, HM, HF0, qk, bb, bn, ⟨by omega, hF⟩, exFrame (by kernel_rfl)⟩⟩ ?_
      clear h1 h2 h3 HM HF0 qk bb bn hF yn
      rintro a V ⟨⟨N, hN0, hN1, pn, L, F', h1, h2, h3, HM, HF, qk, bb, bn, ⟨hpn, hF⟩, u, rfl⟩⟩
      have HLM := Lib.hid (lfM_eq (hi := hi') (V := V) (a := ⟨List.toArray (u 0 :: u 1 :: .pointer (some ⟨pu, 0, none⟩) :: .pointer (some ⟨pl, 0, none⟩) :: u 4 :: .pointer (some ⟨po, 0, none⟩) :: .pointer (some ⟨pk, 0, none⟩) :: .pointer (some ⟨pb, 0, none⟩) :: .pointer (some ⟨pn, 0, none⟩) :: u 9 :: u 10 :: u 11 :: u 12 :: u 13 :: u 14 :: u 15 :: u 16 :: u 17 :: u 18 :: u 19 :: u 20 :: u 21 :: u 22 :: u 23 :: u 24 :: u 25 :: u 26 :: u 27 :: u 28 :: u 29 :: u 30 :: u 31 :: u 32 :: u 33 :: u 34 :: u 35 :: u 36 :: u 37 :: u 38 :: u 39 :: u 40 :: u 41 :: u 42 :: u 43 :: u 44 :: u 45 :: u 46 :: u 47 :: u 48 :: u 49 :: u 50 :: u 51 :: u 52 :: u 53 :: []), []⟩) rfl bn)
      by_cases hle : N ≤ hi'
      · have n0 : V.cell? ⟨pn, 0, none⟩ = some (.int .i64 N) := bn.cell 0
        have ln := bn.lt
        have u1 : V.cell? ⟨pb, 1, none⟩ = some (.int .i64 hi') := bb.cell 1
        have lb := bb.lt
        have e0 : V.cell? ⟨pl, 0, none⟩ = some (.slice (some ⟨bi, oi, none⟩) rs.length cr) := h1.ql.cell 0
        have le0 := h1.ql.lt
        gi_wp2_with fail
        refine ⟨trivial, CallsIn.inRound l' (callsIn_wide.2 ((all_left pu pk pn (fun k => saysB (gE rs k) q N) rs rs.length _ _ V h2 hrl (fun k W6 hk hW => sm_left1 t Ab Ad Ah Ai Az cb cd ch ci cz nz h l (gE rs k) q N pu pk pn W6 (h1.qu.below hW h1.qu.lt) (qk.below hW qk.lt) (bn.below hW bn.lt) (hR k hk) hqb)).mono ?_))⟩
        rintro e V41 ⟨rfl, hV41⟩
        clear n0 ln u1 lb e0 le0
        replace h1 := h1.go hV41
        replace h2 := h2.go hV41
        replace h3 := h3.go hV41
        replace qk := qk.below hV41 qk.lt
        replace bb := bb.below hV41 bb.lt
        replace bn := bn.below hV41 bn.lt
        replace hF := hF.go hV41
        clear hV41
        have hsy : allTo (fun k => saysB (gE rs k) q N) rs.length = sayAll rs q N := rfl
        rw [hsy]
        clear hsy
        cases hsa : sayAll rs q N
        · have HM2 := Lib.hid (mid_no HM.out hsa)
          clear hsa
          have n0 : V41.cell? ⟨pn, 0, none⟩ = some (.int .i64 N) := bn.cell 0
          have ln := bn.lt
          have NA := ex_alloc (Below.refl V41.heap.size V41) (.cells #[.int .i64 (N + 1)] 3)
          have bm : Blk (V41.alloc (.cells #[.int .i64 (N + 1)] 3)) V41.heap.size 3 #[.int .i64 (N + 1)] := Blk.new _ _ _
          have hyn := h1.sz
          skip
          gi_wp2_with fail
          replace h1 := h1.go NA
          replace h2 := h2.go NA
          replace h3 := h3.go NA
          replace qk := qk.below NA qk.lt
          replace bb := bb.below NA bb.lt
          replace bn := bn.below NA bn.lt
          replace hF := hF.go NA
          refine ⟨⟨⟨N + 1, by omega, by omega, V41.heap.size, L, F', h1, h2, h3, HM2, HF, qk, bb, bm, ⟨hyn, hF⟩, exFrame (by kernel_rfl)⟩⟩, ?_⟩
          rw [lfM_eq (hi := hi') (N := N + 1) (pn := V41.heap.size) rfl bm, HLM.out]
          omega
        · have HM2 := Lib.hid (mid_yes HM.out hN0 hle hsa)
          clear hsa
          cases hfq : F' q with
          | none =>
            skip
            have p0 : V41.cell? ⟨po, 0, none⟩ = some (.map (some m)) := h1.qo.cell 0
            have lpo := h1.qo.lt
            have k0 : V41.cell? ⟨pk, 0, none⟩ = some (.int .i64 q.k) := qk.cell 0
            have k1 : V41.cell? ⟨pk, 1, none⟩ = some (.int .i64 q.lag) := qk.cell 1
            have k2 : V41.cell? ⟨pk, 2, none⟩ = some (.int .i64 q.sq) := qk.cell 2
            have lk := qk.lt
            have n0 : V41.cell? ⟨pn, 0, none⟩ = some (.int .i64 N) := bn.cell 0
            have ln := bn.lt
            have hlk := lk_none h3.is q hfq
            rw [hfq] at HM2
            have HM3 : Hid (Mid rs q lo hi' (N + 1) (some ⟨N, N⟩)) := HM2
            clear HM2 hfq
            have NA := ex_alloc (Below.refl V41.heap.size V41) (.cells #[.int .i64 N, .int .i64 N] 41)
            have hlt9 : V41.heap.size < (V41.alloc (.cells #[.int .i64 N, .int .i64 N] 41)).heap.size := by simp
            have h3a := h3.go NA
            obtain ⟨o, L2, hup, h3b⟩ := MpN.put (et := 41) Tryz.underlying134 keyK_fd h3a q (⟨N, N⟩ : Rg)
            unfold keyK cRg at hup
            simp only at hup
            have hP : Fr (fun k => k = m) (V41.alloc (.cells #[.int .i64 N, .int .i64 N] 41)) ((V41.alloc (.cells #[.int .i64 N, .int .i64 N] 41)).putObj m o) := fr_putO _ _ m o rfl
            have hmm := h1.hm
            have g1 := (h1.go NA).fr hP
            have g2 := ((h2.go NA).map10 (Nat.le_refl _) h3a.1 hP).up hP.size
            have gk := (qk.below NA qk.lt).fr hP (by omega)
            have gb := (bb.below NA bb.lt).fr hP (by omega)
            have gn := (bn.below NA bn.lt).fr hP (by omega)
            have gF := (hF.go NA).trans hP (fun _ _ h => h)
            have n1 : ((V41.alloc (.cells #[.int .i64 N, .int .i64 N] 41)).putObj m o).cell? ⟨pn, 0, none⟩ = some (.int .i64 N) := gn.cell 0
            have ln1 := gn.lt
            have NB := ex_alloc (Below.refl ((V41.alloc (.cells #[.int .i64 N, .int .i64 N] 41)).putObj m o).heap.size ((V41.alloc (.cells #[.int .i64 N, .int .i64 N] 41)).putObj m o)) (.cells #[.int .i64 (N + 1)] 3)
            have bm : Blk (((V41.alloc (.cells #[.int .i64 N, .int .i64 N] 41)).putObj m o).alloc (.cells #[.int .i64 (N + 1)] 3)) (V41.heap.size + 1) 3 #[.int .i64 (N + 1)] := Blk.new' _ _ _ (by simp)
            have hyn : W5.heap.size ≤ V41.heap.size + 1 := by have := h1.sz; omega
            have HF2 : Hid (∀ q', q' ≠ q → (fun x => if x = q then some (⟨N, N⟩ : Rg) else F' x) q' = F q') := Lib.hid (fun q' hq' => by
              show (if q' = q then _ else _) = _
              rw [if_neg hq']; exact HF.out q' hq')
            have HM4 : Hid (Mid rs q lo hi' (N + 1) ((fun x => if x = q then some (⟨N, N⟩ : Rg) else F' x) q)) := Lib.hid (by
              show Mid rs q lo hi' (N + 1) (if q = q then _ else _)
              rw [if_pos rfl]; exact HM3.out)
            generalize (fun x => if x = q then some (⟨N, N⟩ : Rg) else F' x) = F2 at *
            gi_wp2_with fail
            refine ⟨⟨⟨N + 1, by omega, by omega, V41.heap.size + 1, L2, F2, g1.go NB, g2.go NB, h3b.go NB, HM4, HF2, gk.below NB gk.lt, gb.below NB gb.lt, bm, ⟨hyn, gF.go NB⟩, exFrame (by kernel_rfl)⟩⟩, ?_⟩
            rw [lfM_eq (hi := hi') (N := N + 1) (pn := V41.heap.size + 1) rfl bm, HLM.out]
            omega
          | some R =>
            skip
            have p0 : V41.cell? ⟨po, 0, none⟩ = some (.map (some m)) := h1.qo.cell 0
            have lpo := h1.qo.lt
            have k0 : V41.cell? ⟨pk, 0, none⟩ = some (.int .i64 q.k) := qk.cell 0
            have k1 : V41.cell? ⟨pk, 1, none⟩ = some (.int .i64 q.lag) := qk.cell 1
            have k2 : V41.cell? ⟨pk, 2, none⟩ = some (.int .i64 q.sq) := qk.cell 2
            have lk := qk.lt
            have n0 : V41.cell? ⟨pn, 0, none⟩ = some (.int .i64 N) := bn.cell 0
            have ln := bn.lt
            have hlk := lk_some h3.is q hfq
            rw [hfq] at HM2
            have HM3 : Hid (Mid rs q lo hi' (N + 1) (some ⟨R.lo, N⟩)) := HM2
            clear HM2 hfq
            have NA := ex_alloc (Below.refl V41.heap.size V41) (.cells #[.int .i64 R.lo, .int .i64 R.hi] 41)
            have hlt9 : V41.heap.size < (V41.alloc (.cells #[.int .i64 R.lo, .int .i64 R.hi] 41)).heap.size := by simp
            have h3a := h3.go NA
            obtain ⟨o, L2, hup, h3b⟩ := MpN.put (et := 41) Tryz.underlying134 keyK_fd h3a q (⟨R.lo, N⟩ : Rg)
            unfold keyK cRg at hup
            simp only at hup
            have hP : Fr (fun k => k = m) (V41.alloc (.cells #[.int .i64 R.lo, .int .i64 R.hi] 41)) ((V41.alloc (.cells #[.int .i64 R.lo, .int .i64 R.hi] 41)).putObj m o) := fr_putO _ _ m o rfl
            have hmm := h1.hm
            have g1 := (h1.go NA).fr hP
            have g2 := ((h2.go NA).map10 (Nat.le_refl _) h3a.1 hP).up hP.size
            have gk := (qk.below NA qk.lt).fr hP (by omega)
            have gb := (bb.below NA bb.lt).fr hP (by omega)
            have gn := (bn.below NA bn.lt).fr hP (by omega)
            have gF := (hF.go NA).trans hP (fun _ _ h => h)
            have n1 : ((V41.alloc (.cells #[.int .i64 R.lo, .int .i64 R.hi] 41)).putObj m o).cell? ⟨pn, 0, none⟩ = some (.int .i64 N) := gn.cell 0
            have ln1 := gn.lt
            have NB := ex_alloc (Below.refl ((V41.alloc (.cells #[.int .i64 R.lo, .int .i64 R.hi] 41)).putObj m o).heap.size ((V41.alloc (.cells #[.int .i64 R.lo, .int .i64 R.hi] 41)).putObj m o)) (.cells #[.int .i64 (N + 1)] 3)
            have bm : Blk (((V41.alloc (.cells #[.int .i64 R.lo, .int .i64 R.hi] 41)).putObj m o).alloc (.cells #[.int .i64 (N + 1)] 3)) (V41.heap.size + 1) 3 #[.int .i64 (N + 1)] := Blk.new' _ _ _ (by simp)
            have hyn : W5.heap.size ≤ V41.heap.size + 1 := by have := h1.sz; omega
            have HF2 : Hid (∀ q', q' ≠ q → (fun x => if x = q then some (⟨R.lo, N⟩ : Rg) else F' x) q' = F q') := Lib.hid (fun q' hq' => by
              show (if q' = q then _ else _) = _
              rw [if_neg hq']; exact HF.out q' hq')
            have HM4 : Hid (Mid rs q lo hi' (N + 1) ((fun x => if x = q then some (⟨R.lo, N⟩ : Rg) else F' x) q)) := Lib.hid (by
              show Mid rs q lo hi' (N + 1) (if q = q then _ else _)
              rw [if_pos rfl]; exact HM3.out)
            generalize (fun x => if x = q then some (⟨R.lo, N⟩ : Rg) else F' x) = F2 at *
            gi_wp2_with fail
            refine ⟨⟨⟨N + 1, by omega, by omega, V41.heap.size + 1, L2, F2, g1.go NB, g2.go NB, h3b.go NB, HM4, HF2, gk.below NB gk.lt, gb.below NB gb.lt, bm, ⟨hyn, gF.go NB⟩, exFrame (by kernel_rfl)⟩⟩, ?_⟩
            rw [lfM_eq (hi := hi') (N := N + 1) (pn := V41.heap.size + 1) rfl bm, HLM.out]
            omega
      · have n0 : V.cell? ⟨pn, 0, none⟩ = some (.int .i64 N) := bn.cell 0
        have ln := bn.lt
        have u1 : V.cell? ⟨pb, 1, none⟩ = some (.int .i64 hi') := bb.cell 1
        have lb := bb.lt
        have hmm := h1.hm
        have hpe := h1.ne.2.2.2
        have hpu := h1.hu.2.2.2
        have HE : Hid (LeftP t rs (pre ++ [x]) F') := Lib.hid (leftP_snoc h4.out HXE.out (by
          rw [HLO.out, HHI.out]
          have e : N = hi' + 1 := by omega
          have := HM.out
          rw [e] at this
          exact mid_end this) HF.out)
        have hg2 := (h2W.map10 h1W h3W hF)
        gi_wp2_with fail
        refine ⟨⟨hF.size, fun k o hB ho _ => (hF.block k (Array.getElem?_eq_some_iff.1 ho).1 (by omega)).trans ho⟩, ⟨hF.size, hF.block pt (by omega) hpe⟩, h1, hg2, L, F', h3, HE⟩
    · go_wp2_with fail
      have sb := ((Below.refl W.heap.size W)).size
      try simp at sb
      have N7 := ex_alloc (Below.refl W.heap.size W) (.cells #[.int .i64 0, .int .i64 0] 41)
      have bb : Blk (W.alloc (.cells #[.int .i64 0, .int .i64 0] 41)) (W.heap.size) 41 #[.int .i64 0, .int .i64 0] := Blk.new' _ _ _ (by first | rfl | (simp; done) | (simp; omega))
      obtain ⟨pb, hpb⟩ : ∃ p, W.heap.size = p := ⟨_, rfl⟩
      rw [hpb] at bb
      try rw [hpb]
      have yb : W.heap.size ≤ pb := by omega
      clear sb
      refine ⟨inEx (N7).drew, ?_⟩
      refine tq_loud rfl ?_
      go_wp2_with fail
      refine (sm_bounds t Ab Ad cb cd (gE rs 0) _ ht hr0).mono ?_
      rintro e V42 ⟨rfl, hV42⟩
      replace bb := Blk.below (Blk.drew bb) hV42 bb.lt
      have N6 := ex_trans (N7).drew hV42
      go_wp2_with fail
      refine ⟨inEx N6, ?_⟩
      refine tq_done (r := [_]) rfl ?_
      have XA99 := N6
      generalize V42 = V43 at *
      have sc0 : V43.cell? ⟨pb, 0, none⟩ = some (.int .i64 0) := bb.cell 0
      have sc1 : V43.cell? ⟨pb, 1, none⟩ = some (.int .i64 0) := bb.cell 1
      have sf := bb.frozen0
      have sl := bb.lt
      go_wp2_with fail
      replace bb := bb.set_ 0 (.int .i64 (bndP t (gE rs 0)).lo)
      replace XA99 := ex_set (p := ⟨pb, 0, none⟩) XA99 yb (.int .i64 (bndP t (gE rs 0)).lo)
      replace bb := bb.set_ 1 (.int .i64 (bndP t (gE rs 0)).hi)
      replace XA99 := ex_set (p := ⟨pb, 1, none⟩) XA99 yb (.int .i64 (bndP t (gE rs 0)).hi)
      simp only [List.setIfInBounds_toArray, List.set_cons_zero, List.set_cons_succ] at bb
      clear sf sl sc0 sc1
      generalize ((V43.setCell ⟨pb, 0, none⟩ (.int .i64 (bndP t (gE rs 0)).lo)).setCell ⟨pb, 1, none⟩ (.int .i64 (bndP t (gE rs 0)).hi)) = V44 at *
      have XX := XA99
      have XS := XX.size
      replace h1 := h1.go XX
      replace h2 := h2.go XX
      replace h3 := h3.go XX
      replace qk := qk.below XX qk.lt
      replace hF := hF.go XX
      clear D0 XX XS XA99 hV42 N6 N7 hpb
      generalize V44 = V45 at *
      clear a0 a1 a2 a3 a4 a5 a6 a7 a8 a9 a10 a11 la e0 le0 g0 g1 g2 g3 g4 g5 g6 g7 g8 g9 hbi
      have hyb5 : W5.heap.size ≤ pb := by omega
      clear yb
      obtain ⟨lo, hlo⟩ : ∃ v, (bndP t (gE rs 0)).lo = v := ⟨_, rfl⟩
      obtain ⟨hi', hhi⟩ : ∃ v, (bndP t (gE rs 0)).hi = v := ⟨_, rfl⟩
      rw [hlo, hhi] at bb HM hbb
      have HLO := Lib.hid hlo
      have HHI := Lib.hid hhi
      simp only [hlo, hhi]
      clear hlo hhi
      have u0 := bb.cell 0
      have u1 := bb.cell 1
      have lb := bb.lt
      simp at u0 u1
      have NA := ex_alloc (Below.refl V45.heap.size V45) (.cells #[.int .i64 lo] 3)
      have bn : Blk (V45.alloc (.cells #[.int .i64 lo] 3)) V45.heap.size 3 #[.int .i64 lo] := Blk.new _ _ _
      have yn := h1.sz
      gi_wp2_with fail
      replace h1 := h1.go NA
      replace h2 := h2.go NA
      replace h3 := h3.go NA
      replace qk := qk.below NA qk.lt
      replace hF := hF.go NA
      replace bb := bb.below NA bb.lt
      obtain ⟨pn, hpn⟩ : ∃ p, V45.heap.size = p := ⟨_, rfl⟩
      rw [hpn] at bn yn ⊢
      clear hpn NA
      generalize V45.alloc (.cells #[.int .i64 lo] 3) = V46 at *
      clear u0 u1 lb
      have HF0 : Hid (∀ q', q' ≠ q → F q' = F q') := Lib.hid (fun _ _ => rfl)
      refine wpIn_loop (fun a V => Rel (fun a V => ∃ N : Int, lo ≤ N ∧ N ≤ hi' + 1 ∧ ∃ pn, ∃ L F', LfW #[.int .i64 t.g.base, .slice Ab t.g.bands.length cb, .slice Ad t.g.depths.length cd, .int .i64 t.g.blo, .int .i64 t.g.bhi, .int .i64 t.k.lo, .int .i64 t.k.hi, .int .i64 t.lag.lo, .int .i64 t.lag.hi, .int .i64 t.sq.lo, .int .i64 t.sq.hi, .int .i64 t.term, .slice Ah h.length ch, .slice Ai l.length ci, .slice Az nz cz] #[.slice (some ⟨bi, oi, none⟩) rs.length cr] #[.int .i64 t.g.base, .slice Ab t.g.bands.length cb, .slice Ad t.g.depths.length cd, .int .i64 t.g.blo, .int .i64 t.g.bhi, .int .i64 t.k.lo, .int .i64 t.k.hi, .int .i64 t.lag.lo, .int .i64 t.lag.hi, .int .i64 t.sq.lo, .int .i64 t.sq.hi, .int .i64 t.term] w W5 pu pl m po pt V ∧ SlAt V V.heap.size 10 (some ⟨bi, oi, none⟩) rs.length (fE rs) ∧ MpN keyK cRg V m L F' ∧ Hid (Mid rs q lo hi' N (F' q)) ∧ Hid (∀ q', q' ≠ q → F' q' = F q') ∧ Blk V pk 137 #[.int .i64 q.k, .int .i64 q.lag, .int .i64 q.sq] ∧ Blk V pb 41 #[.int .i64 lo, .int .i64 hi'] ∧ Blk V pn 3 #[.int .i64 N] ∧ (W5.heap.size ≤ pn ∧ Fr (fun k => k = m) W V) ∧ ∃ u : Nat → Value, a = ⟨List.toArray (u 0 :: u 1 :: .pointer (some ⟨pu, 0, none⟩) :: .pointer (some ⟨pl, 0, none⟩) :: u 4 :: .pointer (some ⟨po, 0, none⟩) :: .pointer (some ⟨pk, 0, none⟩) :: .pointer (some ⟨pb, 0, none⟩) :: .pointer (some ⟨pn, 0, none⟩) :: u 9 :: u 10 :: u 11 :: u 12 :: u 13 :: u 14 :: u 15 :: u 16 :: u 17 :: u 18 :: u 19 :: u 20 :: u 21 :: u 22 :: u 23 :: u 24 :: u 25 :: u 26 :: u 27 :: u 28 :: u 29 :: u 30 :: u 31 :: u 32 :: u 33 :: u 34 :: u 35 :: u 36 :: u 37 :: u 38 :: u 39 :: u 40 :: u 41 :: u 42 :: u 43 :: u 44 :: u 45 :: u 46 :: u 47 :: u 48 :: u 49 :: u 50 :: u 51 :: u 52 :: u 53 :: []), []⟩) a V)
        (fun a V => lfM hi' a V) ⟨⟨lo, Int.le_refl _, by omega, pn, L, F, h1, h2, h3, HM, HF0, qk, bb, bn, ⟨by omega, hF⟩, exFrame (by kernel_rfl)⟩⟩ ?_
      clear h1 h2 h3 HM HF0 qk bb bn hF yn
      rintro a V ⟨⟨N, hN0, hN1, pn, L, F', h1, h2, h3, HM, HF, qk, bb, bn, ⟨hpn, hF⟩, u, rfl⟩⟩
      have HLM := Lib.hid (lfM_eq (hi := hi') (V := V) (a := ⟨List.toArray (u 0 :: u 1 :: .pointer (some ⟨pu, 0, none⟩) :: .pointer (some ⟨pl, 0, none⟩) :: u 4 :: .pointer (some ⟨po, 0, none⟩) :: .pointer (some ⟨pk, 0, none⟩) :: .pointer (some ⟨pb, 0, none⟩) :: .pointer (some ⟨pn, 0, none⟩) :: u 9 :: u 10 :: u 11 :: u 12 :: u 13 :: u 14 :: u 15 :: u 16 :: u 17 :: u 18 :: u 19 :: u 20 :: u 21 :: u 22 :: u 23 :: u 24 :: u 25 :: u 26 :: u 27 :: u 28 :: u 29 :: u 30 :: u 31 :: u 32 :: u 33 :: u 34 :: u 35 :: u 36 :: u 37 :: u 38 :: u 39 :: u 40 :: u 41 :: u 42 :: u 43 :: u 44 :: u 45 :: u 46 :: u 47 :: u 48 :: u 49 :: u 50 :: u 51 :: u 52 :: u 53 :: []), []⟩) rfl bn)
      by_cases hle : N ≤ hi'
      · have n0 : V.cell? ⟨pn, 0, none⟩ = some (.int .i64 N) := bn.cell 0
        have ln := bn.lt
        have u1 : V.cell? ⟨pb, 1, none⟩ = some (.int .i64 hi') := bb.cell 1
        have lb := bb.lt
        have e0 : V.cell? ⟨pl, 0, none⟩ = some (.slice (some ⟨bi, oi, none⟩) rs.length cr) := h1.ql.cell 0
        have le0 := h1.ql.lt
        gi_wp2_with fail
        refine ⟨trivial, CallsIn.inRound l' (callsIn_wide.2 ((all_left pu pk pn (fun k => saysB (gE rs k) q N) rs rs.length _ _ V h2 hrl (fun k W6 hk hW => sm_left1 t Ab Ad Ah Ai Az cb cd ch ci cz nz h l (gE rs k) q N pu pk pn W6 (h1.qu.below hW h1.qu.lt) (qk.below hW qk.lt) (bn.below hW bn.lt) (hR k hk) hqb)).mono ?_))⟩
        rintro e V41 ⟨rfl, hV41⟩
        clear n0 ln u1 lb e0 le0
        replace h1 := h1.go hV41
        replace h2 := h2.go hV41
        replace h3 := h3.go hV41
        replace qk := qk.below hV41 qk.lt
        replace bb := bb.below hV41 bb.lt
        replace bn := bn.below hV41 bn.lt
        replace hF := hF.go hV41
        clear hV41
        have hsy : allTo (fun k => saysB (gE rs k) q N) rs.length = sayAll rs q N := rfl
        rw [hsy]
        clear hsy
        cases hsa : sayAll rs q N
        · have HM2 := Lib.hid (mid_no HM.out hsa)
          clear hsa
          have n0 : V41.cell? ⟨pn, 0, none⟩ = some (.int .i64 N) := bn.cell 0
          have ln := bn.lt
          have NA := ex_alloc (Below.refl V41.heap.size V41) (.cells #[.int .i64 (N + 1)] 3)
          have bm : Blk (V41.alloc (.cells #[.int .i64 (N + 1)] 3)) V41.heap.size 3 #[.int .i64 (N + 1)] := Blk.new _ _ _
          have hyn := h1.sz
          skip
          gi_wp2_with fail
          replace h1 := h1.go NA
          replace h2 := h2.go NA
          replace h3 := h3.go NA
          replace qk := qk.below NA qk.lt
          replace bb := bb.below NA bb.lt
          replace bn := bn.below NA bn.lt
          replace hF := hF.go NA
          refine ⟨⟨⟨N + 1, by omega, by omega, V41.heap.size, L, F', h1, h2, h3, HM2, HF, qk, bb, bm, ⟨hyn, hF⟩, exFrame (by kernel_rfl)⟩⟩, ?_⟩
          rw [lfM_eq (hi := hi') (N := N + 1) (pn := V41.heap.size) rfl bm, HLM.out]
          omega
        · have HM2 := Lib.hid (mid_yes HM.out hN0 hle hsa)
          clear hsa
          cases hfq : F' q with
          | none =>
            skip
            have p0 : V41.cell? ⟨po, 0, none⟩ = some (.map (some m)) := h1.qo.cell 0
            have lpo := h1.qo.lt
            have k0 : V41.cell? ⟨pk, 0, none⟩ = some (.int .i64 q.k) := qk.cell 0
            have k1 : V41.cell? ⟨pk, 1, none⟩ = some (.int .i64 q.lag) := qk.cell 1
            have k2 : V41.cell? ⟨pk, 2, none⟩ = some (.int .i64 q.sq) := qk.cell 2
            have lk := qk.lt
            have n0 : V41.cell? ⟨pn, 0, none⟩ = some (.int .i64 N) := bn.cell 0
            have ln := bn.lt
            have hlk := lk_none h3.is q hfq
            rw [hfq] at HM2
            have HM3 : Hid (Mid rs q lo hi' (N + 1) (some ⟨N, N⟩)) := HM2
            clear HM2 hfq
            have NA := ex_alloc (Below.refl V41.heap.size V41) (.cells #[.int .i64 N, .int .i64 N] 41)
            have hlt9 : V41.heap.size < (V41.alloc (.cells #[.int .i64 N, .int .i64 N] 41)).heap.size := by simp
            have h3a := h3.go NA
            obtain ⟨o, L2, hup, h3b⟩ := MpN.put (et := 41) Tryz.underlying134 keyK_fd h3a q (⟨N, N⟩ : Rg)
            unfold keyK cRg at hup
            simp only at hup
            have hP : Fr (fun k => k = m) (V41.alloc (.cells #[.int .i64 N, .int .i64 N] 41)) ((V41.alloc (.cells #[.int .i64 N, .int .i64 N] 41)).putObj m o) := fr_putO _ _ m o rfl
            have hmm := h1.hm
            have g1 := (h1.go NA).fr hP
            have g2 := ((h2.go NA).map10 (Nat.le_refl _) h3a.1 hP).up hP.size
            have gk := (qk.below NA qk.lt).fr hP (by omega)
            have gb := (bb.below NA bb.lt).fr hP (by omega)
            have gn := (bn.below NA bn.lt).fr hP (by omega)
            have gF := (hF.go NA).trans hP (fun _ _ h => h)
            have n1 : ((V41.alloc (.cells #[.int .i64 N, .int .i64 N] 41)).putObj m o).cell? ⟨pn, 0, none⟩ = some (.int .i64 N) := gn.cell 0
            have ln1 := gn.lt
            have NB := ex_alloc (Below.refl ((V41.alloc (.cells #[.int .i64 N, .int .i64 N] 41)).putObj m o).heap.size ((V41.alloc (.cells #[.int .i64 N, .int .i64 N] 41)).putObj m o)) (.cells #[.int .i64 (N + 1)] 3)
            have bm : Blk (((V41.alloc (.cells #[.int .i64 N, .int .i64 N] 41)).putObj m o).alloc (.cells #[.int .i64 (N + 1)] 3)) (V41.heap.size + 1) 3 #[.int .i64 (N + 1)] := Blk.new' _ _ _ (by simp)
            have hyn : W5.heap.size ≤ V41.heap.size + 1 := by have := h1.sz; omega
            have HF2 : Hid (∀ q', q' ≠ q → (fun x => if x = q then some (⟨N, N⟩ : Rg) else F' x) q' = F q') := Lib.hid (fun q' hq' => by
              show (if q' = q then _ else _) = _
              rw [if_neg hq']; exact HF.out q' hq')
            have HM4 : Hid (Mid rs q lo hi' (N + 1) ((fun x => if x = q then some (⟨N, N⟩ : Rg) else F' x) q)) := Lib.hid (by
              show Mid rs q lo hi' (N + 1) (if q = q then _ else _)
              rw [if_pos rfl]; exact HM3.out)
            generalize (fun x => if x = q then some (⟨N, N⟩ : Rg) else F' x) = F2 at *
            gi_wp2_with fail
            refine ⟨⟨⟨N + 1, by omega, by omega, V41.heap.size + 1, L2, F2, g1.go NB, g2.go NB, h3b.go NB, HM4, HF2, gk.below NB gk.lt, gb.below NB gb.lt, bm, ⟨hyn, gF.go NB⟩, exFrame (by kernel_rfl)⟩⟩, ?_⟩
            rw [lfM_eq (hi := hi') (N := N + 1) (pn := V41.heap.size + 1) rfl bm, HLM.out]
            omega
          | some R =>
            skip
            have p0 : V41.cell? ⟨po, 0, none⟩ = some (.map (some m)) := h1.qo.cell 0
            have lpo := h1.qo.lt
            have k0 : V41.cell? ⟨pk, 0, none⟩ = some (.int .i64 q.k) := qk.cell 0
            have k1 : V41.cell? ⟨pk, 1, none⟩ = some (.int .i64 q.lag) := qk.cell 1
            have k2 : V41.cell? ⟨pk, 2, none⟩ = some (.int .i64 q.sq) := qk.cell 2
            have lk := qk.lt
            have n0 : V41.cell? ⟨pn, 0, none⟩ = some (.int .i64 N) := bn.cell 0
            have ln := bn.lt
            have hlk := lk_some h3.is q hfq
            rw [hfq] at HM2
            have HM3 : Hid (Mid rs q lo hi' (N + 1) (some ⟨R.lo, N⟩)) := HM2
            clear HM2 hfq
            have NA := ex_alloc (Below.refl V41.heap.size V41) (.cells #[.int .i64 R.lo, .int .i64 R.hi] 41)
            have hlt9 : V41.heap.size < (V41.alloc (.cells #[.int .i64 R.lo, .int .i64 R.hi] 41)).heap.size := by simp
            have h3a := h3.go NA
            obtain ⟨o, L2, hup, h3b⟩ := MpN.put (et := 41) Tryz.underlying134 keyK_fd h3a q (⟨R.lo, N⟩ : Rg)
            unfold keyK cRg at hup
            simp only at hup
            have hP : Fr (fun k => k = m) (V41.alloc (.cells #[.int .i64 R.lo, .int .i64 R.hi] 41)) ((V41.alloc (.cells #[.int .i64 R.lo, .int .i64 R.hi] 41)).putObj m o) := fr_putO _ _ m o rfl
            have hmm := h1.hm
            have g1 := (h1.go NA).fr hP
            have g2 := ((h2.go NA).map10 (Nat.le_refl _) h3a.1 hP).up hP.size
            have gk := (qk.below NA qk.lt).fr hP (by omega)
            have gb := (bb.below NA bb.lt).fr hP (by omega)
            have gn := (bn.below NA bn.lt).fr hP (by omega)
            have gF := (hF.go NA).trans hP (fun _ _ h => h)
            have n1 : ((V41.alloc (.cells #[.int .i64 R.lo, .int .i64 R.hi] 41)).putObj m o).cell? ⟨pn, 0, none⟩ = some (.int .i64 N) := gn.cell 0
            have ln1 := gn.lt
            have NB := ex_alloc (Below.refl ((V41.alloc (.cells #[.int .i64 R.lo, .int .i64 R.hi] 41)).putObj m o).heap.size ((V41.alloc (.cells #[.int .i64 R.lo, .int .i64 R.hi] 41)).putObj m o)) (.cells #[.int .i64 (N + 1)] 3)
            have bm : Blk (((V41.alloc (.cells #[.int .i64 R.lo, .int .i64 R.hi] 41)).putObj m o).alloc (.cells #[.int .i64 (N + 1)] 3)) (V41.heap.size + 1) 3 #[.int .i64 (N + 1)] := Blk.new' _ _ _ (by simp)
            have hyn : W5.heap.size ≤ V41.heap.size + 1 := by have := h1.sz; omega
            have HF2 : Hid (∀ q', q' ≠ q → (fun x => if x = q then some (⟨R.lo, N⟩ : Rg) else F' x) q' = F q') := Lib.hid (fun q' hq' => by
              show (if q' = q then _ else _) = _
              rw [if_neg hq']; exact HF.out q' hq')
            have HM4 : Hid (Mid rs q lo hi' (N + 1) ((fun x => if x = q then some (⟨R.lo, N⟩ : Rg) else F' x) q)) := Lib.hid (by
              show Mid rs q lo hi' (N + 1) (if q = q then _ else _)
              rw [if_pos rfl]; exact HM3.out)
            generalize (fun x => if x = q then some (⟨R.lo, N⟩ : Rg) else F' x) = F2 at *
            gi_wp2_with fail
            refine ⟨⟨⟨N + 1, by omega, by omega, V41.heap.size + 1, L2, F2, g1.go NB, g2.go NB, h3b.go NB, HM4, HF2, gk.below NB gk.lt, gb.below NB gb.lt, bm, ⟨hyn, gF.go NB⟩, exFrame (by kernel_rfl)⟩⟩, ?_⟩
            rw [lfM_eq (hi := hi') (N := N + 1) (pn := V41.heap.size + 1) rfl bm, HLM.out]
            omega
      · have n0 : V.cell? ⟨pn, 0, none⟩ = some (.int .i64 N) := bn.cell 0
        have ln := bn.lt
        have u1 : V.cell? ⟨pb, 1, none⟩ = some (.int .i64 hi') := bb.cell 1
        have lb := bb.lt
        have hmm := h1.hm
        have hpe := h1.ne.2.2.2
        have hpu := h1.hu.2.2.2
        have HE : Hid (LeftP t rs (pre ++ [x]) F') := Lib.hid (leftP_snoc h4.out HXE.out (by
          rw [HLO.out, HHI.out]
          have e : N = hi' + 1 := by omega
          have := HM.out
          rw [e] at this
          exact mid_end this) HF.out)
        have hg2 := (h2W.map10 h1W h3W hF)
        gi_wp2_with fail
        refine ⟨⟨hF.size, fun k o hB ho _ => (hF.block k (Array.getElem?_eq_some_iff.1 ho).1 (by omega)).trans ho⟩, ⟨hF.size, hF.block pt (by omega) hpe⟩, h1, hg2, L, F', h3, HE⟩

end Go.Proofs.YtkaogjhnogkcdaaGreat
end

section
namespace Go.Proofs.YtkaogjhnogkcdaaGreat
theorem mnTo_bd {xs : List Int} : ∀ {n : Nat}, 0 < n → (∃ i, i < n ∧ mnTo xs n = gI xs i) ∧ ∀ i, i < n → mnTo xs n ≤ gI xs i
 | 0, h => by omega
 | n + 1, _ => by
  rcases Nat.eq_zero_or_pos n with h0 | h0
  ·
   subst h0
   refine ⟨⟨0, by omega, by simp [mnTo]⟩, fun i hi => ?_⟩
   have e : i = 0 := by omega
   subst e
   simp [mnTo]
  ·
   obtain ⟨⟨i, hi, e⟩, h2⟩ := mnTo_bd (xs := xs) h0
   rw [mnTo]
   refine ⟨?_, fun j hj => ?_⟩
   ·
    rcases Int.le_total (mnTo xs n) (gI xs n) with h | h
    ·
     exact ⟨i, by omega, by omega⟩
    ·
     exact ⟨n, by omega, by omega⟩
   ·
    rcases Nat.lt_succ_iff_lt_or_eq.1 hj with h | h
    ·
     have := h2 j h; omega
    ·
     subst h; omega
theorem mxTo_bd {xs : List Int} : ∀ {n : Nat}, 0 < n → (∃ i, i < n ∧ mxTo xs n = gI xs i) ∧ ∀ i, i < n → gI xs i ≤ mxTo xs n
 | 0, h => by omega
 | n + 1, _ => by
  rcases Nat.eq_zero_or_pos n with h0 | h0
  ·
   subst h0
   refine ⟨⟨0, by omega, by simp [mxTo]⟩, fun i hi => ?_⟩
   have e : i = 0 := by omega
   subst e
   simp [mxTo]
  ·
   obtain ⟨⟨i, hi, e⟩, h2⟩ := mxTo_bd (xs := xs) h0
   rw [mxTo]
   refine ⟨?_, fun j hj => ?_⟩
   ·
    rcases Int.le_total (mxTo xs n) (gI xs n) with h | h
    ·
     exact ⟨n, by omega, by omega⟩
    ·
     exact ⟨i, by omega, by omega⟩
   ·
    rcases Nat.lt_succ_iff_lt_or_eq.1 hj with h | h
    ·
     have := h2 j h; omega
    ·
     subst h; omega
def gK (L : List (Ki × Rg)) (i : Nat) : Rg := ((L.map (·.2))[i]?).getD ⟨0, 0⟩
def losK (L : List (Ki × Rg)) (sn : List Nat) : List Int := sn.map fun i => (gK L i).lo
def hisK (L : List (Ki × Rg)) (sn : List Nat) : List Int := sn.map fun i => (gK L i).hi
theorem gK_at {L : List (Ki × Rg)} {i : Nat} (hi : i < L.length) : gK L i = L[i].2 := by simp [gK, hi]
theorem same_none {t : Tb} {rs : List Rd} {L : List (Ki × Rg)} {F : Ki → Option Rg} {W : World} {m : Nat} (ht : TbBd t) (hR : RdsBd rs) (h0 : 0 < rs.length) (hm : MpN keyK cRg W m L F) (hF : LeftF t rs F) (hL : L = []) : ¬ ∃ n, SameK t rs n := by
 rintro ⟨n, q, hq, hs⟩
 have hb := sayAll_bnd ht hR hq hs h0
 have := (hF q).1 hq
 cases hf : F q with
 | none => rw [hf] at this; have := this n hb.1 (by omega); rw [hs] at this; cases this
 | some R => have := hm.mem.2 hf; rw [hL] at this; cases this
theorem same_some {t : Tb} {rs : List Rd} {L : List (Ki × Rg)} {F : Ki → Option Rg} {W : World} {m : Nat} (ht : TbBd t) (hR : RdsBd rs) (h0 : 0 < rs.length) (hm : MpN keyK cRg W m L F) (hF : LeftF t rs F) {sn : List Nat} (hsn : ∀ i ∈ sn, i < L.length) (hall : ∀ i, i < L.length → i ∈ sn) (hL : 0 < sn.length) :
  EndsOf (SameK t rs) (mnTo (losK L sn) sn.length) (mxTo (hisK L sn) sn.length) := by
 have hin : ∀ i (hi : i < L.length), KiIn t L[i].1 := fun i hi => Classical.byContradiction fun hc => by
  have h1 : (L[i].1, L[i].2) ∈ L := List.getElem_mem hi
  have h2 := hm.mem.1 h1
  rw [(hF _).2 hc] at h2; cases h2
 have hends : ∀ i (hi : i < L.length), EndsOf (fun n => ((bndP t (gE rs 0)).lo ≤ n ∧ n < (bndP t (gE rs 0)).hi + 1) ∧ sayAll rs L[i].1 n = true) (gK L i).lo (gK L i).hi := fun i hi => by
  have h1 : (L[i].1, L[i].2) ∈ L := List.getElem_mem hi
  have h2 := hm.mem.1 h1
  have h3 := (hF _).1 (hin i hi)
  rw [h2] at h3
  rw [gK_at hi]
  exact h3
 have hat : ∀ j, j < sn.length → ∃ i, i < L.length ∧ gI (losK L sn) j = (gK L i).lo ∧ gI (hisK L sn) j = (gK L i).hi := fun j hj => ⟨sn[j], hsn _ (List.getElem_mem hj), by simp [gI, losK, hj], by simp [gI, hisK, hj]⟩
 obtain ⟨⟨j1, hj1, e1⟩, b1⟩ := mnTo_bd (xs := losK L sn) hL
 obtain ⟨⟨j2, hj2, e2⟩, b2⟩ := mxTo_bd (xs := hisK L sn) hL
 refine ⟨?_, ?_, fun n ⟨q, hq, hs⟩ => ?_⟩
 ·
  obtain ⟨i, hi, e3, _⟩ := hat j1 hj1
  rw [e1, e3]
  exact ⟨_, hin i hi, (hends i hi).1.2⟩
 ·
  obtain ⟨i, hi, _, e3⟩ := hat j2 hj2
  rw [e2, e3]
  exact ⟨_, hin i hi, (hends i hi).2.1.2⟩
 ·
  have hb := sayAll_bnd ht hR hq hs h0
  have h3 := (hF q).1 hq
  cases hf : F q with
  | none => rw [hf] at h3; have := h3 n hb.1 (by omega); rw [hs] at this; cases this
  | some R =>
   rw [hf] at h3
   have h3' : EndsOf (fun n => ((bndP t (gE rs 0)).lo ≤ n ∧ n < (bndP t (gE rs 0)).hi + 1) ∧ sayAll rs q n = true) R.lo R.hi := h3
   have h4 := h3'.2.2 n ⟨⟨hb.1, by omega⟩, hs⟩
   obtain ⟨i, hi, hLi⟩ := List.getElem_of_mem (hm.mem.2 hf)
   obtain ⟨j, hj, hsj⟩ := List.getElem_of_mem (hall i hi)
   have c1 := b1 j hj
   have c2 := b2 j hj
   have g1 : gI (losK L sn) j = R.lo := by simp [gI, losK, hj, hsj, gK_at hi, hLi]
   have g2 : gI (hisK L sn) j = R.hi := by simp [gI, hisK, hj, hsj, gK_at hi, hLi]
   omega
def SamV (t : Tb) (h : List Rg) (l : List Ic) (rs : List Rd) (R : Rg) (ev : Int) : Prop :=
 (useE t h l ≠ 0 ∧ ev = useE t h l ∧ R = ⟨0, 0⟩) ∨ (useE t h l = 0 ∧ bathE t l h.length rs (agreeB t.g h l off0) ≠ 0 ∧ ev = bathE t l h.length rs (agreeB t.g h l off0) ∧ R = ⟨0, 0⟩) ∨
 (useE t h l = 0 ∧ bathE t l h.length rs (agreeB t.g h l off0) = 0 ∧ ∃ zs, ZsOf t.g h l zs ∧ (((¬ ∃ n, SameK t rs n) ∧ ev = 9 ∧ R = ⟨0, 0⟩) ∨ ∃ a b, EndsOf (SameK t rs) a b ∧ ev = 0 ∧ R = ⟨a - (gR zs (gE rs 0).day.toNat).hi, b - (gR zs (gE rs 0).day.toNat).lo⟩))
end Go.Proofs.YtkaogjhnogkcdaaGreat
end
