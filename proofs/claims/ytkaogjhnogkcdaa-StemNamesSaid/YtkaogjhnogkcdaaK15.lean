/- Stem: stale, refused (walks). -/
import Derived.Laws.Tables
import Derived.Test.YtkaogjhnogkcdaaK13
import Derived.Test.YtkaogjhnogkcdaaK10
set_option linter.unusedVariables false
set_option linter.unusedSimpArgs false
set_option linter.unusedSectionVars false
section
namespace Go.Proofs.Ytkaogjhnogkcdaa
open Go.RowKit
attribute [local go_sem] Ex.cell? Ex.frozen?

theorem Blk.setRow {w : World} {g : Nat} {t : TypeId} {cs : Array Value} (h : Blk w g t cs) (new : Array Value) : Blk (w.setRow g new) g t new := setRow_heap w g cs new t (0, 0) h
theorem Blk.offRow {w : World} {g k : Nat} {t : TypeId} {cs : Array Value} (h : Blk w k t cs) (hk : k ≠ g) (new : Array Value) : Blk (w.setRow g new) k t cs := (setRow_other w g k new hk).trans h
theorem Fr.row {R : Nat → Prop} {a w : World} (h : Fr R a w) {g : Nat} (hg : R g) (new : Array Value) : Fr R a (w.setRow g new) := h.trans ⟨setRow_os _ _ _, setRow_tape _ _ _, setRow_output _ _ _, by simp, fun k _ hn => setRow_other w g k new (fun e => hn (e ▸ hg))⟩ (fun _ _ h => h)
theorem ex_row {w w1 : World} (h : Below w.heap.size w w1) {g : Nat} (hg : w.heap.size ≤ g) (new : Array Value) : Below w.heap.size w (w1.setRow g new) := ((Fr.refl (fun k => k = g) w1).row rfl new).toBelow h h.size (fun x hx => by rw [hx]; exact hg)
theorem results_ct_row {P : Program} {fn : Func} {p u : Tmp} {ty : TypeId} (h : fn.results = #[.cell p ty, .tmp u]) (tmps : Array Value) (w : World) (g : Nat) (ty' : TypeId) (cs : Array Value) (fr : Nat × Nat) (d : TypeDesc)
  (hp : tmps.getD p undef = .pointer (some ⟨g, 0, none⟩)) (hg : w.heap[g]? = some (.cells cs ty' fr))
  (hu : P.underlying ty = some d) (hd : (match d with | .struct _ | .array _ _ => true | _ => false) = true) (hi : (P.info? ty).map (·.size) = some cs.size) :
  (results fn tmps).run P w = .ok (.tuple #[.agg cs, tmps.getD u undef]) w := by
 have hp' : tmps[p]?.getD undef = .pointer (some ⟨g, 0, none⟩) := by simpa using hp
 simp [results, h, hp', asAddr, run_loadVar_row w g ty' ty cs fr d hg hu hd hi]
set_option maxRecDepth 100000 in
set_option maxHeartbeats 3200000 in
theorem sm_stale (t : Tb) (Ab Ad Ah Ai Az : Option Addr) (cb cd ch ci cz nz : Nat) (h : List Rg) (l : List Ic) (d : Int) (w : World) (hi : SlAt w w.heap.size 3 Ai l.length (fC l)) (hl : l.length ≤ 1000000) (hd : 0 ≤ d ∧ d ≤ 1000000) :
  Calls Try.prog 37 #[.agg #[.int .i64 t.g.base, .slice Ab t.g.bands.length cb, .slice Ad t.g.depths.length cd, .int .i64 t.g.blo, .int .i64 t.g.bhi, .int .i64 t.k.lo, .int .i64 t.k.hi, .int .i64 t.lag.lo, .int .i64 t.lag.hi, .int .i64 t.sq.lo, .int .i64 t.sq.hi, .int .i64 t.term, .slice Ah h.length ch, .slice Ai l.length ci, .slice Az nz cz], .int .i64 d] w fun e w' => e = .returned (.bool (staleB t l d)) ∧ Below w.heap.size w w' := by
 go_enter Try.func37, Try.ntmps37
 go_upto_region 1 with fail
 show Code.wp _ _ _ _ _
 refine box1 (K := fun V => Code.wp _ _ _ _ V) ?_
 intro V hb1 q1
 replace hi := (hi.below hb1).up hb1.size
 obtain ⟨pq1, hpq1⟩ : ∃ p, w.heap.size = p := ⟨_, rfl⟩
 rw [hpq1] at q1 ⊢
 have hp1 : w.heap.size ≤ pq1 := by omega
 clear hpq1
 have a11 : V.cell? ⟨pq1, 11, none⟩ = some (.int .i64 t.term) := q1.cell 11
 have a13 : V.cell? ⟨pq1, 13, none⟩ = some (.slice Ai l.length ci) := q1.cell 13
 have la := q1.lt
 go_wp2_with fail
 go_loopw [5, 7, 11] (fun last p i wr => ∃ k : Nat, k ≤ l.length ∧ i = .int .i64 (k : Int) ∧ last = .int .i64 (lastTo l d k) ∧ Below w.heap.size w wr ∧ SlAt wr wr.heap.size 3 Ai l.length (fC l) ∧ Blk wr pq1 56 #[.int .i64 t.g.base, .slice Ab t.g.bands.length cb, .slice Ad t.g.depths.length cd, .int .i64 t.g.blo, .int .i64 t.g.bhi, .int .i64 t.k.lo, .int .i64 t.k.hi, .int .i64 t.lag.lo, .int .i64 t.lag.hi, .int .i64 t.sq.lo, .int .i64 t.sq.hi, .int .i64 t.term, .slice Ah h.length ch, .slice Ai l.length ci, .slice Az nz cz])
  (fun _ _ i _ => l.length - (intOf i).toNat)
 case atStart => exact ⟨0, by omega, rfl, rfl, hb1, hi, q1⟩
 case round =>
  clear hi q1 hb1 a11 a13 la
  obtain ⟨k, hk, rfl, rfl, hbl, hi, q1⟩ := hrel
  have hlb := lastTo_bd (l := l) hd.1 (k := k)
  by_cases hlt : k < l.length
  ·
   obtain ⟨b, off, rfl, hbB, h0, h1, h2⟩ := IsIcs.at_ hi hlt
   have HL := Lib.hid (show lastTo l d (k + 1) = if (gC l k).day ≤ d then max (lastTo l d k) (gC l k).day else lastTo l d k from rfl)
   obtain ⟨⟨x, y, z⟩, hx⟩ : ∃ x, gC l k = x := ⟨_, rfl⟩
   skip
   rw [hx] at h0 h1 h2
   have HL2 : Hid (lastTo l d (k + 1) = if x ≤ d then max (lastTo l d k) x else lastTo l d k) := Lib.hid (by rw [HL.out, hx])
   clear HL hx
   dsimp only at h0 h1 h2
   generalize hg : lastTo l d k = last at *
   clear hg
   have NB := ex_alloc (Below.refl wr.heap.size wr) (.cells #[.int .i64 x, .int .i64 y, .int .i64 z] 40)
   by_cases hxd : x ≤ d
   ·
    rw [if_pos hxd] at HL2
    have hxd' : decide (x ≤ d) = true := decide_eq_true hxd
    have N2 := ex_alloc NB (.cells #[.int .i64 last, .int .i64 x] 3)
    have qs : Blk ((wr.alloc (.cells #[.int .i64 x, .int .i64 y, .int .i64 z] 40)).alloc (.cells #[.int .i64 last, .int .i64 x] 3)) (wr.heap.size + 1) 3 #[.int .i64 last, .int .i64 x] := Blk.new' _ _ _ (by simp)
    go_wp2_with fail
    refine (sm_greatest2 _ _ _ _ _ qs).mono ?_
    rintro e w' ⟨rfl, rfl⟩
    go_wp2
    go_roundw
    case rel => exact ⟨k + 1, by omega, by go_num, by rw [HL2.out], ex_trans hbl N2, hi.go N2, q1.below N2 q1.lt⟩
    case measure => simp [intOf]; omega
   ·
    rw [if_neg hxd] at HL2
    have hxd' : decide (x ≤ d) = false := decide_eq_false hxd
    go_wp2
    go_roundw
    case rel => exact ⟨k + 1, by omega, by go_num, by rw [HL2.out], ex_trans hbl NB, hi.go NB, q1.below NB q1.lt⟩
    case measure => simp [intOf]; omega
  ·
   have HK : Hid (k = l.length) := Lib.hid (by omega)
   have HR : Hid (staleB t l d = decide (t.term < d - lastTo l d k)) := Lib.hid (by rw [HK.out]; rfl)
   have a11 : wr.cell? ⟨pq1, 11, none⟩ = some (.int .i64 t.term) := q1.cell 11
   have la := q1.lt
   go_wp2
   go_ret
   exact ⟨ret_bool HR.out.symm, hbl⟩

theorem ref_1 {t : Tb} {l : List Ic} {r : Rd} {ag : Bool} (h : r.broken = true) : refE t l r ag = 8 := if_pos h
theorem ref_2 {t : Tb} {l : List Ic} {r : Rd} {ag : Bool} (h : r.broken = false) (h2 : staleB t l r.day = true) : refE t l r ag = 11 := by unfold refE; rw [if_neg (by simp [h]), if_pos h2]
theorem ref_3 {t : Tb} {l : List Ic} {r : Rd} (h : r.broken = false) (h2 : staleB t l r.day = false) (b : Bool) : refE t l r b = if b = false then 9 else 0 := by unfold refE; rw [if_neg (by simp [h]), if_neg (by simp [h2])]
set_option maxRecDepth 100000 in
set_option maxHeartbeats 3200000 in
theorem sm_refused (t : Tb) (Ab Ad Ah Ai Az : Option Addr) (cb cd ch ci cz nz : Nat) (h : List Rg) (l : List Ic) (r : Rd) (w : World) (hi : SlAt w w.heap.size 3 Ai l.length (fC l)) (hl : l.length ≤ 1000000) (hd : 0 ≤ r.day ∧ r.day ≤ 1000000) (hz : nz ≤ 1000000) :
  Calls Try.prog 24 #[.agg #[.int .i64 t.g.base, .slice Ab t.g.bands.length cb, .slice Ad t.g.depths.length cd, .int .i64 t.g.blo, .int .i64 t.g.bhi, .int .i64 t.k.lo, .int .i64 t.k.hi, .int .i64 t.lag.lo, .int .i64 t.lag.hi, .int .i64 t.sq.lo, .int .i64 t.sq.hi, .int .i64 t.term, .slice Ah h.length ch, .slice Ai l.length ci, .slice Az nz cz], .agg #[.int .i64 r.day, .int .i64 r.shown, .int .i64 r.err, .int .i64 r.bare, .int .i64 r.air.lo, .int .i64 r.air.hi, .int .i64 r.rate.lo, .int .i64 r.rate.hi, .int .i64 r.deep, .bool r.broken]] w fun e w' => e = .returned (.int .i64 (refE t l r (decide (0 < nz)))) ∧ Below w.heap.size w w' := by
 rcases Bool.eq_false_or_eq_true r.broken with tb | tb
 rotate_left
 ·
  cases ts : staleB t l r.day
  ·
   have HR := Lib.hid (ref_3 tb ts (decide (0 < nz)))
   have TS := Lib.hid ts
   clear ts
   have TB := Lib.hid tb
   clear tb
   go_enter Try.func24, Try.ntmps24
   go_upto_region 1 with fail
   show Code.wp _ _ _ _ _
   refine box2 (K := fun V => Code.wp _ _ _ _ V) ?_
   intro V hb1 q1 q2
   replace hi := (hi.below hb1).up hb1.size
   obtain ⟨pq1, hpq1⟩ : ∃ p, w.heap.size = p := ⟨_, rfl⟩
   obtain ⟨pq2, hpq2⟩ : ∃ p, w.heap.size + 1 = p := ⟨_, rfl⟩
   rw [hpq2] at q2 ⊢
   rw [hpq1] at q1 ⊢
   have hp1 : w.heap.size ≤ pq1 := by omega
   have hp2 : w.heap.size ≤ pq2 := by omega
   clear hpq1 hpq2
   have b0 : V.cell? ⟨pq2, 0, none⟩ = some (.int .i64 r.day) := q2.cell 0
   have b9 : V.cell? ⟨pq2, 9, none⟩ = some (.bool r.broken) := q2.cell 9
   have lb := q2.lt
   rw [TB.out] at b9
   go_wp2_with (refine pause_at 9 rfl ?_)
   refine Paused.mk ?_
   refine wpList_load_row rfl 56 _ rfl _ rfl 56 _ (0, 0) _ (q1) Try.underlying56 rfl (by kernel_rfl) ?_
   go_wp2_with fail
   refine (sm_stale t Ab Ad Ah Ai Az cb cd ch ci cz nz h l r.day _ hi hl hd).mono ?_
   rintro e V1 ⟨rfl, hV1⟩
   replace q1 := q1.below hV1 q1.lt
   replace q2 := q2.below hV1 q2.lt
   replace hi := (hi.below hV1).up hV1.size
   have B_V1 := ex_trans hb1 hV1
   clear b0 b9 lb
   rw [TS.out]
   have a14 : V1.cell? ⟨pq1, 14, none⟩ = some (.slice Az nz cz) := q1.cell 14
   have la := q1.lt
   by_cases hn : nz = 0
   ·
    subst hn
    go_wp2
    go_ret
    exact ⟨ret_int (by rw [HR.out]; rfl), B_V1⟩
   ·
    have e1 : ((nz : Int) == 0) = false := by rw [beq_eq_false_iff_ne]; omega
    have e2 : (nz == 0) = false := by rw [beq_eq_false_iff_ne]; exact hn
    have HN : Hid (decide (0 < nz) = true) := Lib.hid (decide_eq_true (by omega))
    go_wp2
    go_ret
    exact ⟨ret_int (by rw [HR.out, HN.out]; rfl), B_V1⟩
  ·
   have HR := Lib.hid (ref_2 (ag := decide (0 < nz)) tb ts)
   have TS := Lib.hid ts
   clear ts
   have TB := Lib.hid tb
   clear tb
   go_enter Try.func24, Try.ntmps24
   go_upto_region 1 with fail
   show Code.wp _ _ _ _ _
   refine box2 (K := fun V => Code.wp _ _ _ _ V) ?_
   intro V hb1 q1 q2
   replace hi := (hi.below hb1).up hb1.size
   obtain ⟨pq1, hpq1⟩ : ∃ p, w.heap.size = p := ⟨_, rfl⟩
   obtain ⟨pq2, hpq2⟩ : ∃ p, w.heap.size + 1 = p := ⟨_, rfl⟩
   rw [hpq2] at q2 ⊢
   rw [hpq1] at q1 ⊢
   have hp1 : w.heap.size ≤ pq1 := by omega
   have hp2 : w.heap.size ≤ pq2 := by omega
   clear hpq1 hpq2
   have b0 : V.cell? ⟨pq2, 0, none⟩ = some (.int .i64 r.day) := q2.cell 0
   have b9 : V.cell? ⟨pq2, 9, none⟩ = some (.bool r.broken) := q2.cell 9
   have lb := q2.lt
   rw [TB.out] at b9
   go_wp2_with (refine pause_at 9 rfl ?_)
   refine Paused.mk ?_
   refine wpList_load_row rfl 56 _ rfl _ rfl 56 _ (0, 0) _ (q1) Try.underlying56 rfl (by kernel_rfl) ?_
   go_wp2_with fail
   refine (sm_stale t Ab Ad Ah Ai Az cb cd ch ci cz nz h l r.day _ hi hl hd).mono ?_
   rintro e V2 ⟨rfl, hV2⟩
   replace q1 := q1.below hV2 q1.lt
   replace q2 := q2.below hV2 q2.lt
   replace hi := (hi.below hV2).up hV2.size
   have B_V2 := ex_trans hb1 hV2
   clear b0 b9 lb
   rw [TS.out]
   go_wp2
   go_ret
   exact ⟨ret_int HR.out.symm, B_V2⟩
 ·
  have HR := Lib.hid (ref_1 (t := t) (l := l) (ag := decide (0 < nz)) tb)
  have TB := Lib.hid tb
  clear tb
  go_enter Try.func24, Try.ntmps24
  go_upto_region 1 with fail
  show Code.wp _ _ _ _ _
  refine box2 (K := fun V => Code.wp _ _ _ _ V) ?_
  intro V hb1 q1 q2
  replace hi := (hi.below hb1).up hb1.size
  obtain ⟨pq1, hpq1⟩ : ∃ p, w.heap.size = p := ⟨_, rfl⟩
  obtain ⟨pq2, hpq2⟩ : ∃ p, w.heap.size + 1 = p := ⟨_, rfl⟩
  rw [hpq2] at q2 ⊢
  rw [hpq1] at q1 ⊢
  have hp1 : w.heap.size ≤ pq1 := by omega
  have hp2 : w.heap.size ≤ pq2 := by omega
  clear hpq1 hpq2
  have b0 : V.cell? ⟨pq2, 0, none⟩ = some (.int .i64 r.day) := q2.cell 0
  have b9 : V.cell? ⟨pq2, 9, none⟩ = some (.bool r.broken) := q2.cell 9
  have lb := q2.lt
  rw [TB.out] at b9
  go_wp2
  go_ret
  exact ⟨ret_int HR.out.symm, hb1⟩

end Go.Proofs.Ytkaogjhnogkcdaa
end
