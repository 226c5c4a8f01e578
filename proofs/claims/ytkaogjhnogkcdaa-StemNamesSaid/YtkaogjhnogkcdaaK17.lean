/- Stem: use (walk). · Stem: correct (walk). · Stem: asked (walk). · Stem: Correct (walk). -/
import Derived.Test.YtkaogjhnogkcdaaK15
import Derived.Test.YtkaogjhnogkcdaaK13
import Derived.Test.YtkaogjhnogkcdaaK16
set_option linter.unusedVariables false
set_option linter.unusedSimpArgs false
set_option linter.unusedSectionVars false
section
namespace Go.Proofs.Ytkaogjhnogkcdaa
open Go.RowKit
attribute [local go_sem] Ex.cell? Ex.frozen?

def UseV (t : Tb) (h : List Rg) (l : List Ic) (nz : Nat) (zs : List Rg) : Prop := (agreeB t.g h l off0 = false ∧ nz = 0) ∨ (agreeB t.g h l off0 = true ∧ nz = h.length ∧ ZsOf t.g h l zs)
theorem use_of {t : Tb} {h : List Rg} {l : List Ic} {n : Nat} {ev : Int} {zs : List Rg} (hz : ZerosV t.g h l n ev zs) : UseV t h l n zs ∧ (ev = 9 ∨ ev = 0) := by
 rcases hz with ⟨a, b, c⟩ | ⟨a, b, c, d⟩
 ·
  exact ⟨.inl ⟨a, c⟩, .inl b⟩
 ·
  exact ⟨.inr ⟨a, c, d⟩, .inr b⟩
def YoungAt (A : Option Addr) (B : Nat) : Prop := ∀ b off, A = some ⟨b, off, none⟩ → B ≤ b
theorem YoungAt.mono {A : Option Addr} {B B' : Nat} (h : YoungAt A B) (hB : B' ≤ B) : YoungAt A B' := fun b off e => Nat.le_trans hB (h b off e)
theorem SlAt.offRow {W : World} {sz n g : Nat} {A : Option Addr} {f : Nat → Nat → Value} (h : SlAt W W.heap.size sz A n f) (hy : YoungAt A (g + 1)) (new : Array Value) : SlAt (W.setRow g new) (W.setRow g new).heap.size sz A n f := fun hn => by
 obtain ⟨b, off, e, hb, hc⟩ := h hn
 have hg := hy b off e
 exact ⟨b, off, e, by simpa using hb, fun k j hk hj => (cell_setRow_other W g new _ (show b ≠ g by omega)).trans (hc k j hk hj)⟩
theorem Zeros_y (g : Gl) (Ab Ad Ah Ai : Option Addr) (cb cd ch ci : Nat) (h : List Rg) (l : List Ic) (w : World) (hg : GlIn w w.heap.size g Ab Ad) (hh : SlAt w w.heap.size 2 Ah h.length (fR h)) (hi : SlAt w w.heap.size 3 Ai l.length (fC l)) (heq : iced g h l = 0) :
  Calls Try.prog 38 #[.agg #[.int .i64 g.base, .slice Ab g.bands.length cb, .slice Ad g.depths.length cd, .int .i64 g.blo, .int .i64 g.bhi], .slice Ah h.length ch, .slice Ai l.length ci] w fun e w' => (∃ A n ev zs, e = .returned (.tuple #[.slice A n n, .int .i64 ev]) ∧ Hid (ZerosV g h l n ev zs) ∧ Hid (YoungAt A w.heap.size) ∧ SlAt w' w'.heap.size 2 A n (fR zs)) ∧ Below w.heap.size w w' := by
 refine (Zeros_good g Ab Ad Ah Ai cb cd ch ci h l w hg hh hi heq).mono ?_
 rintro e w' ⟨⟨hno, rfl⟩ | ⟨hyes, go, oc, rfl, hgo, hblk, hsz, hends⟩, hb⟩
 ·
  exact ⟨⟨none, 0, 9, [], rfl, Lib.hid (.inl ⟨by rw [← Bool.not_eq_true, agreeB_iff]; exact hno, rfl, rfl⟩), Lib.hid (fun b off e => by cases e), fun h => absurd h (by simp)⟩, hb⟩
 ·
  obtain ⟨zs, h1, h2, h3⟩ := ends_list hends
  exact ⟨⟨_, _, 0, zs, rfl, Lib.hid (.inr ⟨agreeB_iff.2 hyes, rfl, rfl, h1, h2⟩), Lib.hid (fun b off e => by injection e with e; injection e with e; omega), h3 _ _ _ hblk⟩, hb⟩
theorem useE_1 {t : Tb} {h : List Rg} {l : List Ic} (hc : ckTube t ≠ 0) : useE t h l = ckTube t := if_pos hc
theorem useE_2 {t : Tb} {h : List Rg} {l : List Ic} (hc : ckTube t = 0) : useE t h l = iced t.g h l := if_neg (by simp [hc])
theorem useE_0 {t : Tb} {h : List Rg} {l : List Ic} (hu : useE t h l = 0) : ckTube t = 0 ∧ iced t.g h l = 0 := by
 by_cases hc : ckTube t = 0
 ·
  exact ⟨hc, by rw [← useE_2 hc]; exact hu⟩
 ·
  rw [useE_1 hc] at hu; exact absurd hu hc
theorem lived_v {g : Gl} {h : List Rg} : lived g h = 0 ∨ lived g h = 1 ∨ lived g h = 2 ∨ lived g h = 3 := by
 have h1 : ckGlass g = 0 ∨ ckGlass g = 1 ∨ ckGlass g = 3 := by unfold ckGlass; split <;> (try split) <;> simp
 unfold lived
 by_cases a : ckGlass g ≠ 0
 ·
  rw [if_pos a]; omega
 ·
  rw [if_neg a]
  split
  ·
   omega
  ·
   split <;> omega
theorem iced_not9 {g : Gl} {h : List Rg} {l : List Ic} : iced g h l ≠ 9 := by
 have h1 := lived_v (g := g) (h := h)
 unfold iced
 by_cases a : lived g h ≠ 0
 ·
  rw [if_pos a]; omega
 ·
  rw [if_neg a]
  split
  ·
   omega
  ·
   split <;> omega
set_option maxRecDepth 100000 in
set_option maxHeartbeats 3200000 in
theorem sm_use_bad (t : Tb) (Ab Ad : Option Addr) (cb cd : Nat) (Ah Ai : Option Addr) (ch ci : Nat) (h : List Rg) (l : List Ic) (w : World) (hg : GlIn w w.heap.size t.g Ab Ad) (hh : SlAt w w.heap.size 2 Ah h.length (fR h)) (hi : SlAt w w.heap.size 3 Ai l.length (fC l)) (hu : useE t h l ≠ 0) :
  Calls Try.prog 25 #[.agg #[.int .i64 t.g.base, .slice Ab t.g.bands.length cb, .slice Ad t.g.depths.length cd, .int .i64 t.g.blo, .int .i64 t.g.bhi, .int .i64 t.k.lo, .int .i64 t.k.hi, .int .i64 t.lag.lo, .int .i64 t.lag.hi, .int .i64 t.sq.lo, .int .i64 t.sq.hi, .int .i64 t.term], .slice Ah h.length ch, .slice Ai l.length ci] w fun e w' => e = .returned (.tuple #[.agg #[.int .i64 0, .slice none 0 0, .slice none 0 0, .int .i64 0, .int .i64 0, .int .i64 0, .int .i64 0, .int .i64 0, .int .i64 0, .int .i64 0, .int .i64 0, .int .i64 0, .slice none 0 0, .slice none 0 0, .slice none 0 0], .int .i64 (useE t h l)]) ∧ Below w.heap.size w w' := by
 by_cases hc : ckTube t = 0
 ·
  have HU := Lib.hid (useE_2 (h := h) (l := l) hc)
  have HC := Lib.hid hc
  have hne : iced t.g h l ≠ 0 := by rw [← HU.out]; exact hu
  have e1 : (iced t.g h l != 0) = true := by simp [hne]
  have e2 : (iced t.g h l != 9) = true := by simp [iced_not9 (g := t.g) (h := h) (l := l)]
  have HNE := Lib.hid hne
  clear hne hu hc
  go_enter Try.func25, Try.ntmps25
  go_upto_region 1 with fail
  show Code.wp _ _ _ _ _
  refine box2 (K := fun V => Code.wp _ _ _ _ V) ?_
  intro V hb1 q1 q2
  replace hg := hg.go hb1
  replace hh := (hh.below hb1).up hb1.size
  replace hi := (hi.below hb1).up hb1.size
  obtain ⟨pq1, hpq1⟩ : ∃ p, w.heap.size = p := ⟨_, rfl⟩
  obtain ⟨pq2, hpq2⟩ : ∃ p, w.heap.size + 1 = p := ⟨_, rfl⟩
  rw [hpq2] at q2 ⊢
  rw [hpq1] at q1 ⊢
  have hp1 : w.heap.size ≤ pq1 := by omega
  have hp2 : w.heap.size ≤ pq2 := by omega
  clear hpq1 hpq2
  go_wp2_with (refine pause_at 11 rfl ?_)
  refine Paused.mk ?_
  refine wpList_load_row rfl 32 _ rfl _ rfl 32 _ (0, 0) _ (q1) Try.underlying32 rfl (by kernel_rfl) ?_
  go_wp2_with fail
  refine (CheckTube_any t Ab Ad cb cd _ hg).mono ?_
  rintro e V1 ⟨rfl, hV1⟩
  replace q1 := q1.below hV1 q1.lt
  replace q2 := q2.below hV1 q2.lt
  replace hg := hg.go hV1
  replace hh := (hh.below hV1).up hV1.size
  replace hi := (hi.below hV1).up hV1.size
  have B_V1 := ex_trans hb1 hV1
  rw [HC.out]
  have a0 : V1.cell? ⟨pq1, 0, none⟩ = some (.int .i64 t.g.base) := q1.cell 0
  have a1 : V1.cell? ⟨pq1, 1, none⟩ = some (.slice Ab t.g.bands.length cb) := q1.cell 1
  have a2 : V1.cell? ⟨pq1, 2, none⟩ = some (.slice Ad t.g.depths.length cd) := q1.cell 2
  have a3 : V1.cell? ⟨pq1, 3, none⟩ = some (.int .i64 t.g.blo) := q1.cell 3
  have a4 : V1.cell? ⟨pq1, 4, none⟩ = some (.int .i64 t.g.bhi) := q1.cell 4
  have la := q1.lt
  go_wp2_with fail
  refine (Zeros_bad t.g _ _ _ _ _ _ _ _ h l _ hg hh hi HNE.out).mono ?_
  rintro e V2 ⟨rfl, hV2⟩
  replace q1 := q1.below hV2 q1.lt
  replace q2 := q2.below hV2 q2.lt
  replace hg := hg.go hV2
  replace hh := (hh.below hV2).up hV2.size
  replace hi := (hi.below hV2).up hV2.size
  have B_V2 := ex_trans B_V1 hV2
  clear a0 a1 a2 a3 a4 la
  go_wp2_with (refine pause_store 56 rfl ?_)
  refine Paused.mk ?_
  refine wpList_store_row rfl 56 _ _ rfl _ #[.int .i64 0, .slice none 0 0, .slice none 0 0, .int .i64 0, .int .i64 0, .int .i64 0, .int .i64 0, .int .i64 0, .int .i64 0, .int .i64 0, .int .i64 0, .int .i64 0, .slice none 0 0, .slice none 0 0, .slice none 0 0] (by kernel_rfl) (by kernel_rfl) 56 _ q2 (by kernel_rfl) (by kernel_rfl) (by kernel_rfl) ?_
  go_wp2
  refine bodyPost_ret (results_ct_row rfl _ _ _ 56 #[.int .i64 0, .slice none 0 0, .slice none 0 0, .int .i64 0, .int .i64 0, .int .i64 0, .int .i64 0, .int .i64 0, .int .i64 0, .int .i64 0, .int .i64 0, .int .i64 0, .slice none 0 0, .slice none 0 0, .slice none 0 0] (0, 0) _ rfl (q2.setRow _) rfl rfl rfl) rfl ?_
  exact ⟨by rw [HU.out]; rfl, ex_row B_V2 hp2 _⟩
 ·
  have HU := Lib.hid (useE_1 (h := h) (l := l) hc)
  have e1 : (ckTube t != 0) = true := by simp [hc]
  clear hc hu
  go_enter Try.func25, Try.ntmps25
  go_upto_region 1 with fail
  show Code.wp _ _ _ _ _
  refine box2 (K := fun V => Code.wp _ _ _ _ V) ?_
  intro V hb1 q1 q2
  replace hg := hg.go hb1
  replace hh := (hh.below hb1).up hb1.size
  replace hi := (hi.below hb1).up hb1.size
  obtain ⟨pq1, hpq1⟩ : ∃ p, w.heap.size = p := ⟨_, rfl⟩
  obtain ⟨pq2, hpq2⟩ : ∃ p, w.heap.size + 1 = p := ⟨_, rfl⟩
  rw [hpq2] at q2 ⊢
  rw [hpq1] at q1 ⊢
  have hp1 : w.heap.size ≤ pq1 := by omega
  have hp2 : w.heap.size ≤ pq2 := by omega
  clear hpq1 hpq2
  go_wp2_with (refine pause_at 11 rfl ?_)
  refine Paused.mk ?_
  refine wpList_load_row rfl 32 _ rfl _ rfl 32 _ (0, 0) _ (q1) Try.underlying32 rfl (by kernel_rfl) ?_
  go_wp2_with fail
  refine (CheckTube_any t Ab Ad cb cd _ hg).mono ?_
  rintro e V3 ⟨rfl, hV3⟩
  replace q1 := q1.below hV3 q1.lt
  replace q2 := q2.below hV3 q2.lt
  replace hg := hg.go hV3
  replace hh := (hh.below hV3).up hV3.size
  replace hi := (hi.below hV3).up hV3.size
  have B_V3 := ex_trans hb1 hV3
  go_wp2_with (refine pause_store 56 rfl ?_)
  refine Paused.mk ?_
  refine wpList_store_row rfl 56 _ _ rfl _ #[.int .i64 0, .slice none 0 0, .slice none 0 0, .int .i64 0, .int .i64 0, .int .i64 0, .int .i64 0, .int .i64 0, .int .i64 0, .int .i64 0, .int .i64 0, .int .i64 0, .slice none 0 0, .slice none 0 0, .slice none 0 0] (by kernel_rfl) (by kernel_rfl) 56 _ q2 (by kernel_rfl) (by kernel_rfl) (by kernel_rfl) ?_
  go_wp2
  refine bodyPost_ret (results_ct_row rfl _ _ _ 56 #[.int .i64 0, .slice none 0 0, .slice none 0 0, .int .i64 0, .int .i64 0, .int .i64 0, .int .i64 0, .int .i64 0, .int .i64 0, .int .i64 0, .int .i64 0, .int .i64 0, .slice none 0 0, .slice none 0 0, .slice none 0 0] (0, 0) _ rfl (q2.setRow _) rfl rfl rfl) rfl ?_
  exact ⟨by rw [HU.out]; rfl, ex_row B_V3 hp2 _⟩
set_option maxRecDepth 100000 in
set_option maxHeartbeats 3200000 in
theorem sm_use_ok (t : Tb) (Ab Ad : Option Addr) (cb cd : Nat) (Ah Ai : Option Addr) (ch ci : Nat) (h : List Rg) (l : List Ic) (w : World) (hg : GlIn w w.heap.size t.g Ab Ad) (hh : SlAt w w.heap.size 2 Ah h.length (fR h)) (hi : SlAt w w.heap.size 3 Ai l.length (fC l)) (hu : useE t h l = 0) :
  Calls Try.prog 25 #[.agg #[.int .i64 t.g.base, .slice Ab t.g.bands.length cb, .slice Ad t.g.depths.length cd, .int .i64 t.g.blo, .int .i64 t.g.bhi, .int .i64 t.k.lo, .int .i64 t.k.hi, .int .i64 t.lag.lo, .int .i64 t.lag.hi, .int .i64 t.sq.lo, .int .i64 t.sq.hi, .int .i64 t.term], .slice Ah h.length ch, .slice Ai l.length ci] w fun e w' => (∃ Az nz zs, e = .returned (.tuple #[.agg #[.int .i64 t.g.base, .slice Ab t.g.bands.length cb, .slice Ad t.g.depths.length cd, .int .i64 t.g.blo, .int .i64 t.g.bhi, .int .i64 t.k.lo, .int .i64 t.k.hi, .int .i64 t.lag.lo, .int .i64 t.lag.hi, .int .i64 t.sq.lo, .int .i64 t.sq.hi, .int .i64 t.term, .slice Ah h.length ch, .slice Ai l.length ci, .slice Az nz nz], .int .i64 0]) ∧ Hid (UseV t h l nz zs) ∧ Hid (YoungAt Az w.heap.size) ∧ SlAt w' w'.heap.size 2 Az nz (fR zs)) ∧ Below w.heap.size w w' := by
 obtain ⟨hc, hic⟩ := useE_0 hu
 have HC := Lib.hid hc
 have HIC := Lib.hid hic
 clear hu hc hic
 go_enter Try.func25, Try.ntmps25
 go_upto_region 1 with fail
 show Code.wp _ _ _ _ _
 refine box2 (K := fun V => Code.wp _ _ _ _ V) ?_
 intro V hb1 q1 q2
 replace hg := hg.go hb1
 replace hh := (hh.below hb1).up hb1.size
 replace hi := (hi.below hb1).up hb1.size
 obtain ⟨pq1, hpq1⟩ : ∃ p, w.heap.size = p := ⟨_, rfl⟩
 obtain ⟨pq2, hpq2⟩ : ∃ p, w.heap.size + 1 = p := ⟨_, rfl⟩
 rw [hpq2] at q2 ⊢
 rw [hpq1] at q1 ⊢
 have hp1 : w.heap.size ≤ pq1 := by omega
 have hp2 : w.heap.size ≤ pq2 := by omega
 clear hpq1 hpq2
 go_wp2_with (refine pause_at 11 rfl ?_)
 refine Paused.mk ?_
 refine wpList_load_row rfl 32 _ rfl _ rfl 32 _ (0, 0) _ (q1) Try.underlying32 rfl (by kernel_rfl) ?_
 go_wp2_with fail
 refine (CheckTube_any t Ab Ad cb cd _ hg).mono ?_
 rintro e V1 ⟨rfl, hV1⟩
 replace q1 := q1.below hV1 q1.lt
 replace q2 := q2.below hV1 q2.lt
 replace hg := hg.go hV1
 replace hh := (hh.below hV1).up hV1.size
 replace hi := (hi.below hV1).up hV1.size
 have B_V1 := ex_trans hb1 hV1
 rw [HC.out]
 have q2p := q2.lt
 have a0 : V1.cell? ⟨pq1, 0, none⟩ = some (.int .i64 t.g.base) := q1.cell 0
 have a1 : V1.cell? ⟨pq1, 1, none⟩ = some (.slice Ab t.g.bands.length cb) := q1.cell 1
 have a2 : V1.cell? ⟨pq1, 2, none⟩ = some (.slice Ad t.g.depths.length cd) := q1.cell 2
 have a3 : V1.cell? ⟨pq1, 3, none⟩ = some (.int .i64 t.g.blo) := q1.cell 3
 have a4 : V1.cell? ⟨pq1, 4, none⟩ = some (.int .i64 t.g.bhi) := q1.cell 4
 have la := q1.lt
 go_wp2_with fail
 refine (Zeros_y t.g _ _ _ _ _ _ _ _ h l _ hg hh hi HIC.out).mono ?_
 rintro e V2 ⟨⟨Az, nz, ev, zs, rfl, hz, hyo, hsz⟩, hV2⟩
 replace q1 := q1.below hV2 q1.lt
 replace q2 := q2.below hV2 q2.lt
 replace hg := hg.go hV2
 replace hh := (hh.below hV2).up hV2.size
 replace hi := (hi.below hV2).up hV2.size
 have B_V2 := ex_trans B_V1 hV2
 clear a0 a1 a2 a3 a4 la
 have hyq : pq2 + 1 ≤ V1.heap.size := q2p
 have hyw : w.heap.size ≤ V1.heap.size := B_V1.size
 clear q2p
 have HZ := Lib.hid (use_of hz.out).1
 obtain ⟨_, rfl | rfl⟩ := use_of hz.out
 ·
  clear hz
  go_wp2_with (refine pause_at 33 rfl ?_)
  refine Paused.mk ?_
  refine wpList_load_row rfl 32 _ rfl _ rfl 32 _ (0, 0) _ (q1) Try.underlying32 rfl (by kernel_rfl) ?_
  go_wp2_with (refine pause_store 56 rfl ?_)
  refine Paused.mk ?_
  refine wpList_store_row rfl 56 _ _ rfl _ #[.int .i64 t.g.base, .slice Ab t.g.bands.length cb, .slice Ad t.g.depths.length cd, .int .i64 t.g.blo, .int .i64 t.g.bhi, .int .i64 t.k.lo, .int .i64 t.k.hi, .int .i64 t.lag.lo, .int .i64 t.lag.hi, .int .i64 t.sq.lo, .int .i64 t.sq.hi, .int .i64 t.term, .slice Ah h.length ch, .slice Ai l.length ci, .slice Az nz nz] (by kernel_rfl) (by kernel_rfl) 56 _ q2 (by kernel_rfl) (by kernel_rfl) (by kernel_rfl) ?_
  go_wp2
  refine bodyPost_ret (results_ct_row rfl _ _ _ 56 #[.int .i64 t.g.base, .slice Ab t.g.bands.length cb, .slice Ad t.g.depths.length cd, .int .i64 t.g.blo, .int .i64 t.g.bhi, .int .i64 t.k.lo, .int .i64 t.k.hi, .int .i64 t.lag.lo, .int .i64 t.lag.hi, .int .i64 t.sq.lo, .int .i64 t.sq.hi, .int .i64 t.term, .slice Ah h.length ch, .slice Ai l.length ci, .slice Az nz nz] (0, 0) _ rfl (q2.setRow _) rfl rfl rfl) rfl ?_
  have hB := ex_row B_V2 hp2 #[.int .i64 t.g.base, .slice Ab t.g.bands.length cb, .slice Ad t.g.depths.length cd, .int .i64 t.g.blo, .int .i64 t.g.bhi, .int .i64 t.k.lo, .int .i64 t.k.hi, .int .i64 t.lag.lo, .int .i64 t.lag.hi, .int .i64 t.sq.lo, .int .i64 t.sq.hi, .int .i64 t.term, .slice Ah h.length ch, .slice Ai l.length ci, .slice Az nz nz]
  exact ⟨⟨Az, nz, zs, rfl, HZ, Lib.hid (hyo.out.mono hyw), hsz.offRow (hyo.out.mono hyq) _⟩, hB⟩
 ·
  clear hz
  go_wp2_with (refine pause_at 33 rfl ?_)
  refine Paused.mk ?_
  refine wpList_load_row rfl 32 _ rfl _ rfl 32 _ (0, 0) _ (q1) Try.underlying32 rfl (by kernel_rfl) ?_
  go_wp2_with (refine pause_store 56 rfl ?_)
  refine Paused.mk ?_
  refine wpList_store_row rfl 56 _ _ rfl _ #[.int .i64 t.g.base, .slice Ab t.g.bands.length cb, .slice Ad t.g.depths.length cd, .int .i64 t.g.blo, .int .i64 t.g.bhi, .int .i64 t.k.lo, .int .i64 t.k.hi, .int .i64 t.lag.lo, .int .i64 t.lag.hi, .int .i64 t.sq.lo, .int .i64 t.sq.hi, .int .i64 t.term, .slice Ah h.length ch, .slice Ai l.length ci, .slice Az nz nz] (by kernel_rfl) (by kernel_rfl) 56 _ q2 (by kernel_rfl) (by kernel_rfl) (by kernel_rfl) ?_
  go_wp2
  refine bodyPost_ret (results_ct_row rfl _ _ _ 56 #[.int .i64 t.g.base, .slice Ab t.g.bands.length cb, .slice Ad t.g.depths.length cd, .int .i64 t.g.blo, .int .i64 t.g.bhi, .int .i64 t.k.lo, .int .i64 t.k.hi, .int .i64 t.lag.lo, .int .i64 t.lag.hi, .int .i64 t.sq.lo, .int .i64 t.sq.hi, .int .i64 t.term, .slice Ah h.length ch, .slice Ai l.length ci, .slice Az nz nz] (0, 0) _ rfl (q2.setRow _) rfl rfl rfl) rfl ?_
  have hB := ex_row B_V2 hp2 #[.int .i64 t.g.base, .slice Ab t.g.bands.length cb, .slice Ad t.g.depths.length cd, .int .i64 t.g.blo, .int .i64 t.g.bhi, .int .i64 t.k.lo, .int .i64 t.k.hi, .int .i64 t.lag.lo, .int .i64 t.lag.hi, .int .i64 t.sq.lo, .int .i64 t.sq.hi, .int .i64 t.term, .slice Ah h.length ch, .slice Ai l.length ci, .slice Az nz nz]
  exact ⟨⟨Az, nz, zs, rfl, HZ, Lib.hid (hyo.out.mono hyw), hsz.offRow (hyo.out.mono hyq) _⟩, hB⟩

end Go.Proofs.Ytkaogjhnogkcdaa
end

section
namespace Go.Proofs.Ytkaogjhnogkcdaa
open Go.RowKit
attribute [local go_sem] Ex.cell? Ex.frozen?

def ZsBd (n : Nat) (zs : List Rg) : Prop := ∀ i, i < n → (-2000 ≤ (gR zs i).lo ∧ (gR zs i).lo ≤ 2000) ∧ (-2000 ≤ (gR zs i).hi ∧ (gR zs i).hi ≤ 2000)
set_option maxRecDepth 100000 in
set_option maxHeartbeats 6400000 in
theorem sm_correct (t : Tb) (Ab Ad Ah Ai Az : Option Addr) (cb cd ch ci cz nz : Nat) (h : List Rg) (l : List Ic) (r : Rd) (zs : List Rg) (k : Nat) (w : World) (hz : SlAt w w.heap.size 2 Az nz (fR zs)) (ht : TbBd t) (hr : RdBd r) (hk : r.day = (k : Int)) (hkn : k < nz) (hn : nz ≤ 1000000) (hb : ZsBd nz zs) :
  Calls Try.prog 17 #[.agg #[.int .i64 t.g.base, .slice Ab t.g.bands.length cb, .slice Ad t.g.depths.length cd, .int .i64 t.g.blo, .int .i64 t.g.bhi, .int .i64 t.k.lo, .int .i64 t.k.hi, .int .i64 t.lag.lo, .int .i64 t.lag.hi, .int .i64 t.sq.lo, .int .i64 t.sq.hi, .int .i64 t.term, .slice Ah h.length ch, .slice Ai l.length ci, .slice Az nz cz], .agg #[.int .i64 r.day, .int .i64 r.shown, .int .i64 r.err, .int .i64 r.bare, .int .i64 r.air.lo, .int .i64 r.air.hi, .int .i64 r.rate.lo, .int .i64 r.rate.hi, .int .i64 r.deep, .bool r.broken]] w fun e w' => e = .returned (.agg #[.int .i64 (corP2 t r (gR zs k)).lo, .int .i64 (corP2 t r (gR zs k)).hi]) ∧ Below w.heap.size w w' := by
 have HKK := Lib.hid hk
 clear hk
 go_enter Try.func17, Try.ntmps17
 go_upto_region 1 with fail
 show Code.wp _ _ _ _ _
 refine box3 (K := fun V => Code.wp _ _ _ _ V) ?_
 intro V hb1 q1 q2 q3
 replace hz := (hz.below hb1).up hb1.size
 obtain ⟨pq1, hpq1⟩ : ∃ p, w.heap.size = p := ⟨_, rfl⟩
 obtain ⟨pq2, hpq2⟩ : ∃ p, w.heap.size + 1 = p := ⟨_, rfl⟩
 obtain ⟨pq3, hpq3⟩ : ∃ p, w.heap.size + 1 + 1 = p := ⟨_, rfl⟩
 rw [hpq3] at q3 ⊢
 rw [hpq2] at q2 ⊢
 rw [hpq1] at q1 ⊢
 have hp1 : w.heap.size ≤ pq1 := by omega
 have hp2 : w.heap.size ≤ pq2 := by omega
 have hp3 : w.heap.size ≤ pq3 := by omega
 clear hpq1 hpq2 hpq3
 have a14 : V.cell? ⟨pq1, 14, none⟩ = some (.slice Az nz cz) := q1.cell 14
 have la := q1.lt
 have b0 : V.cell? ⟨pq2, 0, none⟩ = some (.int .i64 r.day) := q2.cell 0
 have lb := q2.lt
 rw [HKK.out] at b0
 obtain ⟨zb, zo, rfl, hzb, z0, z1⟩ := IsRgs.at_ hz hkn
 have hbk := hb k hkn
 obtain ⟨⟨zl, zh⟩, hzk⟩ : ∃ x, gR zs k = x := ⟨_, rfl⟩
 have HZK := Lib.hid hzk
 rw [hzk] at z0 z1 hbk
 clear hzk
 dsimp only at z0 z1 hbk
 have hbb := bnd_bd ht hr
 have hkz : (k : Int) < (nz : Int) := by omega
 have lq3 : pq3 < V.heap.size := q3.lt
 go_wp2_with fail
 clear a14 la
 have a0 : V.cell? ⟨pq1, 0, none⟩ = some (.int .i64 t.g.base) := q1.cell 0
 have a1 : V.cell? ⟨pq1, 1, none⟩ = some (.slice Ab t.g.bands.length cb) := q1.cell 1
 have a2 : V.cell? ⟨pq1, 2, none⟩ = some (.slice Ad t.g.depths.length cd) := q1.cell 2
 have a3 : V.cell? ⟨pq1, 3, none⟩ = some (.int .i64 t.g.blo) := q1.cell 3
 have a4 : V.cell? ⟨pq1, 4, none⟩ = some (.int .i64 t.g.bhi) := q1.cell 4
 have a5 : V.cell? ⟨pq1, 5, none⟩ = some (.int .i64 t.k.lo) := q1.cell 5
 have a6 : V.cell? ⟨pq1, 6, none⟩ = some (.int .i64 t.k.hi) := q1.cell 6
 have a7 : V.cell? ⟨pq1, 7, none⟩ = some (.int .i64 t.lag.lo) := q1.cell 7
 have a8 : V.cell? ⟨pq1, 8, none⟩ = some (.int .i64 t.lag.hi) := q1.cell 8
 have a9 : V.cell? ⟨pq1, 9, none⟩ = some (.int .i64 t.sq.lo) := q1.cell 9
 have a10 : V.cell? ⟨pq1, 10, none⟩ = some (.int .i64 t.sq.hi) := q1.cell 10
 have a11 : V.cell? ⟨pq1, 11, none⟩ = some (.int .i64 t.term) := q1.cell 11
 have a14 : V.cell? ⟨pq1, 14, none⟩ = some (.slice (some ⟨zb, zo, none⟩) nz cz) := q1.cell 14
 have la := q1.lt
 refine wp_region_ext_tq 14 (.quiet 0 (.quiet 1 (.quiet 2 (.quiet 3 (.quiet 5 (.quiet 6 (.quiet 7 (.quiet 8 (.quiet 9 (.quiet 10 (.fork3 4 (.fork 11 (.loud 12 (.loud 13 .done)) 12 (.loud 11 (.loud 13 .done))) 11 (.fork 4 (.loud 12 (.loud 13 .done)) 12 (.loud 4 (.loud 13 .done))) 12 (.fork 4 (.loud 11 (.loud 13 .done)) 11 (.loud 4 (.loud 13 .done)))))))))))))) (by kernel_rfl) (by kernel_rfl) (by intro d _ _ _ _ h; cases d <;> exact h) ?_
 have D0 := (Below.refl V.heap.size V).drew
 repeat (refine tq_quiet rfl ?_; first | (refine wpQuiet_load_row rfl 37 _ rfl _ rfl 37 _ (0, 0) _ q2.ex Try.underlying37 rfl (by kernel_rfl) ?_; simp only [Act.put, List.setIfInBounds_toArray, List.set_cons_zero, List.set_cons_succ]) | go_big_quiet_step (fail); refine wpQuiet_nil ?_)
 refine tq_fork3 rfl rfl rfl ?_ ?_ ?_
 ·
  go_wp2_with fail
  refine (sm_bounds t Ab Ad cb cd r _ ht hr).mono ?_
  rintro e V1 ⟨rfl, hV1⟩
  have N4 := ex_trans ((Below.refl V.heap.size V)).drew hV1
  go_wp2_with fail
  refine ⟨inEx N4, ?_⟩
  refine tq_fork rfl rfl ?_ ?_
  ·
   go_wp2_with fail
   have su := (N4).size
   try simp at su
   have N11 := ex_alloc N4 (.cells #[.int .i64 0, .int .i64 0] 23)
   have bu : Blk (V1.alloc (.cells #[.int .i64 0, .int .i64 0] 23)) (V1.heap.size) 23 #[.int .i64 0, .int .i64 0] := Blk.new' _ _ _ (by first | rfl | (simp; done) | (simp; omega))
   obtain ⟨pu, hpu⟩ : ∃ p, V1.heap.size = p := ⟨_, rfl⟩
   rw [hpu] at bu
   try rw [hpu]
   have yu : V.heap.size ≤ pu := by omega
   clear su
   refine ⟨inEx N11, ?_⟩
   refine tq_loud rfl ?_
   go_wp2_with fail
   have tvu := bu.lt
   try simp at tvu
   have sv := (N11).size
   try simp at sv
   have N12 := ex_alloc N11 (.cells #[.int .i64 0, .int .i64 0] 23)
   have bv : Blk ((V1.alloc (.cells #[.int .i64 0, .int .i64 0] 23)).alloc (.cells #[.int .i64 0, .int .i64 0] 23)) (pu + 1) 23 #[.int .i64 0, .int .i64 0] := Blk.new' _ _ _ (by first | rfl | (simp; done) | (simp; omega))
   replace bu := bu.alloc (.cells #[.int .i64 0, .int .i64 0] 23)
   obtain ⟨pv, hpv⟩ : ∃ p, pu + 1 = p := ⟨_, rfl⟩
   rw [hpv] at bv
   try rw [hpv]
   have nvu : pv ≠ pu := by omega
   have nuv : pu ≠ pv := by omega
   clear tvu
   have yv : V.heap.size ≤ pv := by omega
   clear sv
   refine ⟨inEx N12, ?_⟩
   refine tq_loud rfl ?_
   have XA13 := N12
   generalize ((V1.alloc (.cells #[.int .i64 0, .int .i64 0] 23)).alloc (.cells #[.int .i64 0, .int .i64 0] 23)) = V2 at *
   have sc0 : V2.cell? ⟨pu, 0, none⟩ = some (.int .i64 0) := bu.cell 0
   have sc1 : V2.cell? ⟨pu, 1, none⟩ = some (.int .i64 0) := bu.cell 1
   have sf := bu.frozen0
   have sl := bu.lt
   go_wp2_with fail
   replace bu := bu.set_ 0 (.int .i64 (bndP t r).lo)
   replace bv := bv.far (p := ⟨pu, 0, none⟩) nvu (.int .i64 (bndP t r).lo)
   replace XA13 := ex_set (p := ⟨pu, 0, none⟩) XA13 yu (.int .i64 (bndP t r).lo)
   replace bu := bu.set_ 1 (.int .i64 (bndP t r).hi)
   replace bv := bv.far (p := ⟨pu, 1, none⟩) nvu (.int .i64 (bndP t r).hi)
   replace XA13 := ex_set (p := ⟨pu, 1, none⟩) XA13 yu (.int .i64 (bndP t r).hi)
   simp only [List.setIfInBounds_toArray, List.set_cons_zero, List.set_cons_succ] at bu
   clear sf sl sc0 sc1
   generalize ((V2.setCell ⟨pu, 0, none⟩ (.int .i64 (bndP t r).lo)).setCell ⟨pu, 1, none⟩ (.int .i64 (bndP t r).hi)) = V3 at *
   refine ⟨inEx XA13, ?_⟩
   refine tq_done (r := [_]) rfl ?_
   have XX := XA13
   have XS := XX.size
   replace q1 := q1.below XX q1.lt
   replace q2 := q2.below XX q2.lt
   replace q3 := q3.below XX q3.lt
   replace hz := hz.go XX
   have B_V4 := ex_trans hb1 XX
   clear b0 lb
   clear a0 a1 a2 a3 a4 a5 a6 a7 a8 a9 a10 a11 a14 la
   clear D0 XX XS XA13 N12 N11 hV1 N4 hpv hpu
   generalize V3 = V4 at *
   have u0 := bu.cell 0
   have u1 := bu.cell 1
   have lu := bu.lt
   have v0 := bv.cell 0
   have v1 := bv.cell 1
   have fv := bv.frozen0
   have lv := bv.lt
   simp at u0 u1 v0 v1
   have r0 := q3.cell 0
   have r1 := q3.cell 1
   have fr := q3.frozen0
   have lr := q3.lt
   simp at r0 r1
   have hpv2 : w.heap.size ≤ pv := by have := hb1.size; omega
   have npv : pq3 ≠ pv := by have := lq3; omega
   have npu : pq3 ≠ pu := by have := lq3; omega
   have m3 := (((q3.far (p := ⟨pv, 0, none⟩) npv (.int .i64 zl)).far (p := ⟨pv, 1, none⟩) npv (.int .i64 zh)).set_ 0 (.int .i64 ((bndP t r).lo - zh))).set_ 1 (.int .i64 ((bndP t r).hi - zl))
   simp only [List.setIfInBounds_toArray, List.set_cons_zero, List.set_cons_succ] at m3
   generalize hbl : (bndP t r).lo = bl at *
   generalize hbh : (bndP t r).hi = bh at *
   have HBL := Lib.hid hbl
   have HBH := Lib.hid hbh
   clear hbl hbh
   go_wp2
   refine bodyPost_ret (results_cell_row rfl _ _ _ 23 #[.int .i64 (bl - zh), .int .i64 (bh - zl)] (0, 0) _ rfl m3 rfl rfl rfl) rfl ?_
   have HR : corP2 t r (gR zs k) = ⟨bl - zh, bh - zl⟩ := by rw [HZK.out]; unfold corP2; rw [HBL.out, HBH.out]
   rw [HR]
   exact ⟨rfl, ex_set (p := ⟨pq3, 1, none⟩) (ex_set (p := ⟨pq3, 0, none⟩) (ex_set (p := ⟨pv, 1, none⟩) (ex_set (p := ⟨pv, 0, none⟩) B_V4 hpv2 _) hpv2 _) hp3 _) hp3 _⟩
  ·
   go_wp2_with fail
   have sv := (N4).size
   try simp at sv
   have N12 := ex_alloc N4 (.cells #[.int .i64 0, .int .i64 0] 23)
   have bv : Blk (V1.alloc (.cells #[.int .i64 0, .int .i64 0] 23)) (V1.heap.size) 23 #[.int .i64 0, .int .i64 0] := Blk.new' _ _ _ (by first | rfl | (simp; done) | (simp; omega))
   obtain ⟨pv, hpv⟩ : ∃ p, V1.heap.size = p := ⟨_, rfl⟩
   rw [hpv] at bv
   try rw [hpv]
   have yv : V.heap.size ≤ pv := by omega
   clear sv
   refine ⟨inEx N12, ?_⟩
   refine tq_loud rfl ?_
   go_wp2_with fail
   have tuv := bv.lt
   try simp at tuv
   have su := (N12).size
   try simp at su
   have N11 := ex_alloc N12 (.cells #[.int .i64 0, .int .i64 0] 23)
   have bu : Blk ((V1.alloc (.cells #[.int .i64 0, .int .i64 0] 23)).alloc (.cells #[.int .i64 0, .int .i64 0] 23)) (pv + 1) 23 #[.int .i64 0, .int .i64 0] := Blk.new' _ _ _ (by first | rfl | (simp; done) | (simp; omega))
   replace bv := bv.alloc (.cells #[.int .i64 0, .int .i64 0] 23)
   obtain ⟨pu, hpu⟩ : ∃ p, pv + 1 = p := ⟨_, rfl⟩
   rw [hpu] at bu
   try rw [hpu]
   have nuv : pu ≠ pv := by omega
   have nvu : pv ≠ pu := by omega
   clear tuv
   have yu : V.heap.size ≤ pu := by omega
   clear su
   refine ⟨inEx N11, ?_⟩
   refine tq_loud rfl ?_
   have XA13 := N11
   generalize ((V1.alloc (.cells #[.int .i64 0, .int .i64 0] 23)).alloc (.cells #[.int .i64 0, .int .i64 0] 23)) = V5 at *
   have sc0 : V5.cell? ⟨pu, 0, none⟩ = some (.int .i64 0) := bu.cell 0
   have sc1 : V5.cell? ⟨pu, 1, none⟩ = some (.int .i64 0) := bu.cell 1
   have sf := bu.frozen0
   have sl := bu.lt
   go_wp2_with fail
   replace bu := bu.set_ 0 (.int .i64 (bndP t r).lo)
   replace bv := bv.far (p := ⟨pu, 0, none⟩) nvu (.int .i64 (bndP t r).lo)
   replace XA13 := ex_set (p := ⟨pu, 0, none⟩) XA13 yu (.int .i64 (bndP t r).lo)
   replace bu := bu.set_ 1 (.int .i64 (bndP t r).hi)
   replace bv := bv.far (p := ⟨pu, 1, none⟩) nvu (.int .i64 (bndP t r).hi)
   replace XA13 := ex_set (p := ⟨pu, 1, none⟩) XA13 yu (.int .i64 (bndP t r).hi)
   simp only [List.setIfInBounds_toArray, List.set_cons_zero, List.set_cons_succ] at bu
   clear sf sl sc0 sc1
   generalize ((V5.setCell ⟨pu, 0, none⟩ (.int .i64 (bndP t r).lo)).setCell ⟨pu, 1, none⟩ (.int .i64 (bndP t r).hi)) = V6 at *
   refine ⟨inEx XA13, ?_⟩
   refine tq_done (r := [_]) rfl ?_
   have XX := XA13
   have XS := XX.size
   replace q1 := q1.below XX q1.lt
   replace q2 := q2.below XX q2.lt
   replace q3 := q3.below XX q3.lt
   replace hz := hz.go XX
   have B_V7 := ex_trans hb1 XX
   clear b0 lb
   clear a0 a1 a2 a3 a4 a5 a6 a7 a8 a9 a10 a11 a14 la
   clear D0 XX XS XA13 N11 N12 hV1 N4 hpu hpv
   generalize V6 = V7 at *
   have u0 := bu.cell 0
   have u1 := bu.cell 1
   have lu := bu.lt
   have v0 := bv.cell 0
   have v1 := bv.cell 1
   have fv := bv.frozen0
   have lv := bv.lt
   simp at u0 u1 v0 v1
   have r0 := q3.cell 0
   have r1 := q3.cell 1
   have fr := q3.frozen0
   have lr := q3.lt
   simp at r0 r1
   have hpv2 : w.heap.size ≤ pv := by have := hb1.size; omega
   have npv : pq3 ≠ pv := by have := lq3; omega
   have npu : pq3 ≠ pu := by have := lq3; omega
   have m3 := (((q3.far (p := ⟨pv, 0, none⟩) npv (.int .i64 zl)).far (p := ⟨pv, 1, none⟩) npv (.int .i64 zh)).set_ 0 (.int .i64 ((bndP t r).lo - zh))).set_ 1 (.int .i64 ((bndP t r).hi - zl))
   simp only [List.setIfInBounds_toArray, List.set_cons_zero, List.set_cons_succ] at m3
   generalize hbl : (bndP t r).lo = bl at *
   generalize hbh : (bndP t r).hi = bh at *
   have HBL := Lib.hid hbl
   have HBH := Lib.hid hbh
   clear hbl hbh
   go_wp2
   refine bodyPost_ret (results_cell_row rfl _ _ _ 23 #[.int .i64 (bl - zh), .int .i64 (bh - zl)] (0, 0) _ rfl m3 rfl rfl rfl) rfl ?_
   have HR : corP2 t r (gR zs k) = ⟨bl - zh, bh - zl⟩ := by rw [HZK.out]; unfold corP2; rw [HBL.out, HBH.out]
   rw [HR]
   exact ⟨rfl, ex_set (p := ⟨pq3, 1, none⟩) (ex_set (p := ⟨pq3, 0, none⟩) (ex_set (p := ⟨pv, 1, none⟩) (ex_set (p := ⟨pv, 0, none⟩) B_V7 hpv2 _) hpv2 _) hp3 _) hp3 _⟩
 ·
  go_wp2_with fail
  have su := ((Below.refl V.heap.size V)).size
  try simp at su
  have N11 := ex_alloc (Below.refl V.heap.size V) (.cells #[.int .i64 0, .int .i64 0] 23)
  have bu : Blk (V.alloc (.cells #[.int .i64 0, .int .i64 0] 23)) (V.heap.size) 23 #[.int .i64 0, .int .i64 0] := Blk.new' _ _ _ (by first | rfl | (simp; done) | (simp; omega))
  obtain ⟨pu, hpu⟩ : ∃ p, V.heap.size = p := ⟨_, rfl⟩
  rw [hpu] at bu
  try rw [hpu]
  have yu : V.heap.size ≤ pu := by omega
  clear su
  refine ⟨inEx (N11).drew, ?_⟩
  refine tq_fork rfl rfl ?_ ?_
  ·
   go_wp2_with fail
   refine (sm_bounds t Ab Ad cb cd r _ ht hr).mono ?_
   rintro e V8 ⟨rfl, hV8⟩
   replace bu := Blk.below (Blk.drew bu) hV8 bu.lt
   have N4 := ex_trans (N11).drew hV8
   go_wp2_with fail
   refine ⟨inEx N4, ?_⟩
   refine tq_loud rfl ?_
   go_wp2_with fail
   have tvu := bu.lt
   try simp at tvu
   have sv := (N4).size
   try simp at sv
   have N12 := ex_alloc N4 (.cells #[.int .i64 0, .int .i64 0] 23)
   have bv : Blk (V8.alloc (.cells #[.int .i64 0, .int .i64 0] 23)) (V8.heap.size) 23 #[.int .i64 0, .int .i64 0] := Blk.new' _ _ _ (by first | rfl | (simp; done) | (simp; omega))
   replace bu := bu.alloc (.cells #[.int .i64 0, .int .i64 0] 23)
   obtain ⟨pv, hpv⟩ : ∃ p, V8.heap.size = p := ⟨_, rfl⟩
   rw [hpv] at bv
   try rw [hpv]
   have nvu : pv ≠ pu := by omega
   have nuv : pu ≠ pv := by omega
   clear tvu
   have yv : V.heap.size ≤ pv := by omega
   clear sv
   refine ⟨inEx N12, ?_⟩
   refine tq_loud rfl ?_
   have XA13 := N12
   generalize (V8.alloc (.cells #[.int .i64 0, .int .i64 0] 23)) = V9 at *
   have sc0 : V9.cell? ⟨pu, 0, none⟩ = some (.int .i64 0) := bu.cell 0
   have sc1 : V9.cell? ⟨pu, 1, none⟩ = some (.int .i64 0) := bu.cell 1
   have sf := bu.frozen0
   have sl := bu.lt
   go_wp2_with fail
   replace bu := bu.set_ 0 (.int .i64 (bndP t r).lo)
   replace bv := bv.far (p := ⟨pu, 0, none⟩) nvu (.int .i64 (bndP t r).lo)
   replace XA13 := ex_set (p := ⟨pu, 0, none⟩) XA13 yu (.int .i64 (bndP t r).lo)
   replace bu := bu.set_ 1 (.int .i64 (bndP t r).hi)
   replace bv := bv.far (p := ⟨pu, 1, none⟩) nvu (.int .i64 (bndP t r).hi)
   replace XA13 := ex_set (p := ⟨pu, 1, none⟩) XA13 yu (.int .i64 (bndP t r).hi)
   simp only [List.setIfInBounds_toArray, List.set_cons_zero, List.set_cons_succ] at bu
   clear sf sl sc0 sc1
   generalize ((V9.setCell ⟨pu, 0, none⟩ (.int .i64 (bndP t r).lo)).setCell ⟨pu, 1, none⟩ (.int .i64 (bndP t r).hi)) = V10 at *
   refine ⟨inEx XA13, ?_⟩
   refine tq_done (r := [_]) rfl ?_
   have XX := XA13
   have XS := XX.size
   replace q1 := q1.below XX q1.lt
   replace q2 := q2.below XX q2.lt
   replace q3 := q3.below XX q3.lt
   replace hz := hz.go XX
   have B_V11 := ex_trans hb1 XX
   clear b0 lb
   clear a0 a1 a2 a3 a4 a5 a6 a7 a8 a9 a10 a11 a14 la
   clear D0 XX XS XA13 N12 hV8 N4 N11 hpv hpu
   generalize V10 = V11 at *
   have u0 := bu.cell 0
   have u1 := bu.cell 1
   have lu := bu.lt
   have v0 := bv.cell 0
   have v1 := bv.cell 1
   have fv := bv.frozen0
   have lv := bv.lt
   simp at u0 u1 v0 v1
   have r0 := q3.cell 0
   have r1 := q3.cell 1
   have fr := q3.frozen0
   have lr := q3.lt
   simp at r0 r1
   have hpv2 : w.heap.size ≤ pv := by have := hb1.size; omega
   have npv : pq3 ≠ pv := by have := lq3; omega
   have npu : pq3 ≠ pu := by have := lq3; omega
   have m3 := (((q3.far (p := ⟨pv, 0, none⟩) npv (.int .i64 zl)).far (p := ⟨pv, 1, none⟩) npv (.int .i64 zh)).set_ 0 (.int .i64 ((bndP t r).lo - zh))).set_ 1 (.int .i64 ((bndP t r).hi - zl))
   simp only [List.setIfInBounds_toArray, List.set_cons_zero, List.set_cons_succ] at m3
   generalize hbl : (bndP t r).lo = bl at *
   generalize hbh : (bndP t r).hi = bh at *
   have HBL := Lib.hid hbl
   have HBH := Lib.hid hbh
   clear hbl hbh
   go_wp2
   refine bodyPost_ret (results_cell_row rfl _ _ _ 23 #[.int .i64 (bl - zh), .int .i64 (bh - zl)] (0, 0) _ rfl m3 rfl rfl rfl) rfl ?_
   have HR : corP2 t r (gR zs k) = ⟨bl - zh, bh - zl⟩ := by rw [HZK.out]; unfold corP2; rw [HBL.out, HBH.out]
   rw [HR]
   exact ⟨rfl, ex_set (p := ⟨pq3, 1, none⟩) (ex_set (p := ⟨pq3, 0, none⟩) (ex_set (p := ⟨pv, 1, none⟩) (ex_set (p := ⟨pv, 0, none⟩) B_V11 hpv2 _) hpv2 _) hp3 _) hp3 _⟩
  ·
   go_wp2_with fail
   have tvu := bu.lt
   try simp at tvu
   have sv := (N11).size
   try simp at sv
   have N12 := ex_alloc N11 (.cells #[.int .i64 0, .int .i64 0] 23)
   have bv : Blk ((V.alloc (.cells #[.int .i64 0, .int .i64 0] 23)).alloc (.cells #[.int .i64 0, .int .i64 0] 23)) (pu + 1) 23 #[.int .i64 0, .int .i64 0] := Blk.new' _ _ _ (by first | rfl | (simp; done) | (simp; omega))
   replace bu := bu.alloc (.cells #[.int .i64 0, .int .i64 0] 23)
   obtain ⟨pv, hpv⟩ : ∃ p, pu + 1 = p := ⟨_, rfl⟩
   rw [hpv] at bv
   try rw [hpv]
   have nvu : pv ≠ pu := by omega
   have nuv : pu ≠ pv := by omega
   clear tvu
   have yv : V.heap.size ≤ pv := by omega
   clear sv
   refine ⟨inEx (N12).drew, ?_⟩
   refine tq_loud rfl ?_
   go_wp2_with fail
   refine (sm_bounds t Ab Ad cb cd r _ ht hr).mono ?_
   rintro e V12 ⟨rfl, hV12⟩
   replace bu := Blk.below (Blk.drew bu) hV12 bu.lt
   replace bv := Blk.below (Blk.drew bv) hV12 bv.lt
   have N4 := ex_trans (N12).drew hV12
   go_wp2_with fail
   refine ⟨inEx N4, ?_⟩
   refine tq_loud rfl ?_
   have XA13 := N4
   generalize V12 = V13 at *
   have sc0 : V13.cell? ⟨pu, 0, none⟩ = some (.int .i64 0) := bu.cell 0
   have sc1 : V13.cell? ⟨pu, 1, none⟩ = some (.int .i64 0) := bu.cell 1
   have sf := bu.frozen0
   have sl := bu.lt
   go_wp2_with fail
   replace bu := bu.set_ 0 (.int .i64 (bndP t r).lo)
   replace bv := bv.far (p := ⟨pu, 0, none⟩) nvu (.int .i64 (bndP t r).lo)
   replace XA13 := ex_set (p := ⟨pu, 0, none⟩) XA13 yu (.int .i64 (bndP t r).lo)
   replace bu := bu.set_ 1 (.int .i64 (bndP t r).hi)
   replace bv := bv.far (p := ⟨pu, 1, none⟩) nvu (.int .i64 (bndP t r).hi)
   replace XA13 := ex_set (p := ⟨pu, 1, none⟩) XA13 yu (.int .i64 (bndP t r).hi)
   simp only [List.setIfInBounds_toArray, List.set_cons_zero, List.set_cons_succ] at bu
   clear sf sl sc0 sc1
   generalize ((V13.setCell ⟨pu, 0, none⟩ (.int .i64 (bndP t r).lo)).setCell ⟨pu, 1, none⟩ (.int .i64 (bndP t r).hi)) = V14 at *
   refine ⟨inEx XA13, ?_⟩
   refine tq_done (r := [_]) rfl ?_
   have XX := XA13
   have XS := XX.size
   replace q1 := q1.below XX q1.lt
   replace q2 := q2.below XX q2.lt
   replace q3 := q3.below XX q3.lt
   replace hz := hz.go XX
   have B_V15 := ex_trans hb1 XX
   clear b0 lb
   clear a0 a1 a2 a3 a4 a5 a6 a7 a8 a9 a10 a11 a14 la
   clear D0 XX XS XA13 hV12 N4 N12 N11 hpv hpu
   generalize V14 = V15 at *
   have u0 := bu.cell 0
   have u1 := bu.cell 1
   have lu := bu.lt
   have v0 := bv.cell 0
   have v1 := bv.cell 1
   have fv := bv.frozen0
   have lv := bv.lt
   simp at u0 u1 v0 v1
   have r0 := q3.cell 0
   have r1 := q3.cell 1
   have fr := q3.frozen0
   have lr := q3.lt
   simp at r0 r1
   have hpv2 : w.heap.size ≤ pv := by have := hb1.size; omega
   have npv : pq3 ≠ pv := by have := lq3; omega
   have npu : pq3 ≠ pu := by have := lq3; omega
   have m3 := (((q3.far (p := ⟨pv, 0, none⟩) npv (.int .i64 zl)).far (p := ⟨pv, 1, none⟩) npv (.int .i64 zh)).set_ 0 (.int .i64 ((bndP t r).lo - zh))).set_ 1 (.int .i64 ((bndP t r).hi - zl))
   simp only [List.setIfInBounds_toArray, List.set_cons_zero, List.set_cons_succ] at m3
   generalize hbl : (bndP t r).lo = bl at *
   generalize hbh : (bndP t r).hi = bh at *
   have HBL := Lib.hid hbl
   have HBH := Lib.hid hbh
   clear hbl hbh
   go_wp2
   refine bodyPost_ret (results_cell_row rfl _ _ _ 23 #[.int .i64 (bl - zh), .int .i64 (bh - zl)] (0, 0) _ rfl m3 rfl rfl rfl) rfl ?_
   have HR : corP2 t r (gR zs k) = ⟨bl - zh, bh - zl⟩ := by rw [HZK.out]; unfold corP2; rw [HBL.out, HBH.out]
   rw [HR]
   exact ⟨rfl, ex_set (p := ⟨pq3, 1, none⟩) (ex_set (p := ⟨pq3, 0, none⟩) (ex_set (p := ⟨pv, 1, none⟩) (ex_set (p := ⟨pv, 0, none⟩) B_V15 hpv2 _) hpv2 _) hp3 _) hp3 _⟩
 ·
  go_wp2_with fail
  have sv := ((Below.refl V.heap.size V)).size
  try simp at sv
  have N12 := ex_alloc (Below.refl V.heap.size V) (.cells #[.int .i64 0, .int .i64 0] 23)
  have bv : Blk (V.alloc (.cells #[.int .i64 0, .int .i64 0] 23)) (V.heap.size) 23 #[.int .i64 0, .int .i64 0] := Blk.new' _ _ _ (by first | rfl | (simp; done) | (simp; omega))
  obtain ⟨pv, hpv⟩ : ∃ p, V.heap.size = p := ⟨_, rfl⟩
  rw [hpv] at bv
  try rw [hpv]
  have yv : V.heap.size ≤ pv := by omega
  clear sv
  refine ⟨inEx (N12).drew, ?_⟩
  refine tq_fork rfl rfl ?_ ?_
  ·
   go_wp2_with fail
   refine (sm_bounds t Ab Ad cb cd r _ ht hr).mono ?_
   rintro e V16 ⟨rfl, hV16⟩
   replace bv := Blk.below (Blk.drew bv) hV16 bv.lt
   have N4 := ex_trans (N12).drew hV16
   go_wp2_with fail
   refine ⟨inEx N4, ?_⟩
   refine tq_loud rfl ?_
   go_wp2_with fail
   have tuv := bv.lt
   try simp at tuv
   have su := (N4).size
   try simp at su
   have N11 := ex_alloc N4 (.cells #[.int .i64 0, .int .i64 0] 23)
   have bu : Blk (V16.alloc (.cells #[.int .i64 0, .int .i64 0] 23)) (V16.heap.size) 23 #[.int .i64 0, .int .i64 0] := Blk.new' _ _ _ (by first | rfl | (simp; done) | (simp; omega))
   replace bv := bv.alloc (.cells #[.int .i64 0, .int .i64 0] 23)
   obtain ⟨pu, hpu⟩ : ∃ p, V16.heap.size = p := ⟨_, rfl⟩
   rw [hpu] at bu
   try rw [hpu]
   have nuv : pu ≠ pv := by omega
   have nvu : pv ≠ pu := by omega
   clear tuv
   have yu : V.heap.size ≤ pu := by omega
   clear su
   refine ⟨inEx N11, ?_⟩
   refine tq_loud rfl ?_
   have XA13 := N11
   generalize (V16.alloc (.cells #[.int .i64 0, .int .i64 0] 23)) = V17 at *
   have sc0 : V17.cell? ⟨pu, 0, none⟩ = some (.int .i64 0) := bu.cell 0
   have sc1 : V17.cell? ⟨pu, 1, none⟩ = some (.int .i64 0) := bu.cell 1
   have sf := bu.frozen0
   have sl := bu.lt
   go_wp2_with fail
   replace bu := bu.set_ 0 (.int .i64 (bndP t r).lo)
   replace bv := bv.far (p := ⟨pu, 0, none⟩) nvu (.int .i64 (bndP t r).lo)
   replace XA13 := ex_set (p := ⟨pu, 0, none⟩) XA13 yu (.int .i64 (bndP t r).lo)
   replace bu := bu.set_ 1 (.int .i64 (bndP t r).hi)
   replace bv := bv.far (p := ⟨pu, 1, none⟩) nvu (.int .i64 (bndP t r).hi)
   replace XA13 := ex_set (p := ⟨pu, 1, none⟩) XA13 yu (.int .i64 (bndP t r).hi)
   simp only [List.setIfInBounds_toArray, List.set_cons_zero, List.set_cons_succ] at bu
   clear sf sl sc0 sc1
   generalize ((V17.setCell ⟨pu, 0, none⟩ (.int .i64 (bndP t r).lo)).setCell ⟨pu, 1, none⟩ (.int .i64 (bndP t r).hi)) = V18 at *
   refine ⟨inEx XA13, ?_⟩
   refine tq_done (r := [_]) rfl ?_
   have XX := XA13
   have XS := XX.size
   replace q1 := q1.below XX q1.lt
   replace q2 := q2.below XX q2.lt
   replace q3 := q3.below XX q3.lt
   replace hz := hz.go XX
   have B_V19 := ex_trans hb1 XX
   clear b0 lb
   clear a0 a1 a2 a3 a4 a5 a6 a7 a8 a9 a10 a11 a14 la
   clear D0 XX XS XA13 N11 hV16 N4 N12 hpu hpv
   generalize V18 = V19 at *
   have u0 := bu.cell 0
   have u1 := bu.cell 1
   have lu := bu.lt
   have v0 := bv.cell 0
   have v1 := bv.cell 1
   have fv := bv.frozen0
   have lv := bv.lt
   simp at u0 u1 v0 v1
   have r0 := q3.cell 0
   have r1 := q3.cell 1
   have fr := q3.frozen0
   have lr := q3.lt
   simp at r0 r1
   have hpv2 : w.heap.size ≤ pv := by have := hb1.size; omega
   have npv : pq3 ≠ pv := by have := lq3; omega
   have npu : pq3 ≠ pu := by have := lq3; omega
   have m3 := (((q3.far (p := ⟨pv, 0, none⟩) npv (.int .i64 zl)).far (p := ⟨pv, 1, none⟩) npv (.int .i64 zh)).set_ 0 (.int .i64 ((bndP t r).lo - zh))).set_ 1 (.int .i64 ((bndP t r).hi - zl))
   simp only [List.setIfInBounds_toArray, List.set_cons_zero, List.set_cons_succ] at m3
   generalize hbl : (bndP t r).lo = bl at *
   generalize hbh : (bndP t r).hi = bh at *
   have HBL := Lib.hid hbl
   have HBH := Lib.hid hbh
   clear hbl hbh
   go_wp2
   refine bodyPost_ret (results_cell_row rfl _ _ _ 23 #[.int .i64 (bl - zh), .int .i64 (bh - zl)] (0, 0) _ rfl m3 rfl rfl rfl) rfl ?_
   have HR : corP2 t r (gR zs k) = ⟨bl - zh, bh - zl⟩ := by rw [HZK.out]; unfold corP2; rw [HBL.out, HBH.out]
   rw [HR]
   exact ⟨rfl, ex_set (p := ⟨pq3, 1, none⟩) (ex_set (p := ⟨pq3, 0, none⟩) (ex_set (p := ⟨pv, 1, none⟩) (ex_set (p := ⟨pv, 0, none⟩) B_V19 hpv2 _) hpv2 _) hp3 _) hp3 _⟩
  ·
   go_wp2_with fail
   have tuv := bv.lt
   try simp at tuv
   have su := (N12).size
   try simp at su
   have N11 := ex_alloc N12 (.cells #[.int .i64 0, .int .i64 0] 23)
   have bu : Blk ((V.alloc (.cells #[.int .i64 0, .int .i64 0] 23)).alloc (.cells #[.int .i64 0, .int .i64 0] 23)) (pv + 1) 23 #[.int .i64 0, .int .i64 0] := Blk.new' _ _ _ (by first | rfl | (simp; done) | (simp; omega))
   replace bv := bv.alloc (.cells #[.int .i64 0, .int .i64 0] 23)
   obtain ⟨pu, hpu⟩ : ∃ p, pv + 1 = p := ⟨_, rfl⟩
   rw [hpu] at bu
   try rw [hpu]
   have nuv : pu ≠ pv := by omega
   have nvu : pv ≠ pu := by omega
   clear tuv
   have yu : V.heap.size ≤ pu := by omega
   clear su
   refine ⟨inEx (N11).drew, ?_⟩
   refine tq_loud rfl ?_
   go_wp2_with fail
   refine (sm_bounds t Ab Ad cb cd r _ ht hr).mono ?_
   rintro e V20 ⟨rfl, hV20⟩
   replace bv := Blk.below (Blk.drew bv) hV20 bv.lt
   replace bu := Blk.below (Blk.drew bu) hV20 bu.lt
   have N4 := ex_trans (N11).drew hV20
   go_wp2_with fail
   refine ⟨inEx N4, ?_⟩
   refine tq_loud rfl ?_
   have XA13 := N4
   generalize V20 = V21 at *
   have sc0 : V21.cell? ⟨pu, 0, none⟩ = some (.int .i64 0) := bu.cell 0
   have sc1 : V21.cell? ⟨pu, 1, none⟩ = some (.int .i64 0) := bu.cell 1
   have sf := bu.frozen0
   have sl := bu.lt
   go_wp2_with fail
   replace bu := bu.set_ 0 (.int .i64 (bndP t r).lo)
   replace bv := bv.far (p := ⟨pu, 0, none⟩) nvu (.int .i64 (bndP t r).lo)
   replace XA13 := ex_set (p := ⟨pu, 0, none⟩) XA13 yu (.int .i64 (bndP t r).lo)
   replace bu := bu.set_ 1 (.int .i64 (bndP t r).hi)
   replace bv := bv.far (p := ⟨pu, 1, none⟩) nvu (.int .i64 (bndP t r).hi)
   replace XA13 := ex_set (p := ⟨pu, 1, none⟩) XA13 yu (.int .i64 (bndP t r).hi)
   simp only [List.setIfInBounds_toArray, List.set_cons_zero, List.set_cons_succ] at bu
   clear sf sl sc0 sc1
   generalize ((V21.setCell ⟨pu, 0, none⟩ (.int .i64 (bndP t r).lo)).setCell ⟨pu, 1, none⟩ (.int .i64 (bndP t r).hi)) = V22 at *
   refine ⟨inEx XA13, ?_⟩
   refine tq_done (r := [_]) rfl ?_
   have XX := XA13
   have XS := XX.size
   replace q1 := q1.below XX q1.lt
   replace q2 := q2.below XX q2.lt
   replace q3 := q3.below XX q3.lt
   replace hz := hz.go XX
   have B_V23 := ex_trans hb1 XX
   clear b0 lb
   clear a0 a1 a2 a3 a4 a5 a6 a7 a8 a9 a10 a11 a14 la
   clear D0 XX XS XA13 hV20 N4 N11 N12 hpu hpv
   generalize V22 = V23 at *
   have u0 := bu.cell 0
   have u1 := bu.cell 1
   have lu := bu.lt
   have v0 := bv.cell 0
   have v1 := bv.cell 1
   have fv := bv.frozen0
   have lv := bv.lt
   simp at u0 u1 v0 v1
   have r0 := q3.cell 0
   have r1 := q3.cell 1
   have fr := q3.frozen0
   have lr := q3.lt
   simp at r0 r1
   have hpv2 : w.heap.size ≤ pv := by have := hb1.size; omega
   have npv : pq3 ≠ pv := by have := lq3; omega
   have npu : pq3 ≠ pu := by have := lq3; omega
   have m3 := (((q3.far (p := ⟨pv, 0, none⟩) npv (.int .i64 zl)).far (p := ⟨pv, 1, none⟩) npv (.int .i64 zh)).set_ 0 (.int .i64 ((bndP t r).lo - zh))).set_ 1 (.int .i64 ((bndP t r).hi - zl))
   simp only [List.setIfInBounds_toArray, List.set_cons_zero, List.set_cons_succ] at m3
   generalize hbl : (bndP t r).lo = bl at *
   generalize hbh : (bndP t r).hi = bh at *
   have HBL := Lib.hid hbl
   have HBH := Lib.hid hbh
   clear hbl hbh
   go_wp2
   refine bodyPost_ret (results_cell_row rfl _ _ _ 23 #[.int .i64 (bl - zh), .int .i64 (bh - zl)] (0, 0) _ rfl m3 rfl rfl rfl) rfl ?_
   have HR : corP2 t r (gR zs k) = ⟨bl - zh, bh - zl⟩ := by rw [HZK.out]; unfold corP2; rw [HBL.out, HBH.out]
   rw [HR]
   exact ⟨rfl, ex_set (p := ⟨pq3, 1, none⟩) (ex_set (p := ⟨pq3, 0, none⟩) (ex_set (p := ⟨pv, 1, none⟩) (ex_set (p := ⟨pv, 0, none⟩) B_V23 hpv2 _) hpv2 _) hp3 _) hp3 _⟩

end Go.Proofs.Ytkaogjhnogkcdaa
end

section
namespace Go.Proofs.Ytkaogjhnogkcdaa
open Go.RowKit
attribute [local go_sem] Ex.cell? Ex.frozen?

theorem SlAt.otherRow {W : World} {sz n g : Nat} {A : Option Addr} {f : Nat → Nat → Value} (h : SlAt W W.heap.size sz A n f) (hy : ∀ b off, A = some ⟨b, off, none⟩ → n ≠ 0 → b ≠ g) (new : Array Value) : SlAt (W.setRow g new) (W.setRow g new).heap.size sz A n f := fun hn => by
 obtain ⟨b, off, e, hb, hc⟩ := h hn
 have hg := hy b off e (by omega)
 exact ⟨b, off, e, by simpa using hb, fun k j hk hj => (cell_setRow_other W g new _ hg).trans (hc k j hk hj)⟩
theorem ask_1 {t : Tb} {h : List Rg} {l : List Ic} {r : Rd} (hu : useE t h l ≠ 0) : askE t h l r = useE t h l := if_pos hu
theorem ask_2 {t : Tb} {h : List Rg} {l : List Ic} {r : Rd} (hu : useE t h l = 0) (hr : rdOk h.length r = false) : askE t h l r = 2 := by unfold askE; rw [if_neg (by simp [hu]), if_pos hr]
theorem ask_0 {t : Tb} {h : List Rg} {l : List Ic} {r : Rd} (ha : askE t h l r = 0) : useE t h l = 0 ∧ rdOk h.length r = true := by
 unfold askE at ha
 split at ha
 ·
  rename_i h1; exact absurd ha h1
 ·
  rename_i h1
  split at ha
  ·
   cases ha
  ·
   rename_i h2; exact ⟨by simpa using h1, by simpa using h2⟩
structure UseC (C : Array Value) : Prop where
 size : C.size = 15
 one : C.all (·.oneCell') = true
set_option maxRecDepth 100000 in
set_option maxHeartbeats 6400000 in
theorem sm_ask_bad (t : Tb) (Ab Ad : Option Addr) (cb cd : Nat) (Ah Ai : Option Addr) (ch ci : Nat) (h : List Rg) (l : List Ic) (r : Rd) (w : World) (hg : GlIn w w.heap.size t.g Ab Ad) (hh : SlAt w w.heap.size 2 Ah h.length (fR h)) (hi : SlAt w w.heap.size 3 Ai l.length (fC l)) (hhl : h.length ≤ 1000000) (ha : askE t h l r ≠ 0) :
  Calls Try.prog 23 #[.agg #[.int .i64 t.g.base, .slice Ab t.g.bands.length cb, .slice Ad t.g.depths.length cd, .int .i64 t.g.blo, .int .i64 t.g.bhi, .int .i64 t.k.lo, .int .i64 t.k.hi, .int .i64 t.lag.lo, .int .i64 t.lag.hi, .int .i64 t.sq.lo, .int .i64 t.sq.hi, .int .i64 t.term], .slice Ah h.length ch, .slice Ai l.length ci, .agg #[.int .i64 r.day, .int .i64 r.shown, .int .i64 r.err, .int .i64 r.bare, .int .i64 r.air.lo, .int .i64 r.air.hi, .int .i64 r.rate.lo, .int .i64 r.rate.hi, .int .i64 r.deep, .bool r.broken]] w fun e w' => (∃ C, UseC C ∧ e = .returned (.tuple #[.agg C, .int .i64 (askE t h l r)])) ∧ Below w.heap.size w w' := by
 by_cases hu : useE t h l = 0
 ·
  cases hrd : rdOk h.length r
  ·
   have HA := Lib.hid (ask_2 hu hrd)
   have HU := Lib.hid hu
   have HRD := Lib.hid hrd
   clear hu hrd ha
   go_enter Try.func23, Try.ntmps23
   go_upto_region 1 with fail
   show Code.wp _ _ _ _ _
   refine box3 (K := fun V => Code.wp _ _ _ _ V) ?_
   intro V hb1 q1 q2 q3
   replace hg := hg.go hb1
   replace hh := (hh.below hb1).up hb1.size
   replace hi := (hi.below hb1).up hb1.size
   obtain ⟨pq1, hpq1⟩ : ∃ p, w.heap.size = p := ⟨_, rfl⟩
   obtain ⟨pq2, hpq2⟩ : ∃ p, w.heap.size + 1 = p := ⟨_, rfl⟩
   obtain ⟨pq3, hpq3⟩ : ∃ p, w.heap.size + 1 + 1 = p := ⟨_, rfl⟩
   rw [hpq3] at q3 ⊢
   rw [hpq2] at q2 ⊢
   rw [hpq1] at q1 ⊢
   have hp1 : w.heap.size ≤ pq1 := by omega
   have hp2 : w.heap.size ≤ pq2 := by omega
   have hp3 : w.heap.size ≤ pq3 := by omega
   clear hpq1 hpq2 hpq3
   go_wp2_with (refine pause_at 13 rfl ?_)
   refine Paused.mk ?_
   refine wpList_load_row rfl 32 _ rfl _ rfl 32 _ (0, 0) _ (q1) Try.underlying32 rfl (by kernel_rfl) ?_
   have q3p : pq3 + 1 ≤ V.heap.size := q3.lt
   go_wp2_with fail
   refine (sm_use_ok t _ _ _ _ _ _ _ _ h l _ hg hh hi HU.out).mono ?_
   rintro e V1 ⟨⟨Az, nz, zs, rfl, hz, hyo, hsz⟩, hV1⟩
   replace q1 := q1.below hV1 q1.lt
   replace q2 := q2.below hV1 q2.lt
   replace q3 := q3.below hV1 q3.lt
   replace hg := hg.go hV1
   replace hh := (hh.below hV1).up hV1.size
   replace hi := (hi.below hV1).up hV1.size
   have B_V1 := ex_trans hb1 hV1
   clear hz hsz hyo
   skip
   have NA := ex_alloc (Below.refl V1.heap.size V1) (.cells #[.int .i64 0, .slice none 0 0, .slice none 0 0, .int .i64 0, .int .i64 0, .int .i64 0, .int .i64 0, .int .i64 0, .int .i64 0, .int .i64 0, .int .i64 0, .int .i64 0, .slice none 0 0, .slice none 0 0, .slice none 0 0] 56)
   have q4 : Blk (V1.alloc (.cells #[.int .i64 0, .slice none 0 0, .slice none 0 0, .int .i64 0, .int .i64 0, .int .i64 0, .int .i64 0, .int .i64 0, .int .i64 0, .int .i64 0, .int .i64 0, .int .i64 0, .slice none 0 0, .slice none 0 0, .slice none 0 0] 56)) V1.heap.size 56 #[.int .i64 0, .slice none 0 0, .slice none 0 0, .int .i64 0, .int .i64 0, .int .i64 0, .int .i64 0, .int .i64 0, .int .i64 0, .int .i64 0, .int .i64 0, .int .i64 0, .slice none 0 0, .slice none 0 0, .slice none 0 0] := Blk.new _ _ _
   obtain ⟨p4, hp4'⟩ : ∃ p, V1.heap.size = p := ⟨_, rfl⟩
   rw [hp4'] at q4
   have n4q1 : pq1 ≠ p4 := by have := q1.lt; omega
   have n4q2 : pq2 ≠ p4 := by have := q2.lt; omega
   have n4q3 : pq3 ≠ p4 := by have := q3.lt; omega
   have hp4 : w.heap.size ≤ p4 := by have := B_V1.size; omega
   go_wp2_with (refine pause_store 56 rfl ?_)
   refine Paused.mk ?_
   refine wpList_store_row rfl 56 _ _ rfl _ #[.int .i64 t.g.base, .slice Ab t.g.bands.length cb, .slice Ad t.g.depths.length cd, .int .i64 t.g.blo, .int .i64 t.g.bhi, .int .i64 t.k.lo, .int .i64 t.k.hi, .int .i64 t.lag.lo, .int .i64 t.lag.hi, .int .i64 t.sq.lo, .int .i64 t.sq.hi, .int .i64 t.term, .slice Ah h.length ch, .slice Ai l.length ci, .slice Az nz nz] (by kernel_rfl) (by kernel_rfl) 56 _ q4 (by kernel_rfl) (by kernel_rfl) (by kernel_rfl) ?_
   replace q4 := q4.setRow #[.int .i64 t.g.base, .slice Ab t.g.bands.length cb, .slice Ad t.g.depths.length cd, .int .i64 t.g.blo, .int .i64 t.g.bhi, .int .i64 t.k.lo, .int .i64 t.k.hi, .int .i64 t.lag.lo, .int .i64 t.lag.hi, .int .i64 t.sq.lo, .int .i64 t.sq.hi, .int .i64 t.term, .slice Ah h.length ch, .slice Ai l.length ci, .slice Az nz nz]
   replace q1 := (q1.below NA q1.lt).offRow n4q1 #[.int .i64 t.g.base, .slice Ab t.g.bands.length cb, .slice Ad t.g.depths.length cd, .int .i64 t.g.blo, .int .i64 t.g.bhi, .int .i64 t.k.lo, .int .i64 t.k.hi, .int .i64 t.lag.lo, .int .i64 t.lag.hi, .int .i64 t.sq.lo, .int .i64 t.sq.hi, .int .i64 t.term, .slice Ah h.length ch, .slice Ai l.length ci, .slice Az nz nz]
   replace q2 := (q2.below NA q2.lt).offRow n4q2 #[.int .i64 t.g.base, .slice Ab t.g.bands.length cb, .slice Ad t.g.depths.length cd, .int .i64 t.g.blo, .int .i64 t.g.bhi, .int .i64 t.k.lo, .int .i64 t.k.hi, .int .i64 t.lag.lo, .int .i64 t.lag.hi, .int .i64 t.sq.lo, .int .i64 t.sq.hi, .int .i64 t.term, .slice Ah h.length ch, .slice Ai l.length ci, .slice Az nz nz]
   replace q3 := (q3.below NA q3.lt).offRow n4q3 #[.int .i64 t.g.base, .slice Ab t.g.bands.length cb, .slice Ad t.g.depths.length cd, .int .i64 t.g.blo, .int .i64 t.g.bhi, .int .i64 t.k.lo, .int .i64 t.k.hi, .int .i64 t.lag.lo, .int .i64 t.lag.hi, .int .i64 t.sq.lo, .int .i64 t.sq.hi, .int .i64 t.term, .slice Ah h.length ch, .slice Ai l.length ci, .slice Az nz nz]
   have B_V2 := ex_row (ex_trans B_V1 NA) hp4 #[.int .i64 t.g.base, .slice Ab t.g.bands.length cb, .slice Ad t.g.depths.length cd, .int .i64 t.g.blo, .int .i64 t.g.bhi, .int .i64 t.k.lo, .int .i64 t.k.hi, .int .i64 t.lag.lo, .int .i64 t.lag.hi, .int .i64 t.sq.lo, .int .i64 t.sq.hi, .int .i64 t.term, .slice Ah h.length ch, .slice Ai l.length ci, .slice Az nz nz]
   clear hp4'
   clear hg hh hi NA
   generalize (V1.alloc (.cells #[.int .i64 0, .slice none 0 0, .slice none 0 0, .int .i64 0, .int .i64 0, .int .i64 0, .int .i64 0, .int .i64 0, .int .i64 0, .int .i64 0, .int .i64 0, .int .i64 0, .slice none 0 0, .slice none 0 0, .slice none 0 0] 56)).setRow p4 #[.int .i64 t.g.base, .slice Ab t.g.bands.length cb, .slice Ad t.g.depths.length cd, .int .i64 t.g.blo, .int .i64 t.g.bhi, .int .i64 t.k.lo, .int .i64 t.k.hi, .int .i64 t.lag.lo, .int .i64 t.lag.hi, .int .i64 t.sq.lo, .int .i64 t.sq.hi, .int .i64 t.term, .slice Ah h.length ch, .slice Ai l.length ci, .slice Az nz nz] = V2 at *
   go_wp2_with (refine pause_at 24 rfl ?_)
   refine Paused.mk ?_
   refine wpList_load_rowG (by kernel_rfl) 37 _ rfl _ (by kernel_rfl) 37 _ (0, 0) _ (q2) Try.underlying37 rfl (by kernel_rfl) ?_
   go_wp2_with fail
   refine (reading_any _ r _ (by omega)).mono ?_
   rintro e V3 ⟨rfl, hV3⟩
   replace q1 := q1.below hV3 q1.lt
   replace q2 := q2.below hV3 q2.lt
   replace q3 := q3.below hV3 q3.lt
   replace q4 := q4.below hV3 q4.lt
   have B_V3 := ex_trans B_V2 hV3
   rw [HRD.out]
   go_wp2_with (refine pause_at 28 rfl ?_)
   refine Paused.mk ?_
   refine wpList_load_row rfl 56 _ rfl _ rfl 56 _ (0, 0) _ (q4) Try.underlying56 rfl (by kernel_rfl) ?_
   go_wp2_with (refine pause_store 56 rfl ?_)
   refine Paused.mk ?_
   refine wpList_store_row rfl 56 _ _ rfl _ #[.int .i64 t.g.base, .slice Ab t.g.bands.length cb, .slice Ad t.g.depths.length cd, .int .i64 t.g.blo, .int .i64 t.g.bhi, .int .i64 t.k.lo, .int .i64 t.k.hi, .int .i64 t.lag.lo, .int .i64 t.lag.hi, .int .i64 t.sq.lo, .int .i64 t.sq.hi, .int .i64 t.term, .slice Ah h.length ch, .slice Ai l.length ci, .slice Az nz nz] (by kernel_rfl) (by kernel_rfl) 56 _ q3 (by kernel_rfl) (by kernel_rfl) (by kernel_rfl) ?_
   go_wp2
   refine bodyPost_ret (results_ct_row rfl _ _ _ 56 #[.int .i64 t.g.base, .slice Ab t.g.bands.length cb, .slice Ad t.g.depths.length cd, .int .i64 t.g.blo, .int .i64 t.g.bhi, .int .i64 t.k.lo, .int .i64 t.k.hi, .int .i64 t.lag.lo, .int .i64 t.lag.hi, .int .i64 t.sq.lo, .int .i64 t.sq.hi, .int .i64 t.term, .slice Ah h.length ch, .slice Ai l.length ci, .slice Az nz nz] (0, 0) _ rfl (q3.setRow _) rfl rfl rfl) rfl ?_
   exact ⟨⟨_, ⟨rfl, by kernel_rfl⟩, by rw [HA.out]; rfl⟩, ex_row B_V3 hp3 _⟩
  ·
   exact absurd (by unfold askE; rw [if_neg (by simp [hu]), if_neg (by simp [hrd])]) ha
 ·
  have HA := Lib.hid (ask_1 (r := r) hu)
  have HU := Lib.hid hu
  have e1 : (useE t h l == 0) = false := by simpa using hu
  clear hu ha
  go_enter Try.func23, Try.ntmps23
  go_upto_region 1 with fail
  show Code.wp _ _ _ _ _
  refine box3 (K := fun V => Code.wp _ _ _ _ V) ?_
  intro V hb1 q1 q2 q3
  replace hg := hg.go hb1
  replace hh := (hh.below hb1).up hb1.size
  replace hi := (hi.below hb1).up hb1.size
  obtain ⟨pq1, hpq1⟩ : ∃ p, w.heap.size = p := ⟨_, rfl⟩
  obtain ⟨pq2, hpq2⟩ : ∃ p, w.heap.size + 1 = p := ⟨_, rfl⟩
  obtain ⟨pq3, hpq3⟩ : ∃ p, w.heap.size + 1 + 1 = p := ⟨_, rfl⟩
  rw [hpq3] at q3 ⊢
  rw [hpq2] at q2 ⊢
  rw [hpq1] at q1 ⊢
  have hp1 : w.heap.size ≤ pq1 := by omega
  have hp2 : w.heap.size ≤ pq2 := by omega
  have hp3 : w.heap.size ≤ pq3 := by omega
  clear hpq1 hpq2 hpq3
  go_wp2_with (refine pause_at 13 rfl ?_)
  refine Paused.mk ?_
  refine wpList_load_row rfl 32 _ rfl _ rfl 32 _ (0, 0) _ (q1) Try.underlying32 rfl (by kernel_rfl) ?_
  go_wp2_with fail
  refine (sm_use_bad t _ _ _ _ _ _ _ _ h l _ hg hh hi HU.out).mono ?_
  rintro e V4 ⟨rfl, hV4⟩
  replace q1 := q1.below hV4 q1.lt
  replace q2 := q2.below hV4 q2.lt
  replace q3 := q3.below hV4 q3.lt
  replace hg := hg.go hV4
  replace hh := (hh.below hV4).up hV4.size
  replace hi := (hi.below hV4).up hV4.size
  have B_V4 := ex_trans hb1 hV4
  skip
  have NA := ex_alloc (Below.refl V4.heap.size V4) (.cells #[.int .i64 0, .slice none 0 0, .slice none 0 0, .int .i64 0, .int .i64 0, .int .i64 0, .int .i64 0, .int .i64 0, .int .i64 0, .int .i64 0, .int .i64 0, .int .i64 0, .slice none 0 0, .slice none 0 0, .slice none 0 0] 56)
  have q4 : Blk (V4.alloc (.cells #[.int .i64 0, .slice none 0 0, .slice none 0 0, .int .i64 0, .int .i64 0, .int .i64 0, .int .i64 0, .int .i64 0, .int .i64 0, .int .i64 0, .int .i64 0, .int .i64 0, .slice none 0 0, .slice none 0 0, .slice none 0 0] 56)) V4.heap.size 56 #[.int .i64 0, .slice none 0 0, .slice none 0 0, .int .i64 0, .int .i64 0, .int .i64 0, .int .i64 0, .int .i64 0, .int .i64 0, .int .i64 0, .int .i64 0, .int .i64 0, .slice none 0 0, .slice none 0 0, .slice none 0 0] := Blk.new _ _ _
  obtain ⟨p4, hp4'⟩ : ∃ p, V4.heap.size = p := ⟨_, rfl⟩
  rw [hp4'] at q4
  have n4q1 : pq1 ≠ p4 := by have := q1.lt; omega
  have n4q2 : pq2 ≠ p4 := by have := q2.lt; omega
  have n4q3 : pq3 ≠ p4 := by have := q3.lt; omega
  have hp4 : w.heap.size ≤ p4 := by have := B_V4.size; omega
  go_wp2_with (refine pause_store 56 rfl ?_)
  refine Paused.mk ?_
  refine wpList_store_row rfl 56 _ _ rfl _ #[.int .i64 0, .slice none 0 0, .slice none 0 0, .int .i64 0, .int .i64 0, .int .i64 0, .int .i64 0, .int .i64 0, .int .i64 0, .int .i64 0, .int .i64 0, .int .i64 0, .slice none 0 0, .slice none 0 0, .slice none 0 0] (by kernel_rfl) (by kernel_rfl) 56 _ q4 (by kernel_rfl) (by kernel_rfl) (by kernel_rfl) ?_
  replace q4 := q4.setRow #[.int .i64 0, .slice none 0 0, .slice none 0 0, .int .i64 0, .int .i64 0, .int .i64 0, .int .i64 0, .int .i64 0, .int .i64 0, .int .i64 0, .int .i64 0, .int .i64 0, .slice none 0 0, .slice none 0 0, .slice none 0 0]
  replace q1 := (q1.below NA q1.lt).offRow n4q1 #[.int .i64 0, .slice none 0 0, .slice none 0 0, .int .i64 0, .int .i64 0, .int .i64 0, .int .i64 0, .int .i64 0, .int .i64 0, .int .i64 0, .int .i64 0, .int .i64 0, .slice none 0 0, .slice none 0 0, .slice none 0 0]
  replace q2 := (q2.below NA q2.lt).offRow n4q2 #[.int .i64 0, .slice none 0 0, .slice none 0 0, .int .i64 0, .int .i64 0, .int .i64 0, .int .i64 0, .int .i64 0, .int .i64 0, .int .i64 0, .int .i64 0, .int .i64 0, .slice none 0 0, .slice none 0 0, .slice none 0 0]
  replace q3 := (q3.below NA q3.lt).offRow n4q3 #[.int .i64 0, .slice none 0 0, .slice none 0 0, .int .i64 0, .int .i64 0, .int .i64 0, .int .i64 0, .int .i64 0, .int .i64 0, .int .i64 0, .int .i64 0, .int .i64 0, .slice none 0 0, .slice none 0 0, .slice none 0 0]
  have B_V5 := ex_row (ex_trans B_V4 NA) hp4 #[.int .i64 0, .slice none 0 0, .slice none 0 0, .int .i64 0, .int .i64 0, .int .i64 0, .int .i64 0, .int .i64 0, .int .i64 0, .int .i64 0, .int .i64 0, .int .i64 0, .slice none 0 0, .slice none 0 0, .slice none 0 0]
  clear hp4'
  clear hg hh hi NA
  generalize (V4.alloc (.cells #[.int .i64 0, .slice none 0 0, .slice none 0 0, .int .i64 0, .int .i64 0, .int .i64 0, .int .i64 0, .int .i64 0, .int .i64 0, .int .i64 0, .int .i64 0, .int .i64 0, .slice none 0 0, .slice none 0 0, .slice none 0 0] 56)).setRow p4 #[.int .i64 0, .slice none 0 0, .slice none 0 0, .int .i64 0, .int .i64 0, .int .i64 0, .int .i64 0, .int .i64 0, .int .i64 0, .int .i64 0, .int .i64 0, .int .i64 0, .slice none 0 0, .slice none 0 0, .slice none 0 0] = V5 at *
  go_wp2_with (refine pause_at 28 rfl ?_)
  refine Paused.mk ?_
  refine wpList_load_row rfl 56 _ rfl _ rfl 56 _ (0, 0) _ (q4) Try.underlying56 rfl (by kernel_rfl) ?_
  go_wp2_with (refine pause_store 56 rfl ?_)
  refine Paused.mk ?_
  refine wpList_store_row rfl 56 _ _ rfl _ #[.int .i64 0, .slice none 0 0, .slice none 0 0, .int .i64 0, .int .i64 0, .int .i64 0, .int .i64 0, .int .i64 0, .int .i64 0, .int .i64 0, .int .i64 0, .int .i64 0, .slice none 0 0, .slice none 0 0, .slice none 0 0] (by kernel_rfl) (by kernel_rfl) 56 _ q3 (by kernel_rfl) (by kernel_rfl) (by kernel_rfl) ?_
  go_wp2
  refine bodyPost_ret (results_ct_row rfl _ _ _ 56 #[.int .i64 0, .slice none 0 0, .slice none 0 0, .int .i64 0, .int .i64 0, .int .i64 0, .int .i64 0, .int .i64 0, .int .i64 0, .int .i64 0, .int .i64 0, .int .i64 0, .slice none 0 0, .slice none 0 0, .slice none 0 0] (0, 0) _ rfl (q3.setRow _) rfl rfl rfl) rfl ?_
  exact ⟨⟨_, ⟨rfl, by kernel_rfl⟩, by rw [HA.out]; rfl⟩, ex_row B_V5 hp3 _⟩
set_option maxRecDepth 100000 in
set_option maxHeartbeats 6400000 in
theorem sm_ask_ok (t : Tb) (Ab Ad : Option Addr) (cb cd : Nat) (Ah Ai : Option Addr) (ch ci : Nat) (h : List Rg) (l : List Ic) (r : Rd) (w : World) (hg : GlIn w w.heap.size t.g Ab Ad) (hh : SlAt w w.heap.size 2 Ah h.length (fR h)) (hi : SlAt w w.heap.size 3 Ai l.length (fC l)) (hhl : h.length ≤ 1000000) (ha : askE t h l r = 0) :
  Calls Try.prog 23 #[.agg #[.int .i64 t.g.base, .slice Ab t.g.bands.length cb, .slice Ad t.g.depths.length cd, .int .i64 t.g.blo, .int .i64 t.g.bhi, .int .i64 t.k.lo, .int .i64 t.k.hi, .int .i64 t.lag.lo, .int .i64 t.lag.hi, .int .i64 t.sq.lo, .int .i64 t.sq.hi, .int .i64 t.term], .slice Ah h.length ch, .slice Ai l.length ci, .agg #[.int .i64 r.day, .int .i64 r.shown, .int .i64 r.err, .int .i64 r.bare, .int .i64 r.air.lo, .int .i64 r.air.hi, .int .i64 r.rate.lo, .int .i64 r.rate.hi, .int .i64 r.deep, .bool r.broken]] w fun e w' => (∃ Az nz zs, e = .returned (.tuple #[.agg #[.int .i64 t.g.base, .slice Ab t.g.bands.length cb, .slice Ad t.g.depths.length cd, .int .i64 t.g.blo, .int .i64 t.g.bhi, .int .i64 t.k.lo, .int .i64 t.k.hi, .int .i64 t.lag.lo, .int .i64 t.lag.hi, .int .i64 t.sq.lo, .int .i64 t.sq.hi, .int .i64 t.term, .slice Ah h.length ch, .slice Ai l.length ci, .slice Az nz nz], .int .i64 0]) ∧ Hid (UseV t h l nz zs) ∧ Hid (YoungAt Az w.heap.size) ∧ SlAt w' w'.heap.size 2 Az nz (fR zs)) ∧ Below w.heap.size w w' := by
 have HU := Lib.hid (ask_0 ha).1
 have HRD := Lib.hid (ask_0 ha).2
 clear ha
 go_enter Try.func23, Try.ntmps23
 go_upto_region 1 with fail
 show Code.wp _ _ _ _ _
 refine box3 (K := fun V => Code.wp _ _ _ _ V) ?_
 intro V hb1 q1 q2 q3
 replace hg := hg.go hb1
 replace hh := (hh.below hb1).up hb1.size
 replace hi := (hi.below hb1).up hb1.size
 obtain ⟨pq1, hpq1⟩ : ∃ p, w.heap.size = p := ⟨_, rfl⟩
 obtain ⟨pq2, hpq2⟩ : ∃ p, w.heap.size + 1 = p := ⟨_, rfl⟩
 obtain ⟨pq3, hpq3⟩ : ∃ p, w.heap.size + 1 + 1 = p := ⟨_, rfl⟩
 rw [hpq3] at q3 ⊢
 rw [hpq2] at q2 ⊢
 rw [hpq1] at q1 ⊢
 have hp1 : w.heap.size ≤ pq1 := by omega
 have hp2 : w.heap.size ≤ pq2 := by omega
 have hp3 : w.heap.size ≤ pq3 := by omega
 clear hpq1 hpq2 hpq3
 go_wp2_with (refine pause_at 13 rfl ?_)
 refine Paused.mk ?_
 refine wpList_load_row rfl 32 _ rfl _ rfl 32 _ (0, 0) _ (q1) Try.underlying32 rfl (by kernel_rfl) ?_
 have q3p : pq3 + 1 ≤ V.heap.size := q3.lt
 go_wp2_with fail
 refine (sm_use_ok t _ _ _ _ _ _ _ _ h l _ hg hh hi HU.out).mono ?_
 rintro e V1 ⟨⟨Az, nz, zs, rfl, hz, hyo, hsz⟩, hV1⟩
 replace q1 := q1.below hV1 q1.lt
 replace q2 := q2.below hV1 q2.lt
 replace q3 := q3.below hV1 q3.lt
 replace hg := hg.go hV1
 replace hh := (hh.below hV1).up hV1.size
 replace hi := (hi.below hV1).up hV1.size
 have B_V1 := ex_trans hb1 hV1
 have hyV := hb1.size
 have hA4 : ∀ b off, Az = some ⟨b, off, none⟩ → nz ≠ 0 → b < V1.heap.size := fun b off e hn => by
  obtain ⟨b2, o2, e2, hb2, _⟩ := hsz (by omega)
  rw [e] at e2; injection e2 with e2; injection e2 with e2; omega
 have NA := ex_alloc (Below.refl V1.heap.size V1) (.cells #[.int .i64 0, .slice none 0 0, .slice none 0 0, .int .i64 0, .int .i64 0, .int .i64 0, .int .i64 0, .int .i64 0, .int .i64 0, .int .i64 0, .int .i64 0, .int .i64 0, .slice none 0 0, .slice none 0 0, .slice none 0 0] 56)
 have q4 : Blk (V1.alloc (.cells #[.int .i64 0, .slice none 0 0, .slice none 0 0, .int .i64 0, .int .i64 0, .int .i64 0, .int .i64 0, .int .i64 0, .int .i64 0, .int .i64 0, .int .i64 0, .int .i64 0, .slice none 0 0, .slice none 0 0, .slice none 0 0] 56)) V1.heap.size 56 #[.int .i64 0, .slice none 0 0, .slice none 0 0, .int .i64 0, .int .i64 0, .int .i64 0, .int .i64 0, .int .i64 0, .int .i64 0, .int .i64 0, .int .i64 0, .int .i64 0, .slice none 0 0, .slice none 0 0, .slice none 0 0] := Blk.new _ _ _
 obtain ⟨p4, hp4'⟩ : ∃ p, V1.heap.size = p := ⟨_, rfl⟩
 rw [hp4'] at q4
 have n4q1 : pq1 ≠ p4 := by have := q1.lt; omega
 have n4q2 : pq2 ≠ p4 := by have := q2.lt; omega
 have n4q3 : pq3 ≠ p4 := by have := q3.lt; omega
 have hp4 : w.heap.size ≤ p4 := by have := B_V1.size; omega
 have hszA := (hsz.go NA).otherRow (g := p4) (fun b off e hn => by have := hA4 b off e hn; omega) #[.int .i64 t.g.base, .slice Ab t.g.bands.length cb, .slice Ad t.g.depths.length cd, .int .i64 t.g.blo, .int .i64 t.g.bhi, .int .i64 t.k.lo, .int .i64 t.k.hi, .int .i64 t.lag.lo, .int .i64 t.lag.hi, .int .i64 t.sq.lo, .int .i64 t.sq.hi, .int .i64 t.term, .slice Ah h.length ch, .slice Ai l.length ci, .slice Az nz nz]
 go_wp2_with (refine pause_store 56 rfl ?_)
 refine Paused.mk ?_
 refine wpList_store_row rfl 56 _ _ rfl _ #[.int .i64 t.g.base, .slice Ab t.g.bands.length cb, .slice Ad t.g.depths.length cd, .int .i64 t.g.blo, .int .i64 t.g.bhi, .int .i64 t.k.lo, .int .i64 t.k.hi, .int .i64 t.lag.lo, .int .i64 t.lag.hi, .int .i64 t.sq.lo, .int .i64 t.sq.hi, .int .i64 t.term, .slice Ah h.length ch, .slice Ai l.length ci, .slice Az nz nz] (by kernel_rfl) (by kernel_rfl) 56 _ q4 (by kernel_rfl) (by kernel_rfl) (by kernel_rfl) ?_
 replace q4 := q4.setRow #[.int .i64 t.g.base, .slice Ab t.g.bands.length cb, .slice Ad t.g.depths.length cd, .int .i64 t.g.blo, .int .i64 t.g.bhi, .int .i64 t.k.lo, .int .i64 t.k.hi, .int .i64 t.lag.lo, .int .i64 t.lag.hi, .int .i64 t.sq.lo, .int .i64 t.sq.hi, .int .i64 t.term, .slice Ah h.length ch, .slice Ai l.length ci, .slice Az nz nz]
 replace q1 := (q1.below NA q1.lt).offRow n4q1 #[.int .i64 t.g.base, .slice Ab t.g.bands.length cb, .slice Ad t.g.depths.length cd, .int .i64 t.g.blo, .int .i64 t.g.bhi, .int .i64 t.k.lo, .int .i64 t.k.hi, .int .i64 t.lag.lo, .int .i64 t.lag.hi, .int .i64 t.sq.lo, .int .i64 t.sq.hi, .int .i64 t.term, .slice Ah h.length ch, .slice Ai l.length ci, .slice Az nz nz]
 replace q2 := (q2.below NA q2.lt).offRow n4q2 #[.int .i64 t.g.base, .slice Ab t.g.bands.length cb, .slice Ad t.g.depths.length cd, .int .i64 t.g.blo, .int .i64 t.g.bhi, .int .i64 t.k.lo, .int .i64 t.k.hi, .int .i64 t.lag.lo, .int .i64 t.lag.hi, .int .i64 t.sq.lo, .int .i64 t.sq.hi, .int .i64 t.term, .slice Ah h.length ch, .slice Ai l.length ci, .slice Az nz nz]
 replace q3 := (q3.below NA q3.lt).offRow n4q3 #[.int .i64 t.g.base, .slice Ab t.g.bands.length cb, .slice Ad t.g.depths.length cd, .int .i64 t.g.blo, .int .i64 t.g.bhi, .int .i64 t.k.lo, .int .i64 t.k.hi, .int .i64 t.lag.lo, .int .i64 t.lag.hi, .int .i64 t.sq.lo, .int .i64 t.sq.hi, .int .i64 t.term, .slice Ah h.length ch, .slice Ai l.length ci, .slice Az nz nz]
 have B_Z := ex_row (ex_trans B_V1 NA) hp4 #[.int .i64 t.g.base, .slice Ab t.g.bands.length cb, .slice Ad t.g.depths.length cd, .int .i64 t.g.blo, .int .i64 t.g.bhi, .int .i64 t.k.lo, .int .i64 t.k.hi, .int .i64 t.lag.lo, .int .i64 t.lag.hi, .int .i64 t.sq.lo, .int .i64 t.sq.hi, .int .i64 t.term, .slice Ah h.length ch, .slice Ai l.length ci, .slice Az nz nz]
 clear hp4' hsz hA4 hg hh hi NA
 generalize (V1.alloc (.cells #[.int .i64 0, .slice none 0 0, .slice none 0 0, .int .i64 0, .int .i64 0, .int .i64 0, .int .i64 0, .int .i64 0, .int .i64 0, .int .i64 0, .int .i64 0, .int .i64 0, .slice none 0 0, .slice none 0 0, .slice none 0 0] 56)).setRow p4 #[.int .i64 t.g.base, .slice Ab t.g.bands.length cb, .slice Ad t.g.depths.length cd, .int .i64 t.g.blo, .int .i64 t.g.bhi, .int .i64 t.k.lo, .int .i64 t.k.hi, .int .i64 t.lag.lo, .int .i64 t.lag.hi, .int .i64 t.sq.lo, .int .i64 t.sq.hi, .int .i64 t.term, .slice Ah h.length ch, .slice Ai l.length ci, .slice Az nz nz] = VZ at *
 go_wp2_with (refine pause_at 24 rfl ?_)
 refine Paused.mk ?_
 refine wpList_load_rowG (by kernel_rfl) 37 _ rfl _ (by kernel_rfl) 37 _ (0, 0) _ (q2) Try.underlying37 rfl (by kernel_rfl) ?_
 go_wp2_with fail
 refine (reading_any _ r _ (by omega)).mono ?_
 rintro e V2 ⟨rfl, hV2⟩
 replace q1 := q1.below hV2 q1.lt
 replace q2 := q2.below hV2 q2.lt
 replace q3 := q3.below hV2 q3.lt
 replace q4 := q4.below hV2 q4.lt
 replace hszA := (hszA.below hV2).up hV2.size
 have B_V2 := ex_trans B_Z hV2
 rw [HRD.out]
 go_wp2_with (refine pause_at 28 rfl ?_)
 refine Paused.mk ?_
 refine wpList_load_row rfl 56 _ rfl _ rfl 56 _ (0, 0) _ (q4) Try.underlying56 rfl (by kernel_rfl) ?_
 go_wp2_with (refine pause_store 56 rfl ?_)
 refine Paused.mk ?_
 refine wpList_store_row rfl 56 _ _ rfl _ #[.int .i64 t.g.base, .slice Ab t.g.bands.length cb, .slice Ad t.g.depths.length cd, .int .i64 t.g.blo, .int .i64 t.g.bhi, .int .i64 t.k.lo, .int .i64 t.k.hi, .int .i64 t.lag.lo, .int .i64 t.lag.hi, .int .i64 t.sq.lo, .int .i64 t.sq.hi, .int .i64 t.term, .slice Ah h.length ch, .slice Ai l.length ci, .slice Az nz nz] (by kernel_rfl) (by kernel_rfl) 56 _ q3 (by kernel_rfl) (by kernel_rfl) (by kernel_rfl) ?_
 go_wp2
 refine bodyPost_ret (results_ct_row rfl _ _ _ 56 #[.int .i64 t.g.base, .slice Ab t.g.bands.length cb, .slice Ad t.g.depths.length cd, .int .i64 t.g.blo, .int .i64 t.g.bhi, .int .i64 t.k.lo, .int .i64 t.k.hi, .int .i64 t.lag.lo, .int .i64 t.lag.hi, .int .i64 t.sq.lo, .int .i64 t.sq.hi, .int .i64 t.term, .slice Ah h.length ch, .slice Ai l.length ci, .slice Az nz nz] (0, 0) _ rfl (q3.setRow _) rfl rfl rfl) rfl ?_
 exact ⟨⟨Az, nz, zs, rfl, hz, Lib.hid (hyo.out.mono hyV), hszA.offRow (hyo.out.mono q3p) _⟩, ex_row B_V2 hp3 _⟩

end Go.Proofs.Ytkaogjhnogkcdaa
end

section
namespace Go.Proofs.Ytkaogjhnogkcdaa
open Go.RowKit
attribute [local go_sem] Ex.cell? Ex.frozen?

noncomputable def corE (t : Tb) (h : List Rg) (l : List Ic) (r : Rd) : Int := if askE t h l r ≠ 0 then askE t h l r else refE t l r (agreeB t.g h l off0)
def CorV (t : Tb) (h : List Rg) (l : List Ic) (r : Rd) (R : Rg) (ev : Int) : Prop := ev = corE t h l r ∧ ((ev ≠ 0 ∧ R = ⟨0, 0⟩) ∨ (ev = 0 ∧ ∃ zs, ZsOf t.g h l zs ∧ R = corP2 t r (gR zs r.day.toNat)))
theorem cor_1 {t : Tb} {h : List Rg} {l : List Ic} {r : Rd} (ha : askE t h l r ≠ 0) : CorV t h l r ⟨0, 0⟩ (askE t h l r) := ⟨(if_pos ha).symm, .inl ⟨ha, rfl⟩⟩
theorem cor_2 {t : Tb} {h : List Rg} {l : List Ic} {r : Rd} (ha : askE t h l r = 0) (hr : refE t l r (agreeB t.g h l off0) ≠ 0) : CorV t h l r ⟨0, 0⟩ (refE t l r (agreeB t.g h l off0)) := ⟨by unfold corE; rw [if_neg (by simp [ha])], .inl ⟨hr, rfl⟩⟩
theorem cor_3 {t : Tb} {h : List Rg} {l : List Ic} {r : Rd} {zs : List Rg} (ha : askE t h l r = 0) (hr : refE t l r (agreeB t.g h l off0) = 0) (hz : ZsOf t.g h l zs) : CorV t h l r (corP2 t r (gR zs r.day.toNat)) 0 := ⟨by unfold corE; rw [if_neg (by simp [ha]), hr], .inr ⟨rfl, zs, hz, rfl⟩⟩
structure AskOk (t : Tb) (h : List Rg) (l : List Ic) (r : Rd) : Prop where
  tb : TbBd t
  rd : RdBd r
  ok : Ok t.g h
  l8 : l.length ≤ 8
  day : ∃ k : Nat, r.day = (k : Int) ∧ k < h.length
theorem ask_bd {t : Tb} {h : List Rg} {l : List Ic} {r : Rd} (ha : askE t h l r = 0) : AskOk t h l r := by
  obtain ⟨hu, hr⟩ := ask_0 ha
  obtain ⟨hc, hi⟩ := useE_0 hu
  obtain ⟨hd, hb⟩ := rdOk_iff.1 hr
  exact ⟨ck_bd hc, hb, ok_of_iced hi, iced_len hi, r.day.toNat, by omega, by omega⟩
theorem use_ag {t : Tb} {h : List Rg} {l : List Ic} {nz : Nat} {zs : List Rg} (hu : UseV t h l nz zs) (hp : 0 < h.length) : decide (0 < nz) = agreeB t.g h l off0 := by
  rcases hu with ⟨a, b⟩ | ⟨a, b, _⟩
  · rw [a, b]; rfl
  · rw [a, b]; exact decide_eq_true hp
theorem use_le {t : Tb} {h : List Rg} {l : List Ic} {nz : Nat} {zs : List Rg} (hu : UseV t h l nz zs) : nz ≤ h.length := by
  rcases hu with ⟨_, b⟩ | ⟨_, b, _⟩ <;> omega
theorem zs_bd {t : Tb} {h : List Rg} {l : List Ic} {zs : List Rg} (hok : Ok t.g h) (hz : ZsOf t.g h l zs) : ZsBd h.length zs := fun i hi => by
  have e := ((zs_iff hok).1 hz).2 i hi
  exact ⟨zat_bd hok hi e.1, zat_bd hok hi e.2.1⟩
theorem ref_ag {t : Tb} {l : List Ic} {r : Rd} {ag : Bool} (h : refE t l r ag = 0) : ag = true := by
  unfold refE at h
  split at h
  · cases h
  · split at h
    · cases h
    · split at h
      · cases h
      · rename_i h3; simpa using h3
set_option maxRecDepth 100000 in
set_option maxHeartbeats 6400000 in
theorem Correct_v (t : Tb) (Ab Ad : Option Addr) (cb cd : Nat) (Ah Ai : Option Addr) (ch ci : Nat) (h : List Rg) (l : List Ic) (r : Rd) (w : World) (hg : GlIn w w.heap.size t.g Ab Ad) (hh : SlAt w w.heap.size 2 Ah h.length (fR h)) (hi : SlAt w w.heap.size 3 Ai l.length (fC l)) (hhl : h.length ≤ 1000000) :
    Calls Try.prog 10 #[.agg #[.int .i64 t.g.base, .slice Ab t.g.bands.length cb, .slice Ad t.g.depths.length cd, .int .i64 t.g.blo, .int .i64 t.g.bhi, .int .i64 t.k.lo, .int .i64 t.k.hi, .int .i64 t.lag.lo, .int .i64 t.lag.hi, .int .i64 t.sq.lo, .int .i64 t.sq.hi, .int .i64 t.term], .slice Ah h.length ch, .slice Ai l.length ci, .agg #[.int .i64 r.day, .int .i64 r.shown, .int .i64 r.err, .int .i64 r.bare, .int .i64 r.air.lo, .int .i64 r.air.hi, .int .i64 r.rate.lo, .int .i64 r.rate.hi, .int .i64 r.deep, .bool r.broken]] w fun e w' => (∃ R ev, e = .returned (.tuple #[.agg #[.int .i64 (R : Rg).lo, .int .i64 R.hi], .int .i64 ev]) ∧ Hid (CorV t h l r R ev)) ∧ Below w.heap.size w w' := by
  by_cases ha : askE t h l r = 0
  · have HA := Lib.hid ha
    have HO := Lib.hid (ask_bd ha)
    clear ha
    go_enter Try.func10, Try.ntmps10
    go_upto_region 1 with fail
    show Code.wp _ _ _ _ _
    refine box3 (K := fun V => Code.wp _ _ _ _ V) ?_
    intro V hb1 q1 q2 q3
    replace hg := hg.go hb1
    replace hh := (hh.below hb1).up hb1.size
    replace hi := (hi.below hb1).up hb1.size
    obtain ⟨pq1, hpq1⟩ : ∃ p, w.heap.size = p := ⟨_, rfl⟩
    obtain ⟨pq2, hpq2⟩ : ∃ p, w.heap.size + 1 = p := ⟨_, rfl⟩
    obtain ⟨pq3, hpq3⟩ : ∃ p, w.heap.size + 1 + 1 = p := ⟨_, rfl⟩
    rw [hpq3] at q3 ⊢
    rw [hpq2] at q2 ⊢
    rw [hpq1] at q1 ⊢
    have hp1 : w.heap.size ≤ pq1 := by omega
    have hp2 : w.heap.size ≤ pq2 := by omega
    have hp3 : w.heap.size ≤ pq3 := by omega
    clear hpq1 hpq2 hpq3
    go_wp2_with (refine pause_at 13 rfl ?_)
    refine Paused.mk ?_
    refine wpList_load_row rfl 32 _ rfl _ rfl 32 _ (0, 0) _ (q1) Try.underlying32 rfl (by kernel_rfl) ?_
    go_wp2_with (refine pause_at 16 rfl ?_)
    refine Paused.mk ?_
    refine wpList_load_row rfl 37 _ rfl _ rfl 37 _ (0, 0) _ (q2) Try.underlying37 rfl (by kernel_rfl) ?_
    go_wp2_with fail
    refine (sm_ask_ok t _ _ _ _ _ _ _ _ h l r _ hg hh hi hhl HA.out).mono ?_
    rintro e V1 ⟨⟨Az, nz, zs, rfl, hz, hyo, hsz⟩, hV1⟩
    replace q1 := q1.below hV1 q1.lt
    replace q2 := q2.below hV1 q2.lt
    replace q3 := q3.below hV1 q3.lt
    replace hg := hg.go hV1
    replace hh := (hh.below hV1).up hV1.size
    replace hi := (hi.below hV1).up hV1.size
    have B_V1 := ex_trans hb1 hV1
    have NA := ex_alloc (Below.refl V1.heap.size V1) (.cells #[.int .i64 0, .slice none 0 0, .slice none 0 0, .int .i64 0, .int .i64 0, .int .i64 0, .int .i64 0, .int .i64 0, .int .i64 0, .int .i64 0, .int .i64 0, .int .i64 0, .slice none 0 0, .slice none 0 0, .slice none 0 0] 56)
    have q4 : Blk (V1.alloc (.cells #[.int .i64 0, .slice none 0 0, .slice none 0 0, .int .i64 0, .int .i64 0, .int .i64 0, .int .i64 0, .int .i64 0, .int .i64 0, .int .i64 0, .int .i64 0, .int .i64 0, .slice none 0 0, .slice none 0 0, .slice none 0 0] 56)) V1.heap.size 56 #[.int .i64 0, .slice none 0 0, .slice none 0 0, .int .i64 0, .int .i64 0, .int .i64 0, .int .i64 0, .int .i64 0, .int .i64 0, .int .i64 0, .int .i64 0, .int .i64 0, .slice none 0 0, .slice none 0 0, .slice none 0 0] := Blk.new _ _ _
    obtain ⟨p4, hp4'⟩ : ∃ p, V1.heap.size = p := ⟨_, rfl⟩
    rw [hp4'] at q4
    go_wp2_with (refine pause_store 56 rfl ?_)
    refine Paused.mk ?_
    refine wpList_store_row rfl 56 _ _ rfl _ #[.int .i64 t.g.base, .slice Ab t.g.bands.length cb, .slice Ad t.g.depths.length cd, .int .i64 t.g.blo, .int .i64 t.g.bhi, .int .i64 t.k.lo, .int .i64 t.k.hi, .int .i64 t.lag.lo, .int .i64 t.lag.hi, .int .i64 t.sq.lo, .int .i64 t.sq.hi, .int .i64 t.term, .slice Ah h.length ch, .slice Ai l.length ci, .slice Az nz nz] (by kernel_rfl) (by kernel_rfl) 56 _ q4 (by kernel_rfl) (by kernel_rfl) (by kernel_rfl) ?_
    replace q4 := q4.setRow #[.int .i64 t.g.base, .slice Ab t.g.bands.length cb, .slice Ad t.g.depths.length cd, .int .i64 t.g.blo, .int .i64 t.g.bhi, .int .i64 t.k.lo, .int .i64 t.k.hi, .int .i64 t.lag.lo, .int .i64 t.lag.hi, .int .i64 t.sq.lo, .int .i64 t.sq.hi, .int .i64 t.term, .slice Ah h.length ch, .slice Ai l.length ci, .slice Az nz nz]
    have XZ : Below V1.heap.size V1 ((V1.alloc (.cells #[.int .i64 0, .slice none 0 0, .slice none 0 0, .int .i64 0, .int .i64 0, .int .i64 0, .int .i64 0, .int .i64 0, .int .i64 0, .int .i64 0, .int .i64 0, .int .i64 0, .slice none 0 0, .slice none 0 0, .slice none 0 0] 56)).setRow p4 #[.int .i64 t.g.base, .slice Ab t.g.bands.length cb, .slice Ad t.g.depths.length cd, .int .i64 t.g.blo, .int .i64 t.g.bhi, .int .i64 t.k.lo, .int .i64 t.k.hi, .int .i64 t.lag.lo, .int .i64 t.lag.hi, .int .i64 t.sq.lo, .int .i64 t.sq.hi, .int .i64 t.term, .slice Ah h.length ch, .slice Ai l.length ci, .slice Az nz nz]) := ex_row NA (Nat.le_of_eq hp4') #[.int .i64 t.g.base, .slice Ab t.g.bands.length cb, .slice Ad t.g.depths.length cd, .int .i64 t.g.blo, .int .i64 t.g.bhi, .int .i64 t.k.lo, .int .i64 t.k.hi, .int .i64 t.lag.lo, .int .i64 t.lag.hi, .int .i64 t.sq.lo, .int .i64 t.sq.hi, .int .i64 t.term, .slice Ah h.length ch, .slice Ai l.length ci, .slice Az nz nz]
    have hp4 : w.heap.size ≤ p4 := by have := B_V1.size; omega
    clear NA hp4'
    replace q1 := q1.below XZ q1.lt
    replace q2 := q2.below XZ q2.lt
    replace q3 := q3.below XZ q3.lt
    replace hg := hg.go XZ
    replace hh := (hh.below XZ).up XZ.size
    replace hi := (hi.below XZ).up XZ.size
    replace hsz := (hsz.below XZ).up XZ.size
    have B_V2 := ex_trans B_V1 XZ
    clear XZ
    generalize (V1.alloc (.cells #[.int .i64 0, .slice none 0 0, .slice none 0 0, .int .i64 0, .int .i64 0, .int .i64 0, .int .i64 0, .int .i64 0, .int .i64 0, .int .i64 0, .int .i64 0, .int .i64 0, .slice none 0 0, .slice none 0 0, .slice none 0 0] 56)).setRow p4 #[.int .i64 t.g.base, .slice Ab t.g.bands.length cb, .slice Ad t.g.depths.length cd, .int .i64 t.g.blo, .int .i64 t.g.bhi, .int .i64 t.k.lo, .int .i64 t.k.hi, .int .i64 t.lag.lo, .int .i64 t.lag.hi, .int .i64 t.sq.lo, .int .i64 t.sq.hi, .int .i64 t.term, .slice Ah h.length ch, .slice Ai l.length ci, .slice Az nz nz] = V2 at *
    obtain ⟨k, hk, hkl⟩ := HO.out.day
    have HK := Lib.hid hk
    have hd : 0 ≤ r.day ∧ r.day ≤ 1000000 := by omega
    have hnz := use_le hz.out
    have h8 := HO.out.l8
    clear hk
    go_wp2_with (refine pause_at 22 rfl ?_)
    refine Paused.mk ?_
    refine wpList_load_row rfl 56 _ rfl _ rfl 56 _ (0, 0) _ (q4) Try.underlying56 rfl (by kernel_rfl) ?_
    go_wp2_with (refine pause_at 23 rfl ?_)
    refine Paused.mk ?_
    refine wpList_load_row rfl 37 _ rfl _ rfl 37 _ (0, 0) _ (q2) Try.underlying37 rfl (by kernel_rfl) ?_
    go_wp2_with fail
    refine (sm_refused t Ab Ad Ah Ai Az cb cd ch ci nz nz h l r _ hi (by omega) hd (by omega)).mono ?_
    rintro e V3 ⟨rfl, hV3⟩
    replace q1 := q1.below hV3 q1.lt
    replace q2 := q2.below hV3 q2.lt
    replace q3 := q3.below hV3 q3.lt
    replace hg := hg.go hV3
    replace hh := (hh.below hV3).up hV3.size
    replace hi := (hi.below hV3).up hV3.size
    replace hsz := (hsz.below hV3).up hV3.size
    replace q4 := q4.below hV3 q4.lt
    have B_V3 := ex_trans B_V2 hV3
    have HG := Lib.hid (use_ag hz.out HO.out.ok.nh.1)
    rw [HG.out]
    by_cases hr : refE t l r (agreeB t.g h l off0) = 0
    · have HR := Lib.hid hr
      rw [hr]
      clear hr
      have HAG := Lib.hid (ref_ag HR.out)
      have HZ : Hid (nz = h.length ∧ ZsOf t.g h l zs) := Lib.hid (by
        rcases hz.out with ⟨a, _⟩ | ⟨_, b, c⟩
        · rw [HAG.out] at a; cases a
        · exact ⟨b, c⟩)
      have hkn : k < nz := by rw [HZ.out.1]; exact hkl
      have HB : ZsBd nz zs := by rw [HZ.out.1]; exact zs_bd HO.out.ok HZ.out.2
      go_wp2_with (refine pause_at 29 rfl ?_)
      refine Paused.mk ?_
      refine wpList_load_row rfl 56 _ rfl _ rfl 56 _ (0, 0) _ (q4) Try.underlying56 rfl (by kernel_rfl) ?_
      go_wp2_with (refine pause_at 30 rfl ?_)
      refine Paused.mk ?_
      refine wpList_load_row rfl 37 _ rfl _ rfl 37 _ (0, 0) _ (q2) Try.underlying37 rfl (by kernel_rfl) ?_
      go_wp2_with fail
      refine (sm_correct t Ab Ad Ah Ai Az cb cd ch ci nz nz h l r zs k _ hsz HO.out.tb HO.out.rd HK.out hkn (by omega) HB).mono ?_
      rintro e V4 ⟨rfl, hV4⟩
      replace q1 := q1.below hV4 q1.lt
      replace q2 := q2.below hV4 q2.lt
      replace q3 := q3.below hV4 q3.lt
      replace hg := hg.go hV4
      replace hh := (hh.below hV4).up hV4.size
      replace hi := (hi.below hV4).up hV4.size
      replace hsz := (hsz.below hV4).up hV4.size
      replace q4 := q4.below hV4 q4.lt
      have B_V4 := ex_trans B_V3 hV4
      generalize hR : corP2 t r (gR zs k) = R at *
      have HRR := Lib.hid hR
      clear hR
      have r0 := q3.cell 0
      have r1 := q3.cell 1
      have fr := q3.frozen0
      have lr := q3.lt
      simp at r0 r1
      have m3 := (q3.set_ 0 (.int .i64 R.lo)).set_ 1 (.int .i64 R.hi)
      simp only [List.setIfInBounds_toArray, List.set_cons_zero, List.set_cons_succ] at m3
      go_wp2
      refine bodyPost_ret (results_ct_row rfl _ _ _ 23 #[.int .i64 R.lo, .int .i64 R.hi] (0, 0) _ rfl m3 rfl rfl rfl) rfl ?_
      have HC : Hid (CorV t h l r R 0) := Lib.hid (by rw [← HRR.out]; have := cor_3 HA.out HR.out HZ.out.2; rwa [show r.day.toNat = k by rw [HK.out]; simp] at this)
      exact ⟨⟨R, _, rfl, HC⟩, ex_set (p := ⟨pq3, 1, none⟩) (ex_set (p := ⟨pq3, 0, none⟩) B_V4 hp3 _) hp3 _⟩
    · have HR := Lib.hid (cor_2 HA.out hr)
      obtain ⟨E, hE⟩ : ∃ E, refE t l r (agreeB t.g h l off0) = E := ⟨_, rfl⟩
      rw [hE] at hr HR ⊢
      have e1 : (E != 0) = true := by simp [hr]
      clear hE hr
      have r0 := q3.cell 0
      have r1 := q3.cell 1
      have fr := q3.frozen0
      have lr := q3.lt
      simp at r0 r1
      have m3 := (q3.set_ 0 (.int .i64 0)).set_ 1 (.int .i64 0)
      simp only [List.setIfInBounds_toArray, List.set_cons_zero, List.set_cons_succ] at m3
      go_wp2
      refine bodyPost_ret (results_ct_row rfl _ _ _ 23 #[.int .i64 0, .int .i64 0] (0, 0) _ rfl m3 rfl rfl rfl) rfl ?_
      exact ⟨⟨⟨0, 0⟩, _, rfl, HR⟩, ex_set (p := ⟨pq3, 1, none⟩) (ex_set (p := ⟨pq3, 0, none⟩) B_V3 hp3 _) hp3 _⟩
  · have HR := Lib.hid (cor_1 ha)
    have HA := Lib.hid ha
    have e1 : (askE t h l r == 0) = false := by simpa using ha
    have e2 : (askE t h l r != 0) = true := by simp [ha]
    clear ha
    go_enter Try.func10, Try.ntmps10
    go_upto_region 1 with fail
    show Code.wp _ _ _ _ _
    refine box3 (K := fun V => Code.wp _ _ _ _ V) ?_
    intro V hb1 q1 q2 q3
    replace hg := hg.go hb1
    replace hh := (hh.below hb1).up hb1.size
    replace hi := (hi.below hb1).up hb1.size
    obtain ⟨pq1, hpq1⟩ : ∃ p, w.heap.size = p := ⟨_, rfl⟩
    obtain ⟨pq2, hpq2⟩ : ∃ p, w.heap.size + 1 = p := ⟨_, rfl⟩
    obtain ⟨pq3, hpq3⟩ : ∃ p, w.heap.size + 1 + 1 = p := ⟨_, rfl⟩
    rw [hpq3] at q3 ⊢
    rw [hpq2] at q2 ⊢
    rw [hpq1] at q1 ⊢
    have hp1 : w.heap.size ≤ pq1 := by omega
    have hp2 : w.heap.size ≤ pq2 := by omega
    have hp3 : w.heap.size ≤ pq3 := by omega
    clear hpq1 hpq2 hpq3
    go_wp2_with (refine pause_at 13 rfl ?_)
    refine Paused.mk ?_
    refine wpList_load_row rfl 32 _ rfl _ rfl 32 _ (0, 0) _ (q1) Try.underlying32 rfl (by kernel_rfl) ?_
    go_wp2_with (refine pause_at 16 rfl ?_)
    refine Paused.mk ?_
    refine wpList_load_row rfl 37 _ rfl _ rfl 37 _ (0, 0) _ (q2) Try.underlying37 rfl (by kernel_rfl) ?_
    go_wp2_with fail
    refine (sm_ask_bad t _ _ _ _ _ _ _ _ h l r _ hg hh hi hhl HA.out).mono ?_
    rintro e V5 ⟨⟨C, hC, rfl⟩, hV5⟩
    replace q1 := q1.below hV5 q1.lt
    replace q2 := q2.below hV5 q2.lt
    replace q3 := q3.below hV5 q3.lt
    replace hg := hg.go hV5
    replace hh := (hh.below hV5).up hV5.size
    replace hi := (hi.below hV5).up hV5.size
    have B_V5 := ex_trans hb1 hV5
    have NA := ex_alloc (Below.refl V5.heap.size V5) (.cells #[.int .i64 0, .slice none 0 0, .slice none 0 0, .int .i64 0, .int .i64 0, .int .i64 0, .int .i64 0, .int .i64 0, .int .i64 0, .int .i64 0, .int .i64 0, .int .i64 0, .slice none 0 0, .slice none 0 0, .slice none 0 0] 56)
    have q4 : Blk (V5.alloc (.cells #[.int .i64 0, .slice none 0 0, .slice none 0 0, .int .i64 0, .int .i64 0, .int .i64 0, .int .i64 0, .int .i64 0, .int .i64 0, .int .i64 0, .int .i64 0, .int .i64 0, .slice none 0 0, .slice none 0 0, .slice none 0 0] 56)) V5.heap.size 56 #[.int .i64 0, .slice none 0 0, .slice none 0 0, .int .i64 0, .int .i64 0, .int .i64 0, .int .i64 0, .int .i64 0, .int .i64 0, .int .i64 0, .int .i64 0, .int .i64 0, .slice none 0 0, .slice none 0 0, .slice none 0 0] := Blk.new _ _ _
    obtain ⟨p4, hp4'⟩ : ∃ p, V5.heap.size = p := ⟨_, rfl⟩
    rw [hp4'] at q4
    go_wp2_with (refine pause_store 56 rfl ?_)
    refine Paused.mk ?_
    refine wpList_store_row rfl 56 _ _ rfl _ C (by kernel_rfl) (by kernel_rfl) 56 _ q4 (by rw [hC.size]; kernel_rfl) (by rw [hC.size]; rfl) hC.one ?_
    replace q4 := q4.setRow C
    have XZ : Below V5.heap.size V5 ((V5.alloc (.cells #[.int .i64 0, .slice none 0 0, .slice none 0 0, .int .i64 0, .int .i64 0, .int .i64 0, .int .i64 0, .int .i64 0, .int .i64 0, .int .i64 0, .int .i64 0, .int .i64 0, .slice none 0 0, .slice none 0 0, .slice none 0 0] 56)).setRow p4 C) := ex_row NA (Nat.le_of_eq hp4') C
    have hp4 : w.heap.size ≤ p4 := by have := B_V5.size; omega
    clear NA hp4'
    replace q1 := q1.below XZ q1.lt
    replace q2 := q2.below XZ q2.lt
    replace q3 := q3.below XZ q3.lt
    replace hg := hg.go XZ
    replace hh := (hh.below XZ).up XZ.size
    replace hi := (hi.below XZ).up XZ.size
    have B_V6 := ex_trans B_V5 XZ
    clear XZ
    generalize (V5.alloc (.cells #[.int .i64 0, .slice none 0 0, .slice none 0 0, .int .i64 0, .int .i64 0, .int .i64 0, .int .i64 0, .int .i64 0, .int .i64 0, .int .i64 0, .int .i64 0, .int .i64 0, .slice none 0 0, .slice none 0 0, .slice none 0 0] 56)).setRow p4 C = V6 at *
    have r0 := q3.cell 0
    have r1 := q3.cell 1
    have fr := q3.frozen0
    have lr := q3.lt
    simp at r0 r1
    have m3 := (q3.set_ 0 (.int .i64 0)).set_ 1 (.int .i64 0)
    simp only [List.setIfInBounds_toArray, List.set_cons_zero, List.set_cons_succ] at m3
    go_wp2
    refine bodyPost_ret (results_ct_row rfl _ _ _ 23 #[.int .i64 0, .int .i64 0] (0, 0) _ rfl m3 rfl rfl rfl) rfl ?_
    exact ⟨⟨⟨0, 0⟩, _, rfl, HR⟩, ex_set (p := ⟨pq3, 1, none⟩) (ex_set (p := ⟨pq3, 0, none⟩) B_V6 hp3 _) hp3 _⟩

end Go.Proofs.Ytkaogjhnogkcdaa
end
