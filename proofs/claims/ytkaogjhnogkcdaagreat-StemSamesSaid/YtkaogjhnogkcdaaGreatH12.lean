/- The reference's Creep, Sinks, IsTruth, Play (walks). · The reference's Play (walk). · append of any slice, at the list of a region's operations. · The reference's deep (walk): all that a day's heats can sink. · The reference's map of states: its zero. -/
import Derived.Laws.Cover1
import Derived.Test.YtkaogjhnogkcdaaGreatH10
import Derived.Test.YtkaogjhnogkcdaaGreatH3
set_option linter.unusedVariables false
set_option linter.unusedSimpArgs false
set_option linter.unusedSectionVars false
section
namespace Go.Proofs.YtkaogjhnogkcdaaGreat
open Go.RowKit
attribute [local go_sem] Ex.cell? Ex.frozen? Gx.cell?

set_option maxRecDepth 100000 in
set_option maxHeartbeats 800000 in
theorem CreepR_any (g : Gl) (Ab Ad : Option Addr) (cb cd : Nat) (day : Int) (w : World) (hg : GlIn w w.heap.size g Ab Ad) (hl : g.bands.length ≤ 1000000) :
  Calls Tryz.prog 64 #[.agg #[.int .i64 g.base, .slice Ab g.bands.length cb, .slice Ad g.depths.length cd, .int .i64 g.blo, .int .i64 g.bhi], .int .i64 day] w fun e w' =>
   e = .returned (.agg #[.int .i64 (creepTo g.bands day g.bands.length).lo, .int .i64 (creepTo g.bands day g.bands.length).hi]) ∧ Below w.heap.size w w' := by
 go_enter Tryz.func64, Tryz.ntmps64
 go_wp2_with fail
 go_loopw [6] (fun i wr => ∃ k : Nat, k ≤ g.bands.length ∧ i = .int .i64 k ∧ Below w.heap.size w wr ∧ Blk wr w.heap.size 27 #[.int .i64 g.base, .slice Ab g.bands.length cb, .slice Ad g.depths.length cd, .int .i64 g.blo, .int .i64 g.bhi] ∧ Blk wr (w.heap.size + 1) 25 #[.int .i64 0, .int .i64 0] ∧ Blk wr (w.heap.size + 1 + 1) 25 #[.int .i64 (creepTo g.bands day k).lo, .int .i64 (creepTo g.bands day k).hi])
  (fun i _ => g.bands.length - (intOf i).toNat)
 case atStart => exact ⟨0, by omega, rfl, ex_alloc (ex_alloc (ex_alloc (Below.refl _ _) _) _) _, ((Blk.new _ _ _).alloc _).alloc _, (Blk.new' _ _ _ (by simp)).alloc _, Blk.new' _ _ _ (by simp)⟩
 case round =>
  obtain ⟨k, hk, rfl, hbl, hq, hq1, hblk⟩ := hrel
  have a1 : wr.cell? ⟨w.heap.size, 1, none⟩ = some (.slice Ab g.bands.length cb) := hq.cell 1
  have l1 := hq.lt
  have hc0 : wr.cell? ⟨w.heap.size + 1 + 1, 0, none⟩ = some (.int .i64 (creepTo g.bands day k).lo) := hblk.cell 0
  have hc1 : wr.cell? ⟨w.heap.size + 1 + 1, 1, none⟩ = some (.int .i64 (creepTo g.bands day k).hi) := hblk.cell 1
  have hf0 := hblk.frozen 0
  have hf1 := hblk.frozen 1
  have hlt0 := hblk.lt
  have hd0 : wr.cell? ⟨w.heap.size + 1, 0, none⟩ = some (.int .i64 0) := hq1.cell 0
  have hd1 : wr.cell? ⟨w.heap.size + 1, 1, none⟩ = some (.int .i64 0) := hq1.cell 1
  have hg0 := hq1.frozen 0
  have hg1 := hq1.frozen 1
  have hlt1 := hq1.lt
  by_cases hlt : k < g.bands.length
  ·
   obtain ⟨b, off, rfl, hbB, h0, h1, h2⟩ := IsBds.at_ (hg.b.below hbl) hlt
   by_cases hd : (gB g.bands k).from_ ≤ day
   ·
    go_wp2
    go_roundw
    case rel => exact ⟨k + 1, by omega, by go_num, ex_set (ex_set hbl (by simp; omega) _) (by simp; omega) _, (hq.far (p := ⟨w.heap.size + 1 + 1, 0, none⟩) (by simp; omega) _).far (p := ⟨w.heap.size + 1 + 1, 1, none⟩) (by simp; omega) _, (hq1.far (p := ⟨w.heap.size + 1 + 1, 0, none⟩) (by simp) _).far (p := ⟨w.heap.size + 1 + 1, 1, none⟩) (by simp) _, by rw [creepTo, if_pos hd]; exact (hblk.set_ 0 _).set_ 1 _⟩
    case measure => simp [intOf]; omega
   ·
    go_wp2
    go_roundw
    case rel => exact ⟨k + 1, by omega, by go_num, hbl, hq, hq1, by rw [creepTo, if_neg hd]; exact hblk⟩
    case measure => simp [intOf]; omega
  ·
   have HK : Hid (k = g.bands.length) := Lib.hid (by omega)
   go_wp2
   have r5 := (hq1.set_ 0 (.int .i64 (creepTo g.bands day k).lo)).set_ 1 (.int .i64 (creepTo g.bands day k).hi)
   simp only [List.setIfInBounds_toArray, List.set_cons_zero, List.set_cons_succ] at r5
   refine bodyPost_ret (results_cell_row rfl _ _ (w.heap.size + 1) 25 #[.int .i64 (creepTo g.bands day k).lo, .int .i64 (creepTo g.bands day k).hi] (0, 0) _ rfl r5 rfl rfl rfl) rfl ?_
   exact ⟨by rw [HK.out], ex_set (ex_set hbl (by first | (simp; done) | (simp; omega)) _) (by first | (simp; done) | (simp; omega)) _⟩

set_option maxHeartbeats 800000 in
theorem SinksR_any (g : Gl) (Ab Ad : Option Addr) (cb cd : Nat) (heat : Int) (w : World) (hg : GlIn w w.heap.size g Ab Ad) (hl : g.depths.length ≤ 1000000) :
  Calls Tryz.prog 94 #[.agg #[.int .i64 g.base, .slice Ab g.bands.length cb, .slice Ad g.depths.length cd, .int .i64 g.blo, .int .i64 g.bhi], .int .i64 heat] w fun e w' => e = .returned (.int .i64 (sinksTo g.depths heat g.depths.length)) ∧ Below w.heap.size w w' := by
 go_enter Tryz.func94, Tryz.ntmps94
 go_wp2_with fail
 go_loopw [5, 6] (fun s i wr => ∃ k : Nat, k ≤ g.depths.length ∧ i = .int .i64 k ∧ s = .int .i64 (sinksTo g.depths heat k) ∧ Below w.heap.size w wr ∧ Blk wr w.heap.size 27 #[.int .i64 g.base, .slice Ab g.bands.length cb, .slice Ad g.depths.length cd, .int .i64 g.blo, .int .i64 g.bhi])
  (fun _ i _ => g.depths.length - (intOf i).toNat)
 case atStart => exact ⟨0, by omega, rfl, rfl, ex_alloc (Below.refl _ _) _, Blk.new _ _ _⟩
 case round =>
  obtain ⟨k, hk, rfl, rfl, hbl, hq⟩ := hrel
  have a1 : wr.cell? ⟨w.heap.size, 2, none⟩ = some (.slice Ad g.depths.length cd) := hq.cell 2
  have l1 := hq.lt
  by_cases hlt : k < g.depths.length
  ·
   obtain ⟨b, off, rfl, hbB, h0, h1⟩ := IsDps.at_ (hg.d.below hbl) hlt
   by_cases hd : (gD g.depths k).from_ ≤ heat
   ·
    go_wp2
    go_roundw
    case rel => exact ⟨k + 1, by omega, by go_num, by rw [sinksTo, if_pos hd], hbl, hq⟩
    case measure => simp [intOf]; omega
   ·
    go_wp2
    go_roundw
    case rel => exact ⟨k + 1, by omega, by go_num, by rw [sinksTo, if_neg hd], hbl, hq⟩
    case measure => simp [intOf]; omega
  ·
   have HK : Hid (k = g.depths.length) := Lib.hid (by omega)
   go_wp2
   go_ret
   exact ⟨by rw [← HK.out]; rfl, hbl⟩

theorem max3_eq (x y z : Int) : (if z > (if y > x then y else x) then z else (if y > x then y else x)) = mx3 x y z := by
 unfold mx3
 split <;> split <;> omega
theorem wpList_max3 {P : Program} {ops : Array Oper} {rest : List Oper} {o : Oper} {a : Act} {Q : Exit → Act → World → Prop} (w : World) (hgd : o.guard = none) (p q s : Operand) (ts : Array TypeId)
  (hop : o.op = .call { callee := .builtin .max, args := #[p, q, s], argTypes := ts }) (x y z : Int) (h1 : a.eval p = .int .i64 x) (h2 : a.eval q = .int .i64 y) (h3 : a.eval s = .int .i64 z)
  (hK : wpList P ops Q rest (a.put o.dst (.int .i64 (mx3 x y z))) w) : wpList P ops Q (o :: rest) a w := by
 refine wpList_plain hgd fun K hK' => ?_
 have hrun := run_max_int3 (P := P) (w := w) ts o.type .i64 .i64 .i64 x y z
 rw [max3_eq] at hrun
 unfold Oper.wp
 simp only [execOp, hop, resolve, invoke, builtin, h1, h2, h3, hrun, Result.andThen, Sem.run_bind, Sem.run_pure, List.map_toArray, List.map_cons, List.map_nil]
 exact hK' _ _ hK

end Go.Proofs.YtkaogjhnogkcdaaGreat
end

section
namespace Go.Proofs.YtkaogjhnogkcdaaGreat
open Go.RowKit
attribute [local go_sem] Ex.cell? Ex.frozen? Gx.cell?

end Go.Proofs.YtkaogjhnogkcdaaGreat
end

section
namespace Go.Proofs.YtkaogjhnogkcdaaGreat
open Go.RowKit

section
variable {P : Program}
end
end Go.Proofs.YtkaogjhnogkcdaaGreat
end

section
namespace Go.Proofs.YtkaogjhnogkcdaaGreat
open Go.RowKit
attribute [local go_sem] Ex.cell? Ex.frozen?

def DeepIs (g : Gl) (lo : Int) (k : Nat) (L : List Int) : Prop := L.length ≤ k ∧ ∀ y, y ∈ L ↔ ∃ j : Nat, j < k ∧ y = sinks g (lo + j)
theorem DeepIs.has {g : Gl} {lo : Int} {k : Nat} {L : List Int} (h : DeepIs g lo k L) (hh : hasB L (sinks g (lo + k)) = true) : DeepIs g lo (k + 1) L := by
  have hm : sinks g (lo + k) ∈ L := of_decide_eq_true hh
  refine ⟨by have := h.1; omega, fun y => ?_⟩
  rw [h.2]
  constructor
  · rintro ⟨j, h1, h2⟩; exact ⟨j, by omega, h2⟩
  · rintro ⟨j, h1, h2⟩
    rcases Nat.lt_succ_iff_lt_or_eq.1 h1 with h3 | h3
    · exact ⟨j, h3, h2⟩
    · subst h3; rw [h2]; exact (h.2 _).1 hm
theorem DeepIs.more {g : Gl} {lo : Int} {k : Nat} {L : List Int} (h : DeepIs g lo k L) : DeepIs g lo (k + 1) (L ++ [sinks g (lo + k)]) := by
  refine ⟨by have := h.1; simp; omega, fun y => ?_⟩
  rw [List.mem_append, List.mem_singleton, h.2]
  constructor
  · rintro (⟨j, h1, h2⟩ | h2)
    · exact ⟨j, by omega, h2⟩
    · exact ⟨k, by omega, h2⟩
  · rintro ⟨j, h1, h2⟩
    rcases Nat.lt_succ_iff_lt_or_eq.1 h1 with h3 | h3
    · exact .inl ⟨j, h3, h2⟩
    · subst h3; exact .inr h2

set_option maxRecDepth 100000 in
set_option maxHeartbeats 3200000 in
theorem deepR_any (g : Gl) (Ab Ad : Option Addr) (cb cd : Nat) (lo hi : Int) (w : World) (hg : GlIn w w.heap.size g Ab Ad) (hok : g.depths.length ≤ 1000000) (h0 : 0 ≤ lo) (h1 : lo ≤ hi) (h2 : hi ≤ 500) :
    Calls Tryz.prog 65 #[.agg #[.int .i64 g.base, .slice Ab g.bands.length cb, .slice Ad g.depths.length cd, .int .i64 g.blo, .int .i64 g.bhi], .agg #[.int .i64 lo, .int .i64 hi]] w fun e w' => (∃ v L, e = .returned v ∧ w'.ownsRow w.heap.size 3 1 v L.length (L.map (Value.int .i64)) ∧ DeepIs g lo (hi - lo + 1).toNat L) ∧ Below w.heap.size w w' := by
  obtain ⟨i0, hi0, hz0, hz1, hz2⟩ := info_parts int_info
  have HI := Lib.hid hi0
  clear hi0
  have hb1 := ex_alloc (ex_alloc (Below.refl w.heap.size w) (.cells #[.int .i64 g.base, .slice Ab g.bands.length cb, .slice Ad g.depths.length cd, .int .i64 g.blo, .int .i64 g.bhi] 27)) (.cells #[.int .i64 lo, .int .i64 hi] 25)
  go_enter Tryz.func65, Tryz.ntmps65
  go_wp2_with fail
  go_loopw [5, 6] (fun v i wr => ∃ (k : Nat) (L : List Int), (k : Int) ≤ hi - lo + 1 ∧ i = .int .i64 (lo + k) ∧ Below w.heap.size w wr ∧ Blk wr w.heap.size 27 #[.int .i64 g.base, .slice Ab g.bands.length cb, .slice Ad g.depths.length cd, .int .i64 g.blo, .int .i64 g.bhi] ∧ Blk wr (w.heap.size + 1) 25 #[.int .i64 lo, .int .i64 hi] ∧
      wr.ownsRow (w.heap.size + 1 + 1) 3 1 v L.length (L.map (Value.int .i64)) ∧ DeepIs g lo k L)
    (fun _ i _ => (hi + 1 - intOf i).toNat)
  case atStart => exact ⟨0, [], by omega, by simp, hb1, (Blk.new _ _ _).alloc _, Blk.new' _ _ _ (by simp), ⟨rfl, .inl ⟨rfl, rfl⟩⟩, ⟨Nat.le_refl _, fun y => by simp⟩⟩
  case round =>
    obtain ⟨k, L, hk, rfl, hbl, q1, q2, hown, hD⟩ := hrel
    obtain ⟨A, c, rfl, _, hs⟩ := own_sl hown
    have HD := Lib.hid hD
    have hLk := hD.1
    clear hD
    have c0 : wr.cell? ⟨w.heap.size + 1, 0, none⟩ = some (.int .i64 lo) := q2.cell 0
    have c1 : wr.cell? ⟨w.heap.size + 1, 1, none⟩ = some (.int .i64 hi) := q2.cell 1
    have l2 := q2.lt
    by_cases hlt : lo + (k : Int) ≤ hi
    · have a0 : wr.cell? ⟨w.heap.size, 0, none⟩ = some (.int .i64 g.base) := q1.cell 0
      have a1 : wr.cell? ⟨w.heap.size, 1, none⟩ = some (.slice Ab g.bands.length cb) := q1.cell 1
      have a2 : wr.cell? ⟨w.heap.size, 2, none⟩ = some (.slice Ad g.depths.length cd) := q1.cell 2
      have a3 : wr.cell? ⟨w.heap.size, 3, none⟩ = some (.int .i64 g.blo) := q1.cell 3
      have a4 : wr.cell? ⟨w.heap.size, 4, none⟩ = some (.int .i64 g.bhi) := q1.cell 4
      have l1 := q1.lt
      go_wp2_with fail
      refine (SinksR_any g _ _ _ _ (lo + (k : Int)) _ ((hg.below hbl).up hbl.size) hok).mono ?_
      rintro e x1 ⟨rfl, hx1⟩
      obtain ⟨y, hy⟩ : ∃ y, sinksTo g.depths (lo + (k : Int)) g.depths.length = y := ⟨_, rfl⟩
      rw [hy]
      have HY : Hid (sinks g (lo + (k : Int)) = y) := Lib.hid hy
      clear hy
      go_wp2_with fail
      refine (Has_any _ _ L y _ (by omega) ((hs.below hx1).up hx1.size)).mono ?_
      rintro e x2 ⟨rfl, hx2⟩
      have hX := ex_trans hx1 hx2
      have hB := ex_trans hbl hX
      cases v1 : hasB L y
      · have y4 := (own_below hown hX).alloc (.cells #[.int .i64 y] 3)
        have c63 : L.length + 1 ≤ maxLen := by unfold maxLen; omega
        have cby : (L.length + 1) * 8 ≤ 140737488355328 := by omega
        have hws := hX.size
        have hbase : w.heap.size + 1 + 1 ≤ (x2.alloc (.cells #[.int .i64 y] 3)).heap.size := by simp; omega
        go_wp2_with (at_builtin; refine wpList_append_lies _ rfl _ _ _ rfl (w.heap.size + 1 + 1) 3 i0 _ 1 8 Tryz.underlying72 HI.out hz0 hz1 hz2 rfl (by omega) (.slice A L.length c) _ _ rfl y4 ⟨x2.heap.size, 0, none⟩ 1 1 [.int .i64 y] rfl rfl (World.news_of_block (heap_alloc_new x2 _)) (by simp [Value.oneCell']) (by omega) c63 cby hbase (x2.heap.size + 1) (by simp) ?_; intro gg cap w1 hown' hgrow hat hlt')
        go_roundw
        case rel => exact ⟨k + 1, L ++ [y], by omega, by go_num, (ex_alloc hB _).grown hgrow (by simp; omega) (fun j hj => Nat.le_trans (by omega) (own_ge hown hj)), ((q1.below hX q1.lt).alloc _).grown hgrow (own_blk hown (by omega)), ((q2.below hX q2.lt).alloc _).grown hgrow (own_blk hown (by omega)), own_snoc rfl hown', by rw [← HY.out]; exact HD.out.more⟩
        case measure => simp [intOf]; omega
      · go_wp2
        go_roundw
        case rel => exact ⟨k + 1, L, by omega, by go_num, hB, q1.below hX q1.lt, q2.below hX q2.lt, own_below hown hX, HD.out.has (by rw [HY.out]; exact v1)⟩
        case measure => simp [intOf]; omega
    · have HK : Hid (k = (hi - lo + 1).toNat) := Lib.hid (by omega)
      go_wp2
      go_ret
      exact ⟨⟨_, rfl, L, own_base hown (by omega), by rw [← HK.out]; exact HD.out⟩, hbl⟩

end Go.Proofs.YtkaogjhnogkcdaaGreat
end

section
namespace Go.Proofs.YtkaogjhnogkcdaaGreat
open Go.RowKit

def isF : Value → Bool
  | .bool b => !b
  | _ => false
theorem isF_iff {v : Value} (h : isF v = true) : v = .bool false := by
  cases v <;> simp [isF] at h
  rw [h]
def chkF : List Value → Nat → Bool
  | [], n => n == 0
  | v :: l, n => match n with
    | 0 => false
    | n + 1 => isF v && chkF l n
theorem chkF_iff : ∀ {l : List Value} {n : Nat}, chkF l n = true → l.length = n ∧ ∀ v ∈ l, v = .bool false
  | [], n, h => by
    simp [chkF] at h
    exact ⟨by simp [h], fun v hv => by cases hv⟩
  | v :: l, 0, h => by simp [chkF] at h
  | v :: l, n + 1, h => by
    simp only [chkF, Bool.and_eq_true] at h
    obtain ⟨h1, h2⟩ := chkF_iff h.2
    refine ⟨by rw [List.length_cons, h1], fun u hu => ?_⟩
    rcases List.mem_cons.1 hu with rfl | hu
    · exact isF_iff h.1
    · exact h2 u hu
def mapZ (i : Option TypeInfo) : Bool := match i with
  | some i => (match i.zero with
    | some (.agg c) => chkF c.toList 27404
    | _ => false)
  | none => false
end Go.Proofs.YtkaogjhnogkcdaaGreat
end
