/- Glass: agree, wide (walks). · Glass: wide, zeros (walks). · Glass: zeros (walk). · Glass: Zeros (walk). · Glass: Shows (walk). · Glass: the states of each day as lists that can be reckoned, and the ranges of the zeros (plain). -/
import Derived.Test.YtkaogjhnogkcdaaK6
import Derived.Test.YtkaogjhnogkcdaaK7
set_option linter.unusedVariables false
set_option linter.unusedSimpArgs false
set_option linter.unusedSectionVars false
section
namespace Go.Proofs.Ytkaogjhnogkcdaa
open Go.RowKit
attribute [local go_sem] mkEs_size Ex.cell? Ex.frozen?

open Classical in
noncomputable def agreeB (g : Gl) (h : List Rg) (l : List Ic) (o : Nat → Bool) : Bool := decide (∃ s, Can g h l o h.length s)

theorem days_rd (g : Gl) (Ab Ad Ah Ai : Option Addr) (cb cd ch ci : Nat) (h : List Rg) (l : List Ic) (o : Nat → Bool) (w : World) (hg : GlIn w w.heap.size g Ab Ad) (hh : SlAt w w.heap.size 2 Ah h.length (fR h)) (hi : SlAt w w.heap.size 3 Ai l.length (fC l)) (hok : Ok g h) (h8 : l.length ≤ 8) (hbd : IcesBd l) :
  Calls Try.prog 61 #[.agg #[.int .i64 g.base, .slice Ab g.bands.length cb, .slice Ad g.depths.length cd, .int .i64 g.blo, .int .i64 g.bhi, .slice Ah h.length ch, .slice Ai l.length ci], .agg #[.bool (o 0), .bool (o 1), .bool (o 2), .bool (o 3), .bool (o 4), .bool (o 5), .bool (o 6), .bool (o 7)]] w fun e w' =>
   ∃ gv cap, ∃ cur : Array Value, ∃ mb : Nat → Nat, ∃ Ls : Nat → List St, e = .returned (.slice (some ⟨gv, 0, none⟩) (h.length + 1) cap) ∧ w.heap.size ≤ gv ∧ h.length + 1 ≤ cap ∧ Blk w' gv 122 cur ∧
    (∀ i, i ≤ h.length → cur[i]? = some (.map (some (mb i))) ∧ IsMap w' (mb i) (Ls i) ∧ w.heap.size ≤ mb i ∧ (Ls i).Nodup ∧ ∀ s, s ∈ Ls i ↔ Can g h l o i s) ∧ Below w.heap.size w w' := by
 refine (days_any g Ab Ad Ah Ai cb cd ch ci h l o w hg hh hi hok h8 hbd).mono ?_
 rintro e w' ⟨v, ms, rfl, hml, hown, hms, hb⟩
 rcases hown.2 with ⟨_, h0⟩ | ⟨gv, cap, cur, rfl, hge, hh', hnc, hm, hsz, hc⟩
 ·
  omega
 refine ⟨gv, cap, cur, fun i => (ms.getD i (0, [])).1, fun i => (ms.getD i (0, [])).2, by rw [hml], hge, by omega, hh', fun i hi => ?_, hb⟩
 have him : i < ms.length := by omega
 have hget : ms.getD i (0, []) = ms[i] := by simp [him]
 obtain ⟨x1, x2, x3, x4⟩ := hms i him
 simp only
 refine ⟨?_, by rw [hget]; exact x1, by rw [hget]; exact x2, by rw [hget]; exact x3, fun s => by rw [hget]; exact x4 s⟩
 have := congrArg (fun y : List Value => y[i]?) hc
 simp only [Nat.mul_one, List.getElem?_take, him, if_true, List.getElem?_map, List.getElem?_eq_getElem him, Option.map_some] at this
 rw [← Array.getElem?_toList, this, hget]

theorem run_len_st {W : World} {b : Nat} {L : List St} (h : IsMap W b L) (ty : TypeId) : (Builtin.len_ #[122] ty #[.map (some b)]).run Try.prog W = .ok (.int .i64 (L.length : Int)) W := by
 simp [Builtin.len_, run_underlying Try.underlying122, getObj_at h, mkEs_size, goInt]

theorem Blk.frozen0 {w : World} {g : Nat} {t : TypeId} {cs : Array Value} (h : Blk w g t cs) : ∀ i, w.frozen? ⟨g, i, none⟩ = false := h.frozen

end Go.Proofs.Ytkaogjhnogkcdaa
end

section
namespace Go.Proofs.Ytkaogjhnogkcdaa
open Go.RowKit
attribute [local go_sem] mkEs_size Ex.cell? Ex.frozen?
theorem run_store_func {P : Program} {w : World} {a : Addr} {m : Mode} (f : Fn) (x y : Array Value) : (store a (.func f x y) m).run P w = stored P w a (.func f x y) m := run_store P w a _ m rfl
attribute [local go_sem] run_store_func

set_option maxRecDepth 100000 in
theorem wide_any (lo hi n : Int) (w : World) :
    Calls Try.prog 63 #[.agg #[.int .i64 lo, .int .i64 hi], .int .i64 n] w fun e w' => e = .returned (.agg #[.int .i64 (min lo n), .int .i64 (max hi n)]) ∧ Below w.heap.size w w' := by
  go_enter Try.func63, Try.ntmps63
  go_wp2
  have z5 : Blk ((((w.alloc (.cells #[.int .i64 lo, .int .i64 hi] 23)).alloc (.cells #[.int .i64 0, .int .i64 0] 23)).alloc (.cells #[.func (.func 72) #[] #[]] 137)).alloc (.cells #[.func (.func 73) #[] #[]] 137)) (w.heap.size + 1 + 1) 137 #[.func (.func 72) #[] #[]] := (Blk.new' _ _ _ (by simp)).alloc _
  have z6 : Blk ((((w.alloc (.cells #[.int .i64 lo, .int .i64 hi] 23)).alloc (.cells #[.int .i64 0, .int .i64 0] 23)).alloc (.cells #[.func (.func 72) #[] #[]] 137)).alloc (.cells #[.func (.func 73) #[] #[]] 137)) (w.heap.size + 1 + 1 + 1) 137 #[.func (.func 73) #[] #[]] := Blk.new' _ _ _ (by simp)
  have z2 : Blk ((((w.alloc (.cells #[.int .i64 lo, .int .i64 hi] 23)).alloc (.cells #[.int .i64 0, .int .i64 0] 23)).alloc (.cells #[.func (.func 72) #[] #[]] 137)).alloc (.cells #[.func (.func 73) #[] #[]] 137)) w.heap.size 23 #[.int .i64 lo, .int .i64 hi] := (((Blk.new _ _ _).alloc _).alloc _).alloc _
  have z4 : Blk ((((w.alloc (.cells #[.int .i64 lo, .int .i64 hi] 23)).alloc (.cells #[.int .i64 0, .int .i64 0] 23)).alloc (.cells #[.func (.func 72) #[] #[]] 137)).alloc (.cells #[.func (.func 73) #[] #[]] 137)) (w.heap.size + 1) 23 #[.int .i64 0, .int .i64 0] := ((Blk.new' _ _ _ (by simp)).alloc _).alloc _
  have hb : Below w.heap.size w ((((w.alloc (.cells #[.int .i64 lo, .int .i64 hi] 23)).alloc (.cells #[.int .i64 0, .int .i64 0] 23)).alloc (.cells #[.func (.func 72) #[] #[]] 137)).alloc (.cells #[.func (.func 73) #[] #[]] 137)) := ex_alloc (ex_alloc (ex_alloc (ex_alloc (Below.refl _ _) _) _) _) _
  generalize ((((w.alloc (.cells #[.int .i64 lo, .int .i64 hi] 23)).alloc (.cells #[.int .i64 0, .int .i64 0] 23)).alloc (.cells #[.func (.func 72) #[] #[]] 137)).alloc (.cells #[.func (.func 73) #[] #[]] 137)) = W at *
  have k5 := (z5.cell 0).trans rfl
  have k6 := (z6.cell 0).trans rfl
  have k20 := (z2.cell 0).trans rfl
  have k21 := (z2.cell 1).trans rfl
  have l5 := z5.lt
  have l6 := z6.lt
  have l2 := z2.lt
  have l4 := z4.lt
  refine wp_region_ext_tail 11 (by kernel_rfl) (by kernel_rfl) ?_
  simp only [List.take_succ_cons, List.take_zero, List.drop_succ_cons, List.drop_zero]
  repeat (any_goals (first | go_big_quiet_step ((first
    | (go_at_call 72; exact Calls.ext_of (low_any _ _ _ _))
    | (go_at_call 73; exact Calls.ext_of (high_any _ _ _ _))))))
  refine wpQuiet_nil ?_; intro _ hw'; obtain ⟨x, rfl⟩ := hw'
  have zx := z4.below x.h l4
  have c0 := (zx.cell 0).trans rfl
  have c1 := (zx.cell 1).trans rfl
  have f0 := zx.frozen 0
  have f1 := zx.frozen 1
  have s0 := (((zx.set_ 0 (.int .i64 (min lo n))).set_ 1 (.int .i64 (max hi n))).cell 0).trans rfl
  have s1 := (((zx.set_ 0 (.int .i64 (min lo n))).set_ 1 (.int .i64 (max hi n))).cell 1).trans rfl
  go_wp2
  have zz : Blk ((x.W.setCell ⟨w.heap.size + 1, 0, none⟩ (.int .i64 (min lo n))).setCell ⟨w.heap.size + 1, 1, none⟩ (.int .i64 (max hi n))) (w.heap.size + 1) 23 #[.int .i64 (min lo n), .int .i64 (max hi n)] := (zx.set_ 0 (.int .i64 (min lo n))).set_ 1 (.int .i64 (max hi n))
  refine bodyPost_ret (results_cell_row rfl _ _ (w.heap.size + 1) 23 #[.int .i64 (min lo n), .int .i64 (max hi n)] (0, 0) _ rfl zz rfl rfl rfl) rfl ?_
  exact ⟨rfl, by refine ex_set (ex_set (hb.trans (x.h.mono hb.size)) ?_ _) ?_ _ <;> simp⟩

end Go.Proofs.Ytkaogjhnogkcdaa
end

section
namespace Go.Proofs.Ytkaogjhnogkcdaa
open Go.RowKit Go.Shelf
attribute [local go_sem] Oper.semAt_some mkEs_size Ex.cell? Ex.frozen?

def Goes (g : Gl) (h : List Rg) (l : List Ic) (o : Nat → Bool) : Nat → Nat → St → Prop
  | 0, d, s => Can g h l o d s
  | k + 1, d, s => Can g h l o d s ∧ ∃ t, t ∈ nextL g h d s ∧ Goes g h l o k (d + 1) t

def EndsOf (Z : Int → Prop) (a b : Int) : Prop := Z a ∧ Z b ∧ ∀ z, Z z → a ≤ z ∧ z ≤ b

theorem run_build_range (a b : Int) (W : World) : (Instr.build 23 #[(0, .int .i64 a), (1, .int .i64 b)]).run Try.prog W = .ok (.agg #[.int .i64 a, .int .i64 b]) W := by
  kernel_rfl

theorem range_info : (Try.prog.info? 23).map (fun i => (i.zero, i.size, i.bytes)) = some (some (.agg #[.int .i64 0, .int .i64 0]), 2, 16) := by kernel_rfl
theorem run_make_ranges (n : Nat) (hn : n ≤ 16) : ∃ oc : Array Value, oc.size = n * 2 ∧ ∀ W : World, (Instr.makeSlice 34 (.int .i64 (n : Int)) (.int .i64 (n : Int))).run Try.prog W = .ok (.slice (some ⟨W.heap.size, 0, none⟩) n n) (W.alloc (.cells oc 23)) := by
  obtain ⟨i0, hi0, hz0, hz1, hz2⟩ := info_parts range_info
  refine ⟨_, ?_, fun W => by
    have := run_makeSlice (P := Try.prog) (w := W) 34 23 i0 _ Try.underlying34 hi0 hz0 .i64 .i64 (n : Int) (n : Int) (by omega) (by omega) (by rw [hz1, Int.toNat_natCast]; omega) (by rw [hz2]; omega) (by omega)
    rw [Int.toNat_natCast, hz1] at this
    exact this⟩
  simp [madeCells]

theorem Goes.can {g : Gl} {h : List Rg} {l : List Ic} {o : Nat → Bool} : ∀ {k d : Nat} {s : St}, Goes g h l o k d s → Can g h l o d s
  | 0, _, _, hs => hs
  | _ + 1, _, _, hs => hs.1
theorem map_ne_blk {W : World} {b c : Nat} {L : List St} {t : TypeId} {cs : Array Value} (hm : IsMap W b L) (hc : Blk W c t cs) : b ≠ c := by
  rintro rfl
  have h1 : W.heap[b]? = some (.map (mkEs L) L.length) := hm
  have h2 : W.heap[b]? = some (.cells cs t (0, 0)) := hc
  rw [h1] at h2; cases h2
theorem blk_ne {W : World} {b c : Nat} {t t' : TypeId} {cs cs' : Array Value} (hm : Blk W b t cs) (hc : Blk W c t' cs') (ht : t ≠ t') : b ≠ c := by
  rintro rfl
  have h1 : W.heap[b]? = some (.cells cs t (0, 0)) := hm
  have h2 : W.heap[b]? = some (.cells cs' t' (0, 0)) := hc
  rw [h1] at h2; cases h2; exact ht rfl

def dayOf (v : Value) (W : World) : Nat := match v with | .pointer (some p) => (intOf ((W.cell? p).getD undef)).toNat | _ => 0
theorem grown_row {W W' : World} {r : Option Nat} (h : Below W.heap.size W W') : W.grownBy W' r := ⟨h.os, h.tape, h.output, h.size, fun k hk _ => h.block k hk⟩
theorem grown_set (W : World) (b i : Nat) (v : Value) : W.grownBy (W.setCell ⟨b, i, none⟩ v) (some b) := ⟨rfl, rfl, rfl, by simp, fun k _ hne => Below.heap_setCell W ⟨b, i, none⟩ v k (fun e => hne (by rw [e]))⟩
theorem ends_snoc {Z : Int → Prop} {a b z : Int} (h : EndsOf Z a b) : EndsOf (fun v => Z v ∨ v = z) (min a z) (max b z) := by
  obtain ⟨h1, h2, h3⟩ := h
  refine ⟨?_, ?_, ?_⟩
  · rcases Int.le_total a z with h | h
    · rw [Int.min_eq_left h]; exact .inl h1
    · rw [Int.min_eq_right h]; exact .inr rfl
  · rcases Int.le_total b z with h | h
    · rw [Int.max_eq_right h]; exact .inr rfl
    · rw [Int.max_eq_left h]; exact .inl h2
  · rintro v (h | rfl)
    · have := h3 v h; omega
    · omega
theorem EndsOf.congr {Z Z' : Int → Prop} {a b : Int} (h : EndsOf Z a b) (hz : ∀ z, Z z ↔ Z' z) : EndsOf Z' a b := ⟨(hz _).1 h.1, (hz _).1 h.2.1, fun z hz' => h.2.2 z ((hz z).2 hz')⟩
theorem ends_step {g : Gl} {L : List St} {sn : List Nat} {i : Nat} (hi : i < L.length) (z : Int) :
    ((∃ j, ∃ hj : j < L.length, j ∈ sn ∧ z = zero g L[j]) ∨ z = zero g L[i]) ↔ ∃ j, ∃ hj : j < L.length, j ∈ sn ++ [i] ∧ z = zero g L[j] := by
  constructor
  · rintro (⟨j, hj, h1, h2⟩ | h)
    · exact ⟨j, hj, by simp [h1], h2⟩
    · exact ⟨i, hi, by simp, h⟩
  · rintro ⟨j, hj, h1, h2⟩
    rcases List.mem_append.1 h1 with h1 | h1
    · exact .inl ⟨j, hj, h1, h2⟩
    · obtain rfl := List.mem_singleton.1 h1; exact .inr h2

structure ZA (g : Gl) (Wk : World) (B d b : Nat) (L : List St) (oc : Array Value) (f : Bool) (sn : List Nat) (W : World) : Prop where
  gB : Wk.grownBy W (some (B + 1))
  it : Iter W Wk.heap.size b L sn
  ff : f = true ↔ sn = []
  out : ∃ oc' : Array Value, Blk W (B + 1) 23 oc' ∧ oc'.size = oc.size ∧ (∀ j, j ≠ (d - 1) * 2 → j ≠ (d - 1) * 2 + 1 → oc'[j]? = oc[j]?) ∧
    (sn ≠ [] → ∃ x y : Int, oc'[(d - 1) * 2]? = some (.int .i64 x) ∧ oc'[(d - 1) * 2 + 1]? = some (.int .i64 y) ∧ EndsOf (fun z => ∃ i, ∃ hi : i < L.length, i ∈ sn ∧ z = zero g L[i]) x y)

structure ZB (g : Gl) (h : List Rg) (l : List Ic) (w Wa : World) (d b : Nat) (L : List St) (sn : List Nat) (M : List St) (ds : List Deferred) (W : World) : Prop where
  bw : Below Wa.heap.size Wa W
  it : Iter W (Wa.heap.size + 1 + 1) b L sn
  m : IsMap W Wa.heap.size M
  nd : M.Nodup
  mem : ∀ s, s ∈ M ↔ ∃ i, ∃ hi : i < L.length, i ∈ sn ∧ s = L[i] ∧ ∃ t, t ∈ nextL g h (d - 1) L[i] ∧ Goes g h l (fun _ => false) (h.length - d) d t
  q11 : Blk W (Wa.heap.size + 1) 122 #[.map (some Wa.heap.size)]
  mks : Marks W ds
  mb : ∀ e ∈ ds, ∀ D, e.target = .collected D → w.heap.size ≤ D

structure ZS (g : Gl) (h : List Rg) (l : List Ic) (w : World) (rc : Array Value) (B gv cap d b7 : Nat) (ds : List Deferred) (W : World) : Prop where
  bw : Below w.heap.size w W
  q1 : Blk W w.heap.size 107 rc
  q4 : Blk W B 118 #[.slice (some ⟨gv, 0, none⟩) (h.length + 1) cap]
  q7 : Blk W b7 3 #[.int .i64 (d : Int)]
  hb7 : w.heap.size ≤ b7
  mks : Marks W ds
  mb : ∀ e ∈ ds, ∀ D, e.target = .collected D → w.heap.size ≤ D
  lv : ∃ cur : Array Value, ∃ mp : Nat → Nat, ∃ Ls : Nat → List St, Blk W gv 122 cur ∧ Ls d ≠ [] ∧ ∀ i, i ≤ d → cur[i]? = some (.map (some (mp i))) ∧ IsMap W (mp i) (Ls i) ∧ w.heap.size ≤ mp i ∧ (Ls i).Nodup ∧
    ∀ s, s ∈ Ls i ↔ if i < d then Can g h l (fun _ => false) i s else Goes g h l (fun _ => false) (h.length - d) d s
  out : ∃ oc : Array Value, Blk W (B + 1) 23 oc ∧ oc.size = h.length * 2 ∧
    ∀ i, d ≤ i → i < h.length → ∃ a b : Int, oc[2 * i]? = some (.int .i64 a) ∧ oc[2 * i + 1]? = some (.int .i64 b) ∧ EndsOf (fun z => ∃ s, Goes g h l (fun _ => false) (h.length - 1 - i) (i + 1) s ∧ z = zero g s) a b

theorem grown_some {W W' : World} {r : Option Nat} (h : W.grownBy W' none) : W.grownBy W' r := ⟨h.os, h.tape, h.output, h.size, fun k hk _ => h.block k hk (by simp)⟩
theorem exFrame {T : Array Value} {F : (Nat → Value) → Array Value} {ds : List Deferred} (h : T = F (fun i => T.getD i undef)) : ∃ u, Act.mk T ds = Act.mk (F u) ds := ⟨_, congrArg (fun T => Act.mk T ds) h⟩

set_option maxRecDepth 100000 in
set_option maxHeartbeats 4000000 in
theorem zeros_any (g : Gl) (Ab Ad Ah Ai : Option Addr) (cb cd ch ci : Nat) (h : List Rg) (l : List Ic) (w : World) (hg : GlIn w w.heap.size g Ab Ad) (hh : SlAt w w.heap.size 2 Ah h.length (fR h))
    (hi : SlAt w w.heap.size 3 Ai l.length (fC l)) (hok : Ok g h) (h8 : l.length ≤ 8) (hbd : IcesBd l) :
    Calls Try.prog 51 #[.agg #[.int .i64 g.base, .slice Ab g.bands.length cb, .slice Ad g.depths.length cd, .int .i64 g.blo, .int .i64 g.bhi, .slice Ah h.length ch, .slice Ai l.length ci]] w fun e w' =>
      ((¬ ∃ s, Can g h l (fun _ => false) h.length s) ∧ e = .returned (.tuple #[.slice none 0 0, .bool false]) ∨
       (∃ s, Can g h l (fun _ => false) h.length s) ∧ ∃ go, ∃ oc : Array Value, e = .returned (.tuple #[.slice (some ⟨go, 0, none⟩) h.length h.length, .bool true]) ∧ w.heap.size ≤ go ∧ Blk w' go 23 oc ∧ oc.size = h.length * 2 ∧
         ∀ i, i < h.length → ∃ a b : Int, oc[2 * i]? = some (.int .i64 a) ∧ oc[2 * i + 1]? = some (.int .i64 b) ∧ EndsOf (fun z => ∃ s, Goes g h l (fun _ => false) (h.length - 1 - i) (i + 1) s ∧ z = zero g s) a b) ∧ Below w.heap.size w w' := by
  have hb1 := ex_alloc (Below.refl w.heap.size w) (.cells #[.int .i64 g.base, .slice Ab g.bands.length cb, .slice Ad g.depths.length cd, .int .i64 g.blo, .int .i64 g.bhi, .slice Ah h.length ch, .slice Ai l.length ci] 107)
  have hn16 := hok.nh
  have z1 : Blk (w.alloc (.cells #[.int .i64 g.base, .slice Ab g.bands.length cb, .slice Ad g.depths.length cd, .int .i64 g.blo, .int .i64 g.bhi, .slice Ah h.length ch, .slice Ai l.length ci] 107)) w.heap.size 107 #[.int .i64 g.base, .slice Ab g.bands.length cb, .slice Ad g.depths.length cd, .int .i64 g.blo, .int .i64 g.bhi, .slice Ah h.length ch, .slice Ai l.length ci] := Blk.new _ _ _
  have hg1 := (hg.below hb1).up hb1.size
  have hh1 := (hh.below hb1).up hb1.size
  have hi1 := (hi.below hb1).up hb1.size
  have hsz1 : (w.alloc (.cells #[.int .i64 g.base, .slice Ab g.bands.length cb, .slice Ad g.depths.length cd, .int .i64 g.blo, .int .i64 g.bhi, .slice Ah h.length ch, .slice Ai l.length ci] 107)).heap.size = w.heap.size + 1 := by simp
  obtain ⟨W0, hW0⟩ : ∃ W0, w.alloc (.cells #[.int .i64 g.base, .slice Ab g.bands.length cb, .slice Ad g.depths.length cd, .int .i64 g.blo, .int .i64 g.bhi, .slice Ah h.length ch, .slice Ai l.length ci] 107) = W0 := ⟨_, rfl⟩
  rw [hW0] at hb1 z1 hg1 hh1 hi1 hsz1
  have a0 := z1.cell 0
  have a1 := z1.cell 1
  have a2 := z1.cell 2
  have a3 := z1.cell 3
  have a4 := z1.cell 4
  have a5 := z1.cell 5
  have a6 := z1.cell 6
  simp at a0 a1 a2 a3 a4 a5 a6
  obtain ⟨oc0, hoc0, hmks⟩ := run_make_ranges h.length hn16.2
  have HOC := Lib.hid hoc0
  clear hoc0
  refine calls_of_marks (n := 5) Try.func51 rfl ?_
  simp only [Try.ntmps51, List.size_toArray, List.length_cons, List.length_nil, Nat.reduceAdd, Nat.reduceSub, Array.replicate_succ, Array.replicate_zero, List.push_toArray, List.append_toArray, List.nil_append, List.cons_append]
  have HS1 := Lib.hid hsz1
  clear hsz1
  go_wp2_with (go_at_call 61
               refine (days_rd g Ab Ad Ah Ai cb cd ch ci h l (fun _ => false) W0 hg1 hh1 hi1 hok h8 hbd).mono ?_
               rintro e w2 ⟨gv, cap, cur, mb, Ls, rfl, hge, hcap, hcur, hmsx, hb2⟩
               have HM0 := Lib.hid hmsx
               have hm0 := (hmsx h.length (Nat.le_refl _)).2.1
               have hm1 := fun ty o => run_len_st (hm0.alloc o) ty
               have hmC := Lib.hid ((hmsx h.length (Nat.le_refl _)).2.2.2.2)
               have hcn := (hcur.cell h.length).trans (hmsx h.length (Nat.le_refl _)).1
               have a5' := (z1.below hb2 z1.lt).cell 5
               simp at a5'
               have s0 : w.heap.size < w2.heap.size := (z1.below hb2 z1.lt).lt
               have s1 : gv < w2.heap.size := hcur.lt
               have hnI : (0 : Int) ≤ (h.length : Int) := by omega
               have hnJ : (h.length : Int) < (h.length : Int) + 1 := by omega
               clear hmsx a0 a1 a2 a3 a4 a5 a6)
  · have h0 : (Ls h.length).length = 0 := by
      have hd : ((Ls h.length).length : Int) = 0 := by first | assumption | (rename_i hx; simpa using hx)
      omega
    show LeavesInM _ _ _ _ _ _ _ _ _
    refine leaves_marks w.heap.size [] _ trivial (fun d hd => nomatch hd) (fun W' hW' => ⟨_, results_tmp2 rfl _ _ _, .inl ⟨fun ⟨s, hs⟩ => ?_, rfl⟩, ?_⟩)
    · have hmC' : ∀ s, s ∈ Ls h.length ↔ Can g h l (fun _ => false) h.length s := hmC
      have := (hmC' s).2 hs
      rw [List.length_eq_zero_iff.1 h0] at this
      cases this
    · exact hW'.below ((hb1.trans (hb2.mono hb1.size)).alloc (by omega) _)
  have hne : (Ls h.length) ≠ [] := by
    intro e
    have hx : (((Ls h.length).length : Int) == 0) = false := by assumption
    rw [e] at hx; cases hx
  have hmC' : ∀ s, s ∈ Ls h.length ↔ Can g h l (fun _ => false) h.length s := hmC
  have hcan : ∃ s, Can g h l (fun _ => false) h.length s := by
    obtain ⟨s, hs⟩ := List.exists_mem_of_ne_nil _ hne
    exact ⟨s, (hmC' s).1 hs⟩
  have hwB : w.heap.size ≤ w2.heap.size := by omega
  have hZ0 : ZS g h l w #[.int .i64 g.base, .slice Ab g.bands.length cb, .slice Ad g.depths.length cd, .int .i64 g.blo, .int .i64 g.bhi, .slice Ah h.length ch, .slice Ai l.length ci] w2.heap.size gv cap h.length (w2.heap.size + 1 + 1) [] (((w2.alloc (.cells #[.slice (some ⟨gv, 0, none⟩) (h.length + 1) cap] 118)).alloc (.cells oc0 23)).alloc (.cells #[.int .i64 (h.length : Int)] 3)) := by
    have hM : ∀ i, i ≤ h.length → cur[i]? = some (.map (some (mb i))) ∧ IsMap w2 (mb i) (Ls i) ∧ W0.heap.size ≤ mb i ∧ (Ls i).Nodup ∧ ∀ s, s ∈ Ls i ↔ Can g h l (fun _ => false) i s := HM0
    refine ⟨ex_alloc (ex_alloc (ex_alloc (hb1.trans (hb2.mono hb1.size)) _) _) _, (((z1.below hb2 z1.lt).alloc _).alloc _).alloc _, ((Blk.new _ _ _).alloc _).alloc _, Blk.new' _ _ _ (by simp), by omega, trivial, (fun d hd => nomatch hd), ?_, ?_⟩
    · refine ⟨cur, mb, Ls, ((hcur.alloc _).alloc _).alloc _, hne, fun i hi => ?_⟩
      obtain ⟨x1, x2, x3, x4, x5⟩ := hM i hi
      refine ⟨x1, ((x2.alloc _).alloc _).alloc _, by have := HS1.out; omega, x4, fun s => ?_⟩
      rw [x5 s]
      by_cases hin : i < h.length
      · rw [if_pos hin]
      · obtain rfl : i = h.length := by omega
        rw [if_neg hin, Nat.sub_self]; rfl
    · exact ⟨oc0, (Blk.new' _ _ _ (by simp)).alloc _, HOC, fun i h1 h2 => by omega⟩
  clear HM0 hm0 hm1 hmC hmC' hcn hcur hne HOC hmks a5' z1 hg1 hh1 hi1
  obtain ⟨B, hB⟩ : ∃ B, w2.heap.size = B := ⟨_, rfl⟩
  rw [hB] at hZ0
  rw [hB] at s0 s1 hwB
  refine wp_loop (fun a W => ∃ (b7 d : Nat) (ds : List Deferred), d ≤ h.length ∧ ZS g h l w #[.int .i64 g.base, .slice Ab g.bands.length cb, .slice Ad g.depths.length cd, .int .i64 g.blo, .int .i64 g.bhi, .slice Ah h.length ch, .slice Ai l.length ci] B gv cap d b7 ds W ∧ ∃ u : Nat → Value, a = ⟨List.toArray (u 0 :: .pointer (some ⟨w.heap.size, 0, none⟩) :: .slice none 0 0 :: .bool false :: .pointer (some ⟨B, 0, none⟩) :: .int .i64 (h.length : Int) :: .slice (some ⟨B + 1, 0, none⟩) h.length h.length :: .pointer (some ⟨b7, 0, none⟩) :: u 8 :: u 9 :: u 10 :: u 11 :: u 12 :: u 13 :: u 14 :: u 15 :: u 16 :: u 17 :: u 18 :: u 19 :: u 20 :: u 21 :: u 22 :: u 23 :: u 24 :: u 25 :: u 26 :: u 27 :: u 28 :: u 29 :: u 30 :: u 31 :: u 32 :: u 33 :: u 34 :: u 35 :: u 36 :: u 37 :: u 38 :: u 39 :: u 40 :: u 41 :: u 42 :: u 43 :: u 44 :: u 45 :: u 46 :: u 47 :: u 48 :: u 49 :: u 50 :: u 51 :: u 52 :: u 53 :: u 54 :: u 55 :: u 56 :: u 57 :: u 58 :: u 59 :: u 60 :: u 61 :: u 62 :: u 63 :: u 64 :: u 65 :: u 66 :: u 67 :: u 68 :: u 69 :: u 70 :: u 71 :: u 72 :: u 73 :: u 74 :: u 75 :: u 76 :: u 77 :: u 78 :: u 79 :: u 80 :: u 81 :: u 82 :: u 83 :: u 84 :: u 85 :: u 86 :: u 87 :: u 88 :: u 89 :: u 90 :: u 91 :: u 92 :: u 93 :: u 94 :: u 95 :: u 96 :: u 97 :: u 98 :: u 99 :: []), ds⟩)
    (fun a W => dayOf (a.tmps.getD 7 undef) W) ⟨B + 1 + 1, h.length, [], Nat.le_refl _, hZ0, exFrame (by rw [hB]; kernel_rfl)⟩ ?_
  clear hZ0
  rintro a Wk ⟨b7, d, ds, hd, hds, u, rfl⟩
  obtain ⟨dB, dq1, dq4, dq7, db7, dmk, dmb, ⟨cur, mp, Ls, dcur, dne, hlv⟩, ⟨oc, doc, dsz, hout⟩⟩ := hds
  have c7 : Wk.cell? ⟨b7, 0, none⟩ = some (.int .i64 (d : Int)) := dq7.cell 0
  have l7 := dq7.lt
  by_cases hd0 : d = 0
  · subst hd0
    go_wp2
    show LeavesInM _ _ _ _ _ _ _ _ _
    refine leaves_marks w.heap.size ds Wk dmk dmb (fun W' hW' => ⟨_, results_tmp2 rfl _ _ _, .inr ⟨hcan, B + 1, oc, rfl, by omega, hW'.same _ _ doc (fun x e => by cases e), dsz, fun i hi => hout i (by omega) hi⟩, hW'.below dB⟩)
  have hdI : (0 : Int) < (d : Int) := by omega
  have hs1 : IntKind.i64.wrap ((d : Int) - 1) = ((d - 1 : Nat) : Int) := by rw [IntWalk.i64_in _ (by omega)]; omega
  obtain ⟨y1, y2, y3, y4, y5⟩ := hlv d (Nat.le_refl _)
  have hcd := (dcur.cell d).trans y1
  have s4 := (dq4.cell 0).trans rfl
  have l4 := dq4.lt
  have lv := dcur.lt
  have hrg := run_range_st y2
  have hdJ : (d : Int) < (h.length : Int) + 1 := by omega
  have hdK : (0 : Int) ≤ (d : Int) := by omega
  go_wp2_with fail
  have hA0 : ZA g Wk B d (mp d) (Ls d) oc true [] (Wk.alloc (.mapIter (some (mp d)) (Ls d).length #[] (Ls d).length)) :=
    { gB := (World.grownBy.refl Wk _).andThen (grown_of_below ((Below.refl _ _).alloc (Nat.le_refl _) _)) (fun j hj => by cases hj)
      it := Iter.new _ _ _ rfl
      ff := by simp
      out := ⟨oc, doc.alloc _, rfl, fun _ _ _ => rfl, fun h => absurd rfl h⟩ }
  refine wp_loop (fun a W => ∃ (f : Bool) (sn : List Nat), ZA g Wk B d (mp d) (Ls d) oc f sn W ∧ ∃ u : Nat → Value, a = ⟨List.toArray (u 0 :: .pointer (some ⟨w.heap.size, 0, none⟩) :: .slice none 0 0 :: .bool false :: .pointer (some ⟨B, 0, none⟩) :: .int .i64 (h.length : Int) :: .slice (some ⟨B + 1, 0, none⟩) h.length h.length :: .pointer (some ⟨b7, 0, none⟩) :: .bool f :: u 9 :: u 10 :: u 11 :: u 12 :: u 13 :: u 14 :: u 15 :: u 16 :: u 17 :: u 18 :: u 19 :: u 20 :: u 21 :: u 22 :: u 23 :: u 24 :: u 25 :: u 26 :: u 27 :: u 28 :: u 29 :: u 30 :: u 31 :: u 32 :: u 33 :: u 34 :: u 35 :: u 36 :: u 37 :: .pointer (some ⟨Wk.heap.size, 0, none⟩) :: u 39 :: u 40 :: u 41 :: u 42 :: u 43 :: u 44 :: u 45 :: u 46 :: u 47 :: u 48 :: u 49 :: u 50 :: u 51 :: u 52 :: u 53 :: u 54 :: u 55 :: u 56 :: u 57 :: u 58 :: u 59 :: u 60 :: u 61 :: u 62 :: u 63 :: u 64 :: u 65 :: u 66 :: u 67 :: u 68 :: u 69 :: u 70 :: u 71 :: u 72 :: u 73 :: u 74 :: u 75 :: u 76 :: u 77 :: u 78 :: u 79 :: u 80 :: u 81 :: u 82 :: u 83 :: u 84 :: u 85 :: u 86 :: u 87 :: u 88 :: u 89 :: u 90 :: u 91 :: u 92 :: u 93 :: u 94 :: u 95 :: u 96 :: u 97 :: u 98 :: u 99 :: []), ds⟩)
    (fun _ W => itLeft W Wk.heap.size (Ls d)) ⟨true, [], hA0, exFrame (by kernel_rfl)⟩ ?_
  clear hA0 hrg c7 s4 hcd
  rintro a wr ⟨f, sn, hA, u1, rfl⟩
  obtain ⟨mG, mit, mff, ⟨oc', m37, m38, m39, mEnd⟩⟩ := hA
  have nM := map_ne_blk y2 doc
  have hbr : IsMap wr (mp d) (Ls d) := y2.grown mG (fun e => nM (Option.some.inj e))
  have n1 := blk_ne dq1 doc (by decide)
  have n4 := blk_ne dq4 doc (by decide)
  have n7 := blk_ne dq7 doc (by decide)
  have nv := blk_ne dcur doc (by decide)
  rcases next_st hbr mit 0 with ⟨hall, hrun⟩ | ⟨i, hiL, hni, W2, hit2, hg2, hsz2, hrun, hent⟩
  · -- THE DAY's RANGE IS DONE
    have hsnn : sn ≠ [] := by
      intro e
      obtain ⟨s, hs⟩ := List.exists_mem_of_ne_nil _ dne
      obtain ⟨j, hj, _⟩ := List.getElem_of_mem hs
      have := hall j hj
      rw [e] at this; cases this
    obtain ⟨x, y, hx, hy, hxy⟩ := mEnd hsnn
    have hmk := @run_makeMap Try.prog
    have e1 : Blk wr w.heap.size 107 #[.int .i64 g.base, .slice Ab g.bands.length cb, .slice Ad g.depths.length cd, .int .i64 g.blo, .int .i64 g.bhi, .slice Ah h.length ch, .slice Ai l.length ci] := dq1.grown mG (fun e => n1 (Option.some.inj e))
    have e4 : Blk wr B 118 #[.slice (some ⟨gv, 0, none⟩) (h.length + 1) cap] := dq4.grown mG (fun e => n4 (Option.some.inj e))
    have e7 : Blk wr b7 3 #[.int .i64 (d : Int)] := dq7.grown mG (fun e => n7 (Option.some.inj e))
    have ev : Blk wr gv 122 cur := dcur.grown mG (fun e => nv (Option.some.inj e))
    obtain ⟨v1, v2, v3, v4, v5⟩ := hlv (d - 1) (by omega)
    have nM1 := map_ne_blk v2 doc
    have eb : IsMap wr (mp (d - 1)) (Ls (d - 1)) := v2.grown mG (fun e => nM1 (Option.some.inj e))
    have l1 := e1.lt
    have l4 := e4.lt
    have l7 := e7.lt
    have lv := ev.lt
    have s4 : wr.cell? ⟨B, 0, none⟩ = some (.slice (some ⟨gv, 0, none⟩) (h.length + 1) cap) := e4.cell 0
    have c7 : wr.cell? ⟨b7, 0, none⟩ = some (.int .i64 (d : Int)) := e7.cell 0
    have hcd := (ev.cell (d - 1)).trans v1
    have hdn1 : ((d - 1 : Nat) : Int) < (h.length : Int) + 1 := by omega
    have hdn0 : (0 : Int) ≤ ((d - 1 : Nat) : Int) := by omega
    have hrg := run_range_st ((eb.alloc (.map #[] 0)).alloc (.cells #[.map (some wr.heap.size)] 122))
    have HLV := Lib.hid hlv
    have HOUT := Lib.hid hout
    have HEND := Lib.hid hxy
    have HV5 := Lib.hid v5
    have HY5 := Lib.hid y5
    have HALL1 := Lib.hid hall
    clear hlv hout mEnd mff hxy v5 y5 hall
    go_wp2_with fail
    have hB0 : ZB g h l w wr d (mp (d - 1)) (Ls (d - 1)) [] [] ds (((wr.alloc (.map #[] 0)).alloc (.cells #[.map (some wr.heap.size)] 122)).alloc (.mapIter (some (mp (d - 1))) (Ls (d - 1)).length #[] (Ls (d - 1)).length)) :=
      { bw := ex_alloc (ex_alloc (ex_alloc (Below.refl _ _) _) _) _
        it := Iter.new _ _ _ (by simp)
        m := ((IsMap.new _ rfl).alloc _).alloc _
        nd := by simp
        mem := fun s => by simp
        q11 := (Blk.new' _ _ _ (by simp)).alloc _
        mks := (dmk.keep fun D hD => (mG.block D (Array.getElem?_eq_some_iff.1 hD).1 (fun e => by
            have := Option.some.inj e; subst this
            have h2 : Wk.heap[B + 1]? = some (.cells oc 23 (0, 0)) := doc
            rw [hD] at h2; cases h2)).trans hD).below (ex_alloc (ex_alloc (ex_alloc (Below.refl _ _) _) _) _)
        mb := dmb }
    refine wp_loop (fun a W => ∃ (ds : List Deferred) (sn : List Nat) (M : List St), ZB g h l w wr d (mp (d - 1)) (Ls (d - 1)) sn M ds W ∧ ∃ u : Nat → Value, a = ⟨List.toArray (u 0 :: .pointer (some ⟨w.heap.size, 0, none⟩) :: .slice none 0 0 :: .bool false :: .pointer (some ⟨B, 0, none⟩) :: .int .i64 (h.length : Int) :: .slice (some ⟨B + 1, 0, none⟩) h.length h.length :: .pointer (some ⟨b7, 0, none⟩) :: u 8 :: u 9 :: u 10 :: .pointer (some ⟨wr.heap.size + 1, 0, none⟩) :: u 12 :: u 13 :: u 14 :: u 15 :: u 16 :: u 17 :: u 18 :: u 19 :: u 20 :: u 21 :: u 22 :: u 23 :: u 24 :: u 25 :: u 26 :: u 27 :: u 28 :: u 29 :: u 30 :: u 31 :: u 32 :: u 33 :: u 34 :: u 35 :: u 36 :: u 37 :: u 38 :: u 39 :: u 40 :: u 41 :: u 42 :: u 43 :: u 44 :: u 45 :: u 46 :: u 47 :: u 48 :: u 49 :: u 50 :: u 51 :: u 52 :: u 53 :: u 54 :: u 55 :: u 56 :: u 57 :: u 58 :: u 59 :: u 60 :: u 61 :: u 62 :: u 63 :: u 64 :: u 65 :: u 66 :: u 67 :: u 68 :: u 69 :: u 70 :: u 71 :: u 72 :: .pointer (some ⟨wr.heap.size + 1 + 1, 0, none⟩) :: u 74 :: u 75 :: u 76 :: u 77 :: u 78 :: u 79 :: u 80 :: u 81 :: u 82 :: u 83 :: u 84 :: u 85 :: u 86 :: u 87 :: u 88 :: u 89 :: u 90 :: u 91 :: u 92 :: u 93 :: u 94 :: u 95 :: u 96 :: u 97 :: u 98 :: u 99 :: []), ds⟩)
      (fun _ W => itLeft W (wr.heap.size + 1 + 1) (Ls (d - 1))) ⟨ds, [], [], hB0, exFrame (by kernel_rfl)⟩ ?_
    clear hB0 hrg dmk dmb c7 s4 hcd
    rintro a wb ⟨ds, sn2, M, hZB, u2, rfl⟩
    obtain ⟨bB, bit, bm, bnd, bmem, b11, bmk, bmb⟩ := hZB
    have HBM := Lib.hid bmem
    clear bmem
    have hbr : IsMap wb (mp (d - 1)) (Ls (d - 1)) := eb.of_block (bB.block _ eb.lt)
    have g1 := e1.below bB l1
    have g4 := e4.below bB l4
    have g7 := e7.below bB l7
    have gv' := ev.below bB lv
    have m1 := g1.lt
    have m4 := g4.lt
    have m7 := g7.lt
    have mv := gv'.lt
    have m11 := b11.lt
    have s4 : wb.cell? ⟨B, 0, none⟩ = some (.slice (some ⟨gv, 0, none⟩) (h.length + 1) cap) := g4.cell 0
    have c7 : wb.cell? ⟨b7, 0, none⟩ = some (.int .i64 (d : Int)) := g7.cell 0
    have c11 : wb.cell? ⟨wr.heap.size + 1, 0, none⟩ = some (.map (some wr.heap.size)) := b11.cell 0
    have hcd := (gv'.cell (d - 1)).trans v1
    have hfz := gv'.frozen (d - 1)
    rcases next_st hbr bit 0 with ⟨hall, hrun⟩ | ⟨i, hiL, hni, W2, hit2, hg2, hsz2, hrun, hent⟩
    · have n7v := blk_ne dq7 dcur (by decide)
      have n7w := n7v.symm
      have w7 := g7.far (p := ⟨gv, d - 1, none⟩) n7v (.map (some wr.heap.size))
      have c7' : (wb.setCell ⟨gv, d - 1, none⟩ (.map (some wr.heap.size))).cell? ⟨b7, 0, none⟩ = some (.int .i64 (d : Int)) := w7.cell 0
      go_wp2_with fail
      have n1v := blk_ne dq1 dcur (by decide)
      have n4v := blk_ne dq4 dcur (by decide)
      have nov := blk_ne doc dcur (by decide)
      have hgvw : w.heap.size ≤ gv := Nat.le_trans hb1.size hge
      have hbwr : Below w.heap.size w wr := dB.grown mG dB.size (fun j hj => by have := Option.some.inj hj; omega)
      have hfar : ∀ {k : Nat}, k ≠ gv → (((wb.setCell ⟨gv, d - 1, none⟩ (.map (some wr.heap.size))).alloc (.cells #[.int .i64 ((d - 1 : Nat) : Int)] 3))).heap[k]? = if k < wb.heap.size then wb.heap[k]? else (((wb.setCell ⟨gv, d - 1, none⟩ (.map (some wr.heap.size))).alloc (.cells #[.int .i64 ((d - 1 : Nat) : Int)] 3))).heap[k]? := fun {k} hk => by
        by_cases hlt : k < wb.heap.size
        · rw [if_pos hlt, Below.heap_alloc _ _ _ (by simpa using hlt), Below.heap_setCell _ _ _ _ hk]
        · rw [if_neg hlt]
      have hZ' : ZS g h l w #[.int .i64 g.base, .slice Ab g.bands.length cb, .slice Ad g.depths.length cd, .int .i64 g.blo, .int .i64 g.bhi, .slice Ah h.length ch, .slice Ai l.length ci] B gv cap (d - 1) wb.heap.size ds ((wb.setCell ⟨gv, d - 1, none⟩ (.map (some wr.heap.size))).alloc (.cells #[.int .i64 ((d - 1 : Nat) : Int)] 3)) := by
        have hmapfar : ∀ {b : Nat} {L : List St}, IsMap wb b L → IsMap ((wb.setCell ⟨gv, d - 1, none⟩ (.map (some wr.heap.size))).alloc (.cells #[.int .i64 ((d - 1 : Nat) : Int)] 3)) b L := fun {b} {L} hm => hm.of_block (by rw [hfar (map_ne_blk hm gv'), if_pos hm.lt])
        refine ⟨((hbwr.trans (bB.mono hbwr.size)).setCell hgvw _).alloc (by have := (hbwr.trans (bB.mono hbwr.size)).size; simpa using this) _, (g1.far (p := ⟨gv, d - 1, none⟩) n1v _).alloc _, (g4.far (p := ⟨gv, d - 1, none⟩) n4v _).alloc _, Blk.new' _ _ _ (by simp), (hbwr.trans (bB.mono hbwr.size)).size, ?_, bmb, ?_, ?_⟩
        · refine bmk.keep fun D hD => ?_
          rw [hfar (fun e => by
            subst e
            have h2 : wb.heap[D]? = some (.cells cur 122 (0, 0)) := gv'
            rw [hD] at h2; cases h2), if_pos (Array.getElem?_eq_some_iff.1 hD).1]
          exact hD
        · have hcsz : d - 1 < cur.size := (Array.getElem?_eq_some_iff.1 v1).1
          have hM : ∀ s, s ∈ M ↔ Goes g h l (fun _ => false) (h.length - (d - 1)) (d - 1) s := fun s => by
            rw [HBM.out s, show h.length - (d - 1) = (h.length - d) + 1 by omega, Goes, show d - 1 + 1 = d by omega]
            constructor
            · rintro ⟨j, hj, _, rfl, ht⟩
              have := (HV5.out _).1 (List.getElem_mem hj)
              rw [if_pos (by omega)] at this
              exact ⟨this, ht⟩
            · rintro ⟨hc, ht⟩
              have := (HV5.out s).2 (by rw [if_pos (by omega)]; exact hc)
              obtain ⟨j, hj, rfl⟩ := List.getElem_of_mem this
              exact ⟨j, hj, hall j hj, rfl, ht⟩
          refine ⟨_, fun i => if i = d - 1 then wr.heap.size else mp i, fun i => if i = d - 1 then M else Ls i, (gv'.set_ (d - 1) (.map (some wr.heap.size))).alloc _, ?_, fun i hi => ?_⟩
          · simp only [if_true]
            obtain ⟨t, ht⟩ := List.exists_mem_of_ne_nil _ dne
            have h1 := (HY5.out t).1 ht
            rw [if_neg (by omega)] at h1
            have h2 := h1.can
            obtain ⟨d', rfl⟩ : ∃ d', d = d' + 1 := ⟨d - 1, by omega⟩
            obtain ⟨s, hs, hst, _⟩ := h2
            exact List.ne_nil_of_mem ((hM s).2 (by
              rw [show h.length - (d' + 1 - 1) = (h.length - (d' + 1)) + 1 by omega, Goes]
              exact ⟨hs, t, hst, h1⟩))
          · by_cases hid : i = d - 1
            · subst hid
              simp only [if_true]
              refine ⟨by simp [hcsz], hmapfar bm, by have := hbwr.size; omega, bnd, fun s => ?_⟩
              rw [if_neg (by omega)]
              exact hM s
            · simp only [if_neg hid]
              obtain ⟨x1, x2, x3, x4, x5⟩ := HLV.out i (by omega)
              have x2' : IsMap wb (mp i) (Ls i) := (x2.grown mG (fun e => map_ne_blk x2 doc (Option.some.inj e))).of_block (bB.block _ (by have := x2.lt; have := mG.size; omega))
              refine ⟨by rw [Array.getElem?_setIfInBounds, if_neg (Ne.symm hid)]; exact x1, hmapfar x2', x3, x4, fun s => ?_⟩
              rw [x5 s, if_pos (by omega), if_pos (by omega)]
        · have m37' := (m37.below bB m37.lt)
          refine ⟨oc', (m37'.far (p := ⟨gv, d - 1, none⟩) nov _).alloc _, by rw [m38, dsz], fun i h1 h2 => ?_⟩
          by_cases hid : i = d - 1
          · subst hid
            refine ⟨x, y, by rw [Nat.mul_comm]; exact hx, by rw [Nat.mul_comm]; exact hy, HEND.out.congr (fun z => ?_)⟩
            rw [show h.length - 1 - (d - 1) = h.length - d by omega, show d - 1 + 1 = d by omega]
            constructor
            · rintro ⟨j, hj, _, hz⟩
              have h3 := (HY5.out _).1 (List.getElem_mem hj)
              rw [if_neg (by omega)] at h3
              exact ⟨_, h3, hz⟩
            · rintro ⟨s, hs, hz⟩
              have h3 := (HY5.out s).2 (by rw [if_neg (by omega)]; exact hs)
              obtain ⟨j, hj, rfl⟩ := List.getElem_of_mem h3
              exact ⟨j, hj, HALL1.out j hj, hz⟩
          · obtain ⟨a, b, k1, k2, k3⟩ := HOUT.out i (by omega) h2
            exact ⟨a, b, by rw [m39 _ (by omega) (by omega)]; exact k1, by rw [m39 _ (by omega) (by omega)]; exact k2, k3⟩
      refine ⟨⟨wb.heap.size, d - 1, ds, by omega, hZ', exFrame (by kernel_rfl)⟩, ?_⟩
      show (intOf ((World.cell? ((wb.setCell ⟨gv, d - 1, none⟩ (.map (some wr.heap.size))).alloc (.cells #[.int .i64 ((d - 1 : Nat) : Int)] 3)) ⟨wb.heap.size, 0, none⟩).getD undef)).toNat < (intOf ((Wk.cell? ⟨b7, 0, none⟩).getD undef)).toNat
      rw [hZ'.q7.cell 0, dq7.cell 0]
      simp [intOf]
      omega
    · -- A STATE HAS COME
      have hsL : (Ls (d - 1))[i] ∈ Ls (d - 1) := List.getElem_mem _
      have hcs : Can g h l (fun _ => false) (d - 1) (Ls (d - 1))[i] := by
        have hx := (HV5.out _).1 hsL
        rwa [if_pos (by omega)] at hx
      have hsb := Can.bd hok hcs
      have hnew : (Ls (d - 1))[i] ∉ M := fun hm => by
        obtain ⟨j, hj, h1, h2, _⟩ := (HBM.out _).1 hm
        exact hni (by rw [(List.getElem_inj v4).1 h2]; exact h1)
      obtain ⟨s, hs⟩ : ∃ s, (Ls (d - 1))[i] = s := ⟨_, rfl⟩
      rw [hs] at hsb hrun hent hnew hcs
      have hs1' : 0 ≤ s.1 ∧ s.1 ≤ 10000 := by omega
      have hs2' : 0 ≤ s.2 ∧ s.2 ≤ 10000 := by omega
      have HSB := Lib.hid hsb
      have HNEW := Lib.hid hnew
      clear hsb hsL hnew
      unfold keyV at hrun hent
      have mB2 : Below wr.heap.size wr W2 := bB.grown hg2 bB.size (fun j hj => by cases hj; omega)
      have e1' : Blk W2 w.heap.size 107 #[.int .i64 g.base, .slice Ab g.bands.length cb, .slice Ad g.depths.length cd, .int .i64 g.blo, .int .i64 g.bhi, .slice Ah h.length ch, .slice Ai l.length ci] := e1.below mB2 l1
      have e4' := e4.below mB2 l4
      have e7' := e7.below mB2 l7
      have ev' := ev.below mB2 lv
      have e11' : Blk W2 (wr.heap.size + 1) 122 #[.map (some wr.heap.size)] := b11.grown hg2 (by first | (simp; done) | (simp; omega))
      have em : IsMap W2 wr.heap.size M := bm.grown hg2 (by first | (simp; done) | (simp; omega))
      have emk : Marks W2 ds := bmk.grown hg2 (fun b hb => by cases hb; exact ⟨_, bit.1, fun x e => by cases e⟩)
      have a0 := e1'.cell 0
      have a1 := e1'.cell 1
      have a2 := e1'.cell 2
      have a3 := e1'.cell 3
      have a4 := e1'.cell 4
      have a5 := e1'.cell 5
      simp at a0 a1 a2 a3 a4 a5
      have f1 := e1'.lt
      have f7 := e7'.lt
      have c7 : W2.cell? ⟨b7, 0, none⟩ = some (.int .i64 (d : Int)) := e7'.cell 0
      have hle := bit.lt
      have HS2 := Lib.hid hsz2
      clear hsz2 s4 c11 hcd hfz
      go_wp2_with fail
      refine (next_any g _ _ _ _ _ _ _ h s _).mono ?_
      rintro e W3 ⟨rfl, hW3⟩
      have hB3 : Below W2.heap.size W2 W3 := by rw [hW3]; exact ex_alloc (ex_alloc (ex_alloc (ex_alloc (Below.refl _ _) _) _) _) _
      have n1' : Blk W3 (W2.heap.size + 1) 105 #[.int .i64 g.base, .slice Ab g.bands.length cb, .slice Ad g.depths.length cd, .int .i64 g.blo, .int .i64 g.bhi, .slice Ah h.length ch] := by rw [hW3]; exact ((Blk.new' _ _ _ (by simp)).alloc _).alloc _
      have n2' : Blk W3 (W2.heap.size + 1 + 1) 124 #[.int .i64 s.1, .int .i64 s.2] := by rw [hW3]; exact (Blk.new' _ _ _ (by simp)).alloc _
      have n3' : Blk W3 (W2.heap.size + 1 + 1 + 1) 3 #[.int .i64 ((d - 1 : Nat) : Int)] := by rw [hW3]; exact Blk.new' _ _ _ (by simp)
      have n12 : Blk W3 W2.heap.size 124 #[.int .i64 s.1, .int .i64 s.2] := by rw [hW3]; exact (((Blk.new _ _ _).alloc _).alloc _).alloc _
      have HW3 := Lib.hid hW3
      clear hW3
      go_wp2_with fail
      clear a0 a1 a2 a3 a4 a5 c7 hrun hent
      have l3 := hB3.size
      have w1 := e1'.below hB3 f1
      have w4 := e4'.below hB3 e4'.lt
      have w7 := e7'.below hB3 f7
      have wv := ev'.below hB3 ev'.lt
      have w11 := e11'.below hB3 e11'.lt
      have wm : IsMap W3 wr.heap.size M := em.below hB3
      have wmk : Marks W3 ds := emk.below hB3
      have wit : Iter W3 (wr.heap.size + 1 + 1) (mp (d - 1)) (Ls (d - 1)) (sn2 ++ [i]) := hit2.of_block (hB3.block _ hit2.lt)
      have wB : Below wr.heap.size wr W3 := mB2.trans (hB3.mono mB2.size)
      have hbwr : Below w.heap.size w wr := dB.grown mG dB.size (fun j hj => by have := Option.some.inj hj; omega)
      have hw3 := hbwr.trans (wB.mono hbwr.size)
      have hwsz := hw3.size
      have hgW : ∀ W, Below W3.heap.size W3 W → GlIn W W.heap.size g Ab Ad := fun W hW => (hg.below (hw3.trans (hW.mono hwsz))).up (Nat.le_trans hwsz hW.size)
      have hhW : ∀ W, Below W3.heap.size W3 W → SlAt W W.heap.size 2 Ah h.length (fR h) := fun W hW => (hh.below (hw3.trans (hW.mono hwsz))).up (Nat.le_trans hwsz hW.size)
      have hmlt := wm.lt
      have hIown : OwnFrom W3.heap.size (fun (pre : List (NextSt g h (d - 1) s)) W => W3.grownBy W none ∧ ∀ x ∈ pre, ¬ Goes g h l (fun _ => false) (h.length - d) d x.1) := by
        rintro pre A B row ⟨h1, h2⟩ hgr hr
        exact ⟨h1.andThen hgr (fun j hj => .inl (hr j hj).1), h2⟩
      have hXown : ∀ c : Code, OwnFrom W3.heap.size (fun (pre : List (NextSt g h (d - 1) s)) W => c = .exit 6 ∧ W3.grownBy W (some wr.heap.size) ∧ IsMap W wr.heap.size (M ++ [s]) ∧ ∃ t, t ∈ nextL g h (d - 1) s ∧ Goes g h l (fun _ => false) (h.length - d) d t) := by
        rintro c pre A B row ⟨h1, h2, h3, h4⟩ hgr hr
        exact ⟨h1, h2.andThen hgr (fun j hj => .inl (hr j hj).1), h3.grown hgr (fun e => by have := (hr _ e.symm).1; omega), h4⟩
      refine (wpIn_wide (n := 5)).1 (wpIn_rangeFunc_ownH (F := Fence.wide) (n := 5) rfl (by omega) (gf := 74) (lb := #[.pointer (some ⟨W2.heap.size + 1, 0, none⟩), .pointer (some ⟨W2.heap.size + 1 + 1 + 1, 0, none⟩), .pointer (some ⟨W2.heap.size + 1 + 1, 0, none⟩)]) rfl trivial (enters_of Try.func74 (by kernel_rfl) rfl)
        (encs := fun x : NextSt g h (d - 1) s => encSt x.1) (Kp := KeepsCells) (S := fun xs => xs.map (·.1) = nextL g h (d - 1) s) (Sp := fun _ => True) (N := (nextL g h (d - 1) s).length) (w0 := W3)
        (fun l J Jx W hW hJ hJx hY h0 => (next1_in 4 g Ab Ad Ah cb cd ch (d - 1) h s hok (by omega) hs1' hs2' l _ _ _ J Jx W (hgW W hW) (hhW W hW) hJ hJx (n1'.below hW n1'.lt) (n3'.below hW n3'.lt) (n2'.below hW n2'.lt) hY h0).mono
          (fun e W' hp => ⟨hp.1, hp.2.imp id (fun ⟨pre, hpre⟩ => ⟨pre, trivial, hpre⟩)⟩))
        (fun h k => h.trans k) (fun W l o o' _ hl ho _ => KeepsCells.putObj o' hl ho) (Below.refl _ _) (fun _ => rfl)
        (fun (pre : List (NextSt g h (d - 1) s)) W => W3.grownBy W none ∧ ∀ x ∈ pre, ¬ Goes g h l (fun _ => false) (h.length - d) d x.1)
        (fun c _ W => c = .exit 6 ∧ W3.grownBy W (some wr.heap.size) ∧ IsMap W wr.heap.size (M ++ [s]) ∧ ∃ t, t ∈ nextL g h (d - 1) s ∧ Goes g h l (fun _ => false) (h.length - d) d t) hIown hXown ⟨World.grownBy.refl W3 _, fun x hx => nomatch hx⟩
        (fun (x : NextSt g h (d - 1) s) a' W => ∃ (Bx : Nat), W3.heap.size ≤ Bx ∧ Blk W Bx 124 #[.int .i64 x.1.1, .int .i64 x.1.2] ∧ ∃ u : Nat → Value, a' = ⟨List.toArray (u 0 :: .pointer (some ⟨w.heap.size, 0, none⟩) :: .slice none 0 0 :: .bool false :: .pointer (some ⟨B, 0, none⟩) :: .int .i64 (h.length : Int) :: .slice (some ⟨B + 1, 0, none⟩) h.length h.length :: .pointer (some ⟨b7, 0, none⟩) :: u 8 :: u 9 :: u 10 :: .pointer (some ⟨wr.heap.size + 1, 0, none⟩) :: .pointer (some ⟨W2.heap.size, 0, none⟩) :: .pointer (some ⟨Bx, 0, none⟩) :: u 14 :: u 15 :: u 16 :: u 17 :: u 18 :: u 19 :: u 20 :: u 21 :: u 22 :: u 23 :: u 24 :: u 25 :: u 26 :: u 27 :: u 28 :: u 29 :: u 30 :: u 31 :: u 32 :: u 33 :: u 34 :: u 35 :: u 36 :: u 37 :: u 38 :: u 39 :: u 40 :: u 41 :: u 42 :: u 43 :: u 44 :: u 45 :: u 46 :: u 47 :: u 48 :: u 49 :: u 50 :: u 51 :: u 52 :: u 53 :: u 54 :: u 55 :: u 56 :: u 57 :: u 58 :: u 59 :: u 60 :: u 61 :: u 62 :: u 63 :: u 64 :: u 65 :: u 66 :: u 67 :: u 68 :: u 69 :: u 70 :: u 71 :: u 72 :: .pointer (some ⟨wr.heap.size + 1 + 1, 0, none⟩) :: u 74 :: u 75 :: u 76 :: u 77 :: u 78 :: u 79 :: u 80 :: u 81 :: u 82 :: u 83 :: u 84 :: u 85 :: u 86 :: u 87 :: u 88 :: u 89 :: u 90 :: u 91 :: u 92 :: u 93 :: u 94 :: u 95 :: u 96 :: u 97 :: u 98 :: u 99 :: []), []⟩)
        ?hAx ?assign ?body ?done ?stop)
      case hAx =>
        rintro x a' _ A B row ⟨Bx, h1, h2, h3⟩ hgr hr
        exact ⟨Bx, h1, h2.grown hgr (fun e => by obtain ⟨_, o, ho, hc⟩ := hr _ e.symm; rw [h2] at ho; cases ho; cases hc), h3⟩
      case assign =>
        rintro l' pre x W K hi hK
        unfold encSt
        gi_wp2
        exact hK _ _ ((KeepsOthers.alloc W _).from _) (KeepsCells.alloc W _) (hIown.alloc _ hi) ⟨W.heap.size, hi.1.size, Blk.new W _ _, exFrame (by kernel_rfl)⟩
      case body =>
        rintro l' pre x a' W hl' ⟨r', hr'⟩ ⟨hgr, hno⟩ ⟨Bx, hBx, bX, u3, rfl⟩ hlen
        clear hr' hIown hXown hhW hgW
        have wmd : IsMap W3 (mp d) (Ls d) := ((y2.grown mG (fun e => nM (Option.some.inj e))).of_block (mB2.block _ (by have := y2.lt; have := mG.size; omega))).below hB3
        have g4 := w4.grown hgr (by simp)
        have g7 := w7.grown hgr (by simp)
        have gV := wv.grown hgr (by simp)
        have g11 := w11.grown hgr (by simp)
        have g12 := n12.grown hgr (by simp)
        have gM := wm.grown hgr (by simp)
        have gD := wmd.grown hgr (by simp)
        have c4 : W.cell? ⟨B, 0, none⟩ = some (.slice (some ⟨gv, 0, none⟩) (h.length + 1) cap) := g4.cell 0
        have c7 : W.cell? ⟨b7, 0, none⟩ = some (.int .i64 (d : Int)) := g7.cell 0
        have cV := (gV.cell d).trans y1
        have c11 : W.cell? ⟨wr.heap.size + 1, 0, none⟩ = some (.map (some wr.heap.size)) := g11.cell 0
        have c12a : W.cell? ⟨W2.heap.size, 0, none⟩ = some (.int .i64 s.1) := g12.cell 0
        have c12b : W.cell? ⟨W2.heap.size, 1, none⟩ = some (.int .i64 s.2) := g12.cell 1
        have x0 : W.cell? ⟨Bx, 0, none⟩ = some (.int .i64 x.1.1) := bX.cell 0
        have x1 : W.cell? ⟨Bx, 1, none⟩ = some (.int .i64 x.1.2) := bX.cell 1
        have lt4 := g4.lt
        have lt7 := g7.lt
        have ltV := gV.lt
        have lt11 := g11.lt
        have lt12 := g12.lt
        have ltX := bX.lt
        have hlk := fun X : Ex W => run_lookup_st (gD.below X.h) x.1
        unfold keyV at hlk
        have HNO := Lib.hid hno
        clear hno
        by_cases hx : x.1 ∈ Ls d
        · have hlk' : ∀ X : Ex W, (Instr.lookup 122 (.map (some (mp d))) (.agg #[.int .i64 x.1.1, .int .i64 x.1.2]) false).run Try.prog X.W = .ok (.bool true) X.W := fun X => by rw [hlk X, decide_eq_true hx]
          clear hlk
          have HX : Hid (Goes g h l (fun _ => false) (h.length - d) d x.1) := Lib.hid (by have := (HY5.out x.1).1 hx; rwa [if_neg (by omega)] at this)
          clear hx
          gi_wp2_with fail
          refine wpIn_region_ext (by kernel_rfl) (by kernel_rfl) (by kernel_rfl) (by rintro ⟨_, _, hf⟩; exact hf) ?_
          repeat (any_goals (go_big_quiet_step (fail)))
          refine wpQuiet_nil ?_; intro _ hw'; obtain ⟨X, rfl⟩ := hw'
          have k1 : KeepsFrom W3.heap.size W X.W := ⟨X.h.size, fun j oo _ hj _ => (X.h.block j (Array.getElem?_eq_some_iff.1 hj).1).trans hj⟩
          have k3 : W3.grownBy X.W none := hgr.andThen (grown_of_below X.h) (fun j hj => by cases hj)
          have k4 := gM.below X.h
          have hup := run_update_st k4 s HNEW.out
          unfold keyV at hup
          have hpu := grownBy_putObj' X.W wr.heap.size (.map (mkEs (M ++ [s])) (M ++ [s]).length)
          have hmp : IsMap (X.W.putObj wr.heap.size (.map (mkEs (M ++ [s])) (M ++ [s]).length)) wr.heap.size (M ++ [s]) := World.putObj_heap_same k4.lt
          have tt11 : wr.heap.size + 1 < W.heap.size := lt11
          have tt12 : W2.heap.size < W.heap.size := lt12
          generalize X.W.putObj wr.heap.size (.map (mkEs (M ++ [s])) (M ++ [s]).length) = W5 at *
          gi_wp2
          refine ⟨k1.trans (KeepsFrom.of_grownBy hpu (fun j e => by cases e; omega)), rfl, (grown_some k3).andThen hpu (fun j hj => .inr hj), hmp, x.1, x.2, HX.out⟩
        · have hlk' : ∀ X : Ex W, (Instr.lookup 122 (.map (some (mp d))) (.agg #[.int .i64 x.1.1, .int .i64 x.1.2]) false).run Try.prog X.W = .ok (.bool false) X.W := fun X => by rw [hlk X, decide_eq_false hx]
          clear hlk
          have HX : Hid (¬ Goes g h l (fun _ => false) (h.length - d) d x.1) := Lib.hid (fun hg => hx ((HY5.out x.1).2 (by rw [if_neg (by omega)]; exact hg)))
          clear hx
          gi_wp2_with fail
          refine wpIn_region_ext (by kernel_rfl) (by kernel_rfl) (by kernel_rfl) (by rintro ⟨_, _, hf⟩; exact hf) ?_
          repeat (any_goals (go_big_quiet_step (fail)))
          refine wpQuiet_nil ?_; intro _ hw'; obtain ⟨X, rfl⟩ := hw'
          gi_wp2
          have k1 : KeepsFrom W3.heap.size W X.W := ⟨X.h.size, fun j oo _ hj _ => (X.h.block j (Array.getElem?_eq_some_iff.1 hj).1).trans hj⟩
          exact ⟨k1, KeepsCells.below X.h, hgr.andThen (grown_of_below X.h) (fun j hj => by cases hj), fun y hy => by
            rcases List.mem_append.1 hy with hy | hy
            · exact HNO.out y hy
            · rw [List.mem_singleton.1 hy]; exact HX.out⟩
      case done =>
        rintro D xs W hD hxs ⟨hgr, hno⟩ hDd
        have hB' : ZB g h l w wr d (mp (d - 1)) (Ls (d - 1)) (sn2 ++ [i]) M ({ target := .collected D, args := #[] } :: ds) W :=
          { bw := wB.grown hgr wB.size (fun j hj => by cases hj)
            it := wit.of_block (hgr.block _ wit.lt (by simp))
            m := wm.grown hgr (by simp)
            nd := bnd
            mem := fun t => by
              rw [HBM.out]
              constructor
              · rintro ⟨j, hj, h1, h2⟩; exact ⟨j, hj, by simp [h1], h2⟩
              · rintro ⟨j, hj, h1, h2, t', h3, h4⟩
                rcases List.mem_append.1 h1 with h1 | h1
                · exact ⟨j, hj, h1, h2, t', h3, h4⟩
                · obtain rfl := List.mem_singleton.1 h1
                  rw [hs, ← hxs] at h3
                  obtain ⟨y, hy, rfl⟩ := List.mem_map.1 h3
                  exact absurd h4 (hno y hy)
            q11 := w11.grown hgr (by simp)
            mks := wmk.new (fun D' hD' => (hgr.block D' (Array.getElem?_eq_some_iff.1 hD').1 (by simp)).trans hD') hD hDd
            mb := fun e he D' hD' => by
              rcases List.mem_cons.1 he with rfl | he
              · injection hD' with hD'; omega
              · exact bmb e he D' hD' }
        refine ⟨⟨_, sn2 ++ [i], M, hB', exFrame (by kernel_rfl)⟩, ?_⟩
        show itLeft _ _ _ < itLeft _ _ _
        rw [itLeft_eq hB'.it, itLeft_eq bit]
        exact leftN_lt hiL hni
      case stop =>
        rintro D c pre W hD _ ⟨rfl, hgr, hm', t, ht, hgo⟩ hDd
        have hB' : ZB g h l w wr d (mp (d - 1)) (Ls (d - 1)) (sn2 ++ [i]) (M ++ [s]) ({ target := .collected D, args := #[] } :: ds) W :=
          { bw := wB.grown hgr wB.size (fun j hj => by cases hj; exact Nat.le_refl _)
            it := wit.of_block (hgr.block _ wit.lt (by first | (simp; done) | (simp; omega)))
            m := hm'
            nd := List.nodup_append.2 ⟨bnd, by simp, fun a ha b hb => by rintro rfl; rw [List.mem_singleton.1 hb] at ha; exact HNEW.out ha⟩
            mem := fun t' => by
              rw [List.mem_append, HBM.out]
              constructor
              · rintro (⟨j, hj, h1, h2⟩ | h1)
                · exact ⟨j, hj, by simp [h1], h2⟩
                · rw [List.mem_singleton.1 h1]
                  exact ⟨i, hiL, by simp, hs.symm, t, by rw [hs]; exact ht, hgo⟩
              · rintro ⟨j, hj, h1, h2, h3⟩
                rcases List.mem_append.1 h1 with h1 | h1
                · exact .inl ⟨j, hj, h1, h2, h3⟩
                · obtain rfl := List.mem_singleton.1 h1
                  exact .inr (by rw [h2, hs]; simp)
            q11 := w11.grown hgr (by first | (simp; done) | (simp; omega))
            mks := wmk.new (fun D' hD' => (hgr.block D' (Array.getElem?_eq_some_iff.1 hD').1 (fun e => by
              have e' := Option.some.inj e
              subst e'
              have h2 : W3.heap[wr.heap.size]? = some (.map (mkEs M) M.length) := wm
              rw [h2] at hD'; cases hD')).trans hD') hD hDd
            mb := fun e he D' hD' => by
              rcases List.mem_cons.1 he with rfl | he
              · injection hD' with hD'; omega
              · exact bmb e he D' hD' }
        gi_wp2
        refine ⟨⟨_, sn2 ++ [i], M ++ [s], hB', exFrame (by kernel_rfl)⟩, ?_⟩
        rw [itLeft_eq hB'.it, itLeft_eq bit]
        exact leftN_lt hiL hni
  · -- A STATE HAS COME
    have hsL : (Ls d)[i] ∈ Ls d := List.getElem_mem _
    have hsb : 0 ≤ (Ls d)[i].1 ∧ (Ls d)[i].1 ≤ 3 * d ∧ 0 ≤ (Ls d)[i].2 ∧ (Ls d)[i].2 ≤ 30 := by
      have hx := (y5 _).1 hsL
      rw [if_neg (by omega)] at hx
      exact Can.bd hok hx.can
    obtain ⟨s, hs⟩ : ∃ s, (Ls d)[i] = s := ⟨_, rfl⟩
    rw [hs] at hsb hrun hent
    have r1 : 0 ≤ s.1 ∧ s.1 ≤ 100000 := by omega
    have r2 : 0 ≤ s.2 ∧ s.2 ≤ 100000 := by omega
    have hgb : -100000 ≤ g.base ∧ g.base ≤ 100000 := by have := hok.base; omega
    unfold keyV at hrun hent
    have hK2 : Wk.heap.size ≤ W2.heap.size := by have := mG.size; omega
    have mG2 : ∀ {k : Nat}, k < Wk.heap.size → k ≠ B + 1 → W2.heap[k]? = Wk.heap[k]? := fun {k} h1 h2 =>
      (hg2.block k (by have := mG.size; omega) (fun e => by cases e; omega)).trans (mG.block k h1 (fun e => by cases e; exact h2 rfl))
    have e1 : Blk W2 w.heap.size 107 #[.int .i64 g.base, .slice Ab g.bands.length cb, .slice Ad g.depths.length cd, .int .i64 g.blo, .int .i64 g.bhi, .slice Ah h.length ch, .slice Ai l.length ci] := (mG2 dq1.lt n1).trans dq1
    have e7 : Blk W2 b7 3 #[.int .i64 (d : Int)] := (mG2 dq7.lt n7).trans dq7
    have e37 : Blk W2 (B + 1) 23 oc' := m37.grown hg2 (fun e => by have := Option.some.inj e; have := doc.lt; omega)
    have a0 := e1.cell 0
    have a1 := e1.cell 1
    have a2 := e1.cell 2
    have a3 := e1.cell 3
    have a4 := e1.cell 4
    have f1 := e1.lt
    have f7 := e7.lt
    have f37 := e37.lt
    have c7 : W2.cell? ⟨b7, 0, none⟩ = some (.int .i64 (d : Int)) := e7.cell 0
    simp at a0 a1 a2 a3 a4
    have hle := mit.lt
    have HS2 := Lib.hid hsz2
    have HEND := Lib.hid mEnd
    have H39 := Lib.hid m39
    clear hsz2 mEnd m39
    have hdn1 : ((d - 1 : Nat) : Int) < (h.length : Int) := by omega
    have hdn0 : (0 : Int) ≤ ((d - 1 : Nat) : Int) := by omega
    have hsz37 : oc'.size = h.length * 2 := by rw [m38, dsz]
    cases f
    · have hsn : sn ≠ [] := fun e => by have := mff.2 e; cases this
      clear mff
      obtain ⟨x, y, hx, hy, hxy⟩ := HEND.out hsn
      go_wp2_with (go_at_call 62
                   refine (zero_any _ _ _ _ _ _ _ _ hgb r1 r2).mono ?_
                   rintro e W3 ⟨rfl, hb3⟩)
      have hb3' : Below W2.heap.size W2 W3 := ((Below.refl _ _).alloc (Nat.le_refl _) _).trans (hb3.mono (by simp))
      have k7 := (e7.below hb3' f7)
      have k37 := (e37.below hb3' f37)
      have c7 : W3.cell? ⟨b7, 0, none⟩ = some (.int .i64 (d : Int)) := k7.cell 0
      have cx := (k37.cell _).trans hx
      have cy := (k37.cell _).trans hy
      have lt7 := k7.lt
      have lt37 := k37.lt
      refine wp_region_ext_tail 11 (by kernel_rfl) (by kernel_rfl) ?_
      simp only [List.take_succ_cons, List.take_zero, List.drop_succ_cons, List.drop_zero]
      repeat (any_goals (first | go_big_quiet_step ((first
        | (go_at_call 63; exact Calls.ext_of (wide_any _ _ _ _))))))
      refine wpQuiet_nil ?_; intro _ hw'; obtain ⟨X, rfl⟩ := hw'
      have x37 := k37.below X.h lt37
      have cx := (x37.cell _).trans hx
      have cy := (x37.cell _).trans hy
      have fx := x37.frozen ((d - 1) * 2)
      have fy := x37.frozen ((d - 1) * 2 + 1)
      go_wp2
      have hG2 : Wk.grownBy W2 (some (B + 1)) := mG.andThen hg2 (fun j hj => .inl (by cases hj; exact Nat.le_refl _))
      have hW : W2.grownBy ((X.W.setCell ⟨B + 1, (d - 1) * 2, none⟩ (.int .i64 (min x (g.base + s.1 - s.2)))).setCell ⟨B + 1, (d - 1) * 2 + 1, none⟩ (.int .i64 (max y (g.base + s.1 - s.2)))) (some (B + 1)) :=
        (((grown_row hb3').andThen (grown_row X.h) (fun j hj => .inr hj)).andThen (grown_set _ _ _ _) (fun j hj => .inr hj)).andThen (grown_set _ _ _ _) (fun j hj => .inr hj)
      have hit5 := hit2.of_block (hW.block _ hit2.lt (fun e => by have := Option.some.inj e; have := doc.lt; omega))
      have hA' : ZA g Wk B d (mp d) (Ls d) oc false (sn ++ [i]) ((X.W.setCell ⟨B + 1, (d - 1) * 2, none⟩ (.int .i64 (min x (g.base + s.1 - s.2)))).setCell ⟨B + 1, (d - 1) * 2 + 1, none⟩ (.int .i64 (max y (g.base + s.1 - s.2)))) :=
        { gB := hG2.andThen hW (fun j hj => .inr hj)
          it := hit5
          ff := by simp
          out := ⟨_, (x37.set_ _ _).set_ _ _, by simp [m38], fun j h1 h2 => by rw [← H39.out j h1 h2]; simp [Array.getElem?_setIfInBounds, Ne.symm h1, Ne.symm h2], fun _ => ⟨_, _, by
            rw [Array.getElem?_setIfInBounds, if_neg (by omega), Array.getElem?_setIfInBounds, if_pos rfl, if_pos (by omega)], by
            rw [Array.getElem?_setIfInBounds, if_pos rfl, if_pos (by simp; omega)], (ends_snoc hxy).congr (fun z => by rw [← hs, show g.base + (Ls d)[i].1 - (Ls d)[i].2 = zero g (Ls d)[i] from rfl]; exact ends_step hiL z)⟩⟩ }
      refine ⟨⟨false, sn ++ [i], hA', exFrame (by kernel_rfl)⟩, ?_⟩
      show itLeft _ _ _ < itLeft _ _ _
      rw [itLeft_eq hit5, itLeft_eq mit]
      exact leftN_lt hiL hni
    · have hsn : sn = [] := mff.1 rfl
      clear mff
      have hbr2 := run_build_range
      obtain ⟨vx, hvx⟩ : ∃ v, oc'[(d - 1) * 2]? = some v := ⟨_, Array.getElem?_eq_getElem (by omega)⟩
      obtain ⟨vy, hvy⟩ : ∃ v, oc'[(d - 1) * 2 + 1]? = some v := ⟨_, Array.getElem?_eq_getElem (by omega)⟩
      go_wp2_with (go_at_call 62
                   refine (zero_any _ _ _ _ _ _ _ _ hgb r1 r2).mono ?_
                   rintro e W3 ⟨rfl, hb3⟩
                   generalize hz : g.base + s.1 - s.2 = z
                   have hb3' : Below W2.heap.size W2 W3 := ((Below.refl _ _).alloc (Nat.le_refl _) _).trans (hb3.mono (by simp))
                   have k7 := (e7.below hb3' f7)
                   have k37 := (e37.below hb3' f37)
                   have c7 : W3.cell? ⟨b7, 0, none⟩ = some (.int .i64 (d : Int)) := k7.cell 0
                   have cx := (k37.cell ((d - 1) * 2)).trans hvx
                   have cy := (k37.cell ((d - 1) * 2 + 1)).trans hvy
                   have fx := k37.frozen ((d - 1) * 2)
                   have fy := k37.frozen ((d - 1) * 2 + 1)
                   have lt7 := k7.lt
                   have lt37 := k37.lt)
      have w37 : Blk ((W3.setCell ⟨B + 1, (d - 1) * 2, none⟩ (.int .i64 z)).setCell ⟨B + 1, (d - 1) * 2 + 1, none⟩ (.int .i64 z)) (B + 1) 23 _ := (k37.set_ _ _).set_ _ _
      have w7 : Blk ((W3.setCell ⟨B + 1, (d - 1) * 2, none⟩ (.int .i64 z)).setCell ⟨B + 1, (d - 1) * 2 + 1, none⟩ (.int .i64 z)) b7 3 _ := (k7.far (p := ⟨B + 1, (d - 1) * 2, none⟩) (by simpa using n7) _).far (p := ⟨B + 1, (d - 1) * 2 + 1, none⟩) (by simpa using n7) _
      have hW4 : W3.grownBy ((W3.setCell ⟨B + 1, (d - 1) * 2, none⟩ (.int .i64 z)).setCell ⟨B + 1, (d - 1) * 2 + 1, none⟩ (.int .i64 z)) (some (B + 1)) := (grown_set _ _ _ _).andThen (grown_set _ _ _ _) (fun j hj => .inr hj)
      clear c7 cx cy fx fy lt7 lt37
      generalize ((W3.setCell ⟨B + 1, (d - 1) * 2, none⟩ (.int .i64 z)).setCell ⟨B + 1, (d - 1) * 2 + 1, none⟩ (.int .i64 z)) = W4 at *
      have c7 : W4.cell? ⟨b7, 0, none⟩ = some (.int .i64 (d : Int)) := w7.cell 0
      have hx : ((oc'.setIfInBounds ((d - 1) * 2) (.int .i64 z)).setIfInBounds ((d - 1) * 2 + 1) (.int .i64 z))[(d - 1) * 2]? = some (.int .i64 z) := by
        rw [Array.getElem?_setIfInBounds, if_neg (by omega), Array.getElem?_setIfInBounds, if_pos rfl, if_pos (by omega)]
      have hy : ((oc'.setIfInBounds ((d - 1) * 2) (.int .i64 z)).setIfInBounds ((d - 1) * 2 + 1) (.int .i64 z))[(d - 1) * 2 + 1]? = some (.int .i64 z) := by
        rw [Array.getElem?_setIfInBounds, if_pos rfl, if_pos (by simp; omega)]
      have cx := (w37.cell _).trans hx
      have cy := (w37.cell _).trans hy
      have lt7 := w7.lt
      have lt37 := w37.lt
      refine wp_region_ext_tail 11 (by kernel_rfl) (by kernel_rfl) ?_
      simp only [List.take_succ_cons, List.take_zero, List.drop_succ_cons, List.drop_zero]
      repeat (any_goals (first | go_big_quiet_step ((first
        | (go_at_call 63; exact Calls.ext_of (wide_any _ _ _ _))))))
      refine wpQuiet_nil ?_; intro _ hw'; obtain ⟨X, rfl⟩ := hw'
      have x37 := w37.below X.h lt37
      have cx := (x37.cell _).trans hx
      have cy := (x37.cell _).trans hy
      have fx := x37.frozen ((d - 1) * 2)
      have fy := x37.frozen ((d - 1) * 2 + 1)
      go_wp2
      have hG2 : Wk.grownBy W2 (some (B + 1)) := mG.andThen hg2 (fun j hj => .inl (by cases hj; exact Nat.le_refl _))
      have hW : W2.grownBy ((X.W.setCell ⟨B + 1, (d - 1) * 2, none⟩ (.int .i64 z)).setCell ⟨B + 1, (d - 1) * 2 + 1, none⟩ (.int .i64 z)) (some (B + 1)) :=
        ((((grown_row hb3').andThen hW4 (fun j hj => .inr hj)).andThen (grown_row X.h) (fun j hj => .inr hj)).andThen (grown_set _ _ _ _) (fun j hj => .inr hj)).andThen (grown_set _ _ _ _) (fun j hj => .inr hj)
      have hit5 := hit2.of_block (hW.block _ hit2.lt (fun e => by have := Option.some.inj e; have := doc.lt; omega))
      have hA' : ZA g Wk B d (mp d) (Ls d) oc false (sn ++ [i]) ((X.W.setCell ⟨B + 1, (d - 1) * 2, none⟩ (.int .i64 z)).setCell ⟨B + 1, (d - 1) * 2 + 1, none⟩ (.int .i64 z)) :=
        { gB := hG2.andThen hW (fun j hj => .inr hj)
          it := hit5
          ff := by simp
          out := ⟨_, (x37.set_ _ _).set_ _ _, by simp [m38], fun j h1 h2 => by rw [← H39.out j h1 h2]; simp [Array.getElem?_setIfInBounds, Ne.symm h1, Ne.symm h2], fun _ => ⟨z, z, by
            rw [Array.getElem?_setIfInBounds, if_neg (by omega), Array.getElem?_setIfInBounds, if_pos rfl, if_pos (by simp; omega)], by
            rw [Array.getElem?_setIfInBounds, if_pos rfl, if_pos (by simp; omega)], by
            rw [hsn, ← hz, ← hs, show g.base + (Ls d)[i].1 - (Ls d)[i].2 = zero g (Ls d)[i] from rfl]
            exact ⟨⟨i, hiL, by simp, rfl⟩, ⟨i, hiL, by simp, rfl⟩, fun z ⟨j, hj, h1, h2⟩ => by
              have : j = i := by simpa using h1
              subst this; rw [h2]; exact ⟨Int.le_refl _, Int.le_refl _⟩⟩⟩⟩ }
      refine ⟨⟨false, sn ++ [i], hA', exFrame (by kernel_rfl)⟩, ?_⟩
      show itLeft _ _ _ < itLeft _ _ _
      rw [itLeft_eq hit5, itLeft_eq mit]
      exact leftN_lt hiL hni

end Go.Proofs.Ytkaogjhnogkcdaa
end

section
namespace Go.Proofs.Ytkaogjhnogkcdaa
open Go.RowKit

theorem iced_bd {g : Gl} {h : List Rg} {l : List Ic} (hl : iced g h l = 0) : IcesBd l := by
  intro k hk
  have := allTo_iff.1 (iced_all hl) k hk
  unfold iceOk at this
  simp only [Bool.and_eq_true, inB_iff] at this
  omega
theorem ok_of_iced {g : Gl} {h : List Rg} {l : List Ic} (hl : iced g h l = 0) : Ok g h := ok_of_lived (iced_lived hl)

abbrev off0 : Nat → Bool := fun _ => false

set_option maxHeartbeats 800000 in
theorem Zeros_bad (g : Gl) (Ab Ad Ah Ai : Option Addr) (cb cd ch ci : Nat) (h : List Rg) (l : List Ic) (w : World) (hg : GlIn w w.heap.size g Ab Ad) (hh : SlAt w w.heap.size 2 Ah h.length (fR h)) (hi : SlAt w w.heap.size 3 Ai l.length (fC l)) (hne : iced g h l ≠ 0) :
    Calls Try.prog 38 #[.agg #[.int .i64 g.base, .slice Ab g.bands.length cb, .slice Ad g.depths.length cd, .int .i64 g.blo, .int .i64 g.bhi], .slice Ah h.length ch, .slice Ai l.length ci] w fun e w' => e = .returned (.tuple #[.slice none 0 0, .int .i64 (iced g h l)]) ∧ Below w.heap.size w w' := by
  have hb1 := ex_alloc (Below.refl w.heap.size w) (.cells #[.int .i64 g.base, .slice Ab g.bands.length cb, .slice Ad g.depths.length cd, .int .i64 g.blo, .int .i64 g.bhi] 30)
  have HNE := Lib.hid hne
  have hcb : (iced g h l == 0) = false := by simpa using hne
  have hcb' : (iced g h l != 0) = true := by simpa using hne
  clear hne
  go_enter Try.func38, Try.ntmps38
  go_wp2_with fail
  refine (iced_no g _ _ _ _ _ _ _ _ h l _ ((hg.below hb1).up hb1.size) ((hh.below hb1).up hb1.size) ((hi.below hb1).up hb1.size) HNE.out).mono ?_
  rintro e w2 ⟨rfl, hb2⟩
  go_wp2
  go_ret2
  exact ⟨rfl, ex_alloc (ex_trans hb1 hb2) _⟩

set_option maxHeartbeats 800000 in
theorem Zeros_good (g : Gl) (Ab Ad Ah Ai : Option Addr) (cb cd ch ci : Nat) (h : List Rg) (l : List Ic) (w : World) (hg : GlIn w w.heap.size g Ab Ad) (hh : SlAt w w.heap.size 2 Ah h.length (fR h)) (hi : SlAt w w.heap.size 3 Ai l.length (fC l)) (heq : iced g h l = 0) :
    Calls Try.prog 38 #[.agg #[.int .i64 g.base, .slice Ab g.bands.length cb, .slice Ad g.depths.length cd, .int .i64 g.blo, .int .i64 g.bhi], .slice Ah h.length ch, .slice Ai l.length ci] w fun e w' =>
      ((¬ ∃ s, Can g h l (fun _ => false) h.length s) ∧ e = .returned (.tuple #[.slice none 0 0, .int .i64 9]) ∨
       (∃ s, Can g h l (fun _ => false) h.length s) ∧ ∃ go, ∃ oc : Array Value, e = .returned (.tuple #[.slice (some ⟨go, 0, none⟩) h.length h.length, .int .i64 0]) ∧ w.heap.size ≤ go ∧ Blk w' go 23 oc ∧ oc.size = h.length * 2 ∧
         ∀ i, i < h.length → ∃ a b : Int, oc[2 * i]? = some (.int .i64 a) ∧ oc[2 * i + 1]? = some (.int .i64 b) ∧ EndsOf (fun z => ∃ s, Goes g h l (fun _ => false) (h.length - 1 - i) (i + 1) s ∧ z = zero g s) a b) ∧ Below w.heap.size w w' := by
  have hb1 := ex_alloc (Below.refl w.heap.size w) (.cells #[.int .i64 g.base, .slice Ab g.bands.length cb, .slice Ad g.depths.length cd, .int .i64 g.blo, .int .i64 g.bhi] 30)
  have HE := Lib.hid heq
  clear heq
  go_enter Try.func38, Try.ntmps38
  go_wp2_with fail
  refine (iced_ok g _ _ _ _ _ _ _ _ h l _ ((hg.below hb1).up hb1.size) ((hh.below hb1).up hb1.size) ((hi.below hb1).up hb1.size) HE.out).mono ?_
  rintro e w2 ⟨rfl, hb2⟩
  have hb3 := ex_alloc (ex_trans hb1 hb2) (.cells #[.int .i64 g.base, .slice Ab g.bands.length cb, .slice Ad g.depths.length cd, .int .i64 g.blo, .int .i64 g.bhi, .slice Ah h.length ch, .slice Ai l.length ci] 107)
  go_wp2_with fail
  refine (zeros_any g _ _ _ _ _ _ _ _ h l _ ((hg.below hb3).up hb3.size) ((hh.below hb3).up hb3.size) ((hi.below hb3).up hb3.size) (ok_of_iced HE.out) (iced_len HE.out) (iced_bd HE.out)).mono ?_
  rintro e w4 ⟨⟨hno, rfl⟩ | ⟨hyes, go, oc, rfl, hgo, hblk, hsz, hends⟩, hb4⟩
  · go_wp2
    go_ret2
    exact ⟨.inl ⟨hno, rfl⟩, ex_trans hb3 hb4⟩
  · have H1 := Lib.hid hsz
    have H2 := Lib.hid hends
    clear hsz hends
    go_wp2
    go_ret2
    exact ⟨.inr ⟨hyes, go, oc, rfl, Nat.le_trans hb3.size hgo, hblk, H1.out, H2.out⟩, ex_trans hb3 hb4⟩

end Go.Proofs.Ytkaogjhnogkcdaa
end

section
namespace Go.Proofs.Ytkaogjhnogkcdaa
open Go.RowKit

theorem gC_take {l : List Ic} {k j : Nat} (h : j < k) : gC (l.take k) j = gC l j := by
 unfold gC; simp [List.getD_eq_getElem?_getD, List.getElem?_take, h]
theorem SlAt.take {w : World} {B : Nat} {A : Option Addr} {l : List Ic} {k : Nat} (h : SlAt w B 3 A l.length (fC l)) (hk : k ≤ l.length) : SlAt w B 3 A (l.take k).length (fC (l.take k)) := by
 have hl : (l.take k).length = k := by rw [List.length_take]; omega
 rw [hl]
 intro h0
 obtain ⟨b, off, e, hb, hc⟩ := h (by omega)
 refine ⟨b, off, e, hb, fun i j hi hj => ?_⟩
 rw [hc i j (by omega) hj]
 unfold fC
 rw [gC_take hi]
def ShowsIs (A : Nat → Bool) (n : Nat) (e : Ending) : Prop :=
 (∃ k, k < n ∧ (∀ j, j < k → A j = true) ∧ A k = false ∧ e = .returned (.tuple #[.int .i64 (k : Int), .int .i64 0])) ∨ ((∀ j, j < n → A j = true) ∧ e = .returned (.tuple #[.int .i64 0, .int .i64 7]))

end Go.Proofs.Ytkaogjhnogkcdaa
end

section
namespace Go.Proofs.Ytkaogjhnogkcdaa

def ins (t : St) (L : List St) : List St := if t ∈ L then L else t :: L
def insAll : List St → List St → List St
 | [], L => L
 | t :: ts, L => insAll ts (ins t L)
theorem mem_ins {t s : St} {L : List St} : s ∈ ins t L ↔ s = t ∨ s ∈ L := by
 unfold ins
 by_cases h : t ∈ L
 ·
  rw [if_pos h]
  constructor
  ·
   exact .inr
  ·
   rintro (rfl | h')
   ·
    exact h
   ·
    exact h'
 ·
  rw [if_neg h]; exact List.mem_cons
theorem mem_insAll {s : St} : ∀ {ts L : List St}, s ∈ insAll ts L ↔ s ∈ ts ∨ s ∈ L
 | [], L => by simp [insAll]
 | t :: ts, L => by
  rw [insAll, mem_insAll, mem_ins, List.mem_cons]
  constructor
  ·
   rintro (h | rfl | h)
   ·
    exact .inl (.inr h)
   ·
    exact .inl (.inl rfl)
   ·
    exact .inr h
  ·
   rintro ((rfl | h) | h)
   ·
    exact .inr (.inl rfl)
   ·
    exact .inl h
   ·
    exact .inr (.inr h)
def stepAll (g : Gl) (h : List Rg) (l : List Ic) (o : Nat → Bool) (d : Nat) : List St → List St → List St
 | [], acc => acc
 | s :: L, acc => stepAll g h l o d L (insAll ((nextL g h d s).filter fun t => fitsB l o (d : Int) (zero g t)) acc)
theorem mem_stepAll {g : Gl} {h : List Rg} {l : List Ic} {o : Nat → Bool} {d : Nat} {t : St} : ∀ {L acc : List St},
  t ∈ stepAll g h l o d L acc ↔ (∃ s, s ∈ L ∧ t ∈ nextL g h d s ∧ fitsB l o (d : Int) (zero g t) = true) ∨ t ∈ acc
 | [], acc => by simp [stepAll]
 | s :: L, acc => by
  rw [stepAll, mem_stepAll, mem_insAll, List.mem_filter]
  constructor
  ·
   rintro (⟨s', h1, h2⟩ | h1 | h1)
   ·
    exact .inl ⟨s', by simp [h1], h2⟩
   ·
    exact .inl ⟨s, by simp, h1⟩
   ·
    exact .inr h1
  ·
   rintro (⟨s', h1, h2⟩ | h1)
   ·
    rcases List.mem_cons.1 h1 with rfl | h1
    ·
     exact .inr (.inl h2)
    ·
     exact .inl ⟨s', h1, h2⟩
   ·
    exact .inr (.inr h1)
def canL (g : Gl) (h : List Rg) (l : List Ic) (o : Nat → Bool) : Nat → List St
 | 0 => [(0, 0)]
 | d + 1 => stepAll g h l o d (canL g h l o d) []
theorem mem_canL {g : Gl} {h : List Rg} {l : List Ic} {o : Nat → Bool} : ∀ {d : Nat} {t : St}, t ∈ canL g h l o d ↔ Can g h l o d t
 | 0, t => by simp [canL, Can]
 | d + 1, t => by
  rw [canL, mem_stepAll, Can]
  constructor
  ·
   rintro (⟨s, h1, h2⟩ | h1)
   ·
    exact ⟨s, mem_canL.1 h1, h2⟩
   ·
    cases h1
  ·
   rintro ⟨s, h1, h2⟩
   exact .inl ⟨s, mem_canL.2 h1, h2⟩
def agreeC (g : Gl) (h : List Rg) (l : List Ic) (o : Nat → Bool) : Bool := !(canL g h l o h.length).isEmpty
open Classical in
theorem agreeB_eq (g : Gl) (h : List Rg) (l : List Ic) (o : Nat → Bool) : agreeB g h l o = agreeC g h l o := by
 unfold agreeB agreeC
 cases hc : canL g h l o h.length with
 | nil =>
  simp only [List.isEmpty_nil, Bool.not_true]
  refine decide_eq_false ?_
  rintro ⟨s, hs⟩
  have := mem_canL.2 hs
  rw [hc] at this; cases this
 | cons s L =>
  simp only [List.isEmpty_cons, Bool.not_false]
  exact decide_eq_true ⟨s, mem_canL.1 (by rw [hc]; simp)⟩
open Classical in
theorem agreeB_iff {g : Gl} {h : List Rg} {l : List Ic} {o : Nat → Bool} : agreeB g h l o = true ↔ ∃ s, Can g h l o h.length s := by
 unfold agreeB; exact decide_eq_true_iff

end Go.Proofs.Ytkaogjhnogkcdaa
end
