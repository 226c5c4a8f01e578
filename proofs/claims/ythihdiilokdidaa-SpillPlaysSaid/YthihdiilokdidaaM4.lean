/- Spill: how few do some hours (walk). · Spill: truths and books as they come (plain), and how they lie. · The library's Clone at []int (the shelf's contracts, laid at this dump). · Spill: moves and weighings that may be; all of a list; CheckWorks (walks). -/
import Derived.Ground.Names2Prog
import Derived.Shelf.Slices.Clone
import Derived.Shelf.Slices.Cells
import Derived.Test.YthihdiilokdidaaM3
import Derived.Test.YthihdiilokdidaaM2
import Derived.Test.YthihdiilokdidaaProg
set_option linter.unusedVariables false
set_option linter.unusedSimpArgs false
set_option linter.unusedSectionVars false
section
namespace Go.Proofs.Ythihdiilokdidaa
open Go.RowKit
attribute [local go_sem] Ex.cell? Ex.frozen?

def keyV (v : V3) : Value := .agg (v3C v)
theorem keyV_ok : KeyOk 136 keyV where
  eq := fun s u w => by
    rw [show keyV s = .agg (v3C s) from rfl, show keyV u = .agg (v3C u) from rfl, eq_v3]
    by_cases h : s = u
    · simp [h]
    · simp [h]
  check := fun em s w => by
    have hr : List.range' 0 3 = [0, 1, 2] := rfl
    have hc : ∀ (n : Nat) (x : Int) (w : World), (Instr.checkKey em (n + 1) 3 (.int .i64 x)).run Try.prog w = .ok () w := fun n x w => by
      rw [Instr.checkKey]
      simp [go_sem, run_underlying Try.underlying3]
    show (Instr.checkKey em (9999 + 1) 136 (keyV s)).run Try.prog w = _
    rw [Instr.checkKey]
    unfold keyV v3C
    simp only [Sem.run_bind, run_underlying Try.underlying136, Result.andThen_ok]
    have hc' := fun x w => hc 9998 x w
    simp [go_sem, hr, List.forIn_cons, hc']
  und := ⟨_, Try.underlying136, fun s e es i => by simp [Instr.findNow, Instr.sameNow, keyV, v3C]⟩
theorem keyV_fd : KeyFd 136 keyV := KeyFd.of keyV_ok (fun s w => by simp [Instr.keyThatStays, Instr.sameBits, keyV, v3C])
/-- a plan in memory. -/
def plV (x : Nat × V3) : Value := .agg #[.int .i64 (x.1 : Int), .int .i64 x.2.a, .int .i64 x.2.b, .int .i64 x.2.c]
theorem plan_info : (Try.prog.info? 139).map (fun i => (i.zero, i.size, i.bytes)) = some (some (.agg #[.int .i64 0, .int .i64 0, .int .i64 0, .int .i64 0]), 4, 32) := by kernel_rfl
/-- what is known is right. -/
def KOk (t : Tm) (F : V3 → Option (Nat × V3)) : Prop := ∀ l x, F l = some x → PlanIs t l x.1 x.2
theorem KOk.put {t : Tm} {F : V3 → Option (Nat × V3)} (h : KOk t F) {l : V3} {m : Nat} {own : V3} (hp : PlanIs t l m own) : KOk t (fun x => if x = l then some (m, own) else F x) := fun k x hk => by
  dsimp only at hk
  split at hk
  · rename_i e; subst e; injection hk with hk; subst hk; exact hp
  · exact h k x hk
theorem cell_frm {W W' : World} {m : Nat} {a : Addr} {v : Value} {α β : Type} [DecidableEq α] {kV : α → Value} {vV : β → Value} {F : α → Option β} (hm : MpIs kV vV W m F) (hf : Fr (fun b => b = m) W W') (h : W.cell? a = some v) : W'.cell? a = some v := by
  have hlt : a.block < W.heap.size := by
    rcases Nat.lt_or_ge a.block W.heap.size with h' | h'
    · exact h'
    · simp [World.cell?, Array.getElem?_eq_none h'] at h
  have hne : ¬ a.block = m := fun e => by
    obtain ⟨L, hL, _⟩ := hm
    have h2 : W.heap[m]? = some (.map (mkE kV vV L) L.length) := hL
    rw [← e] at h2
    simp [World.cell?, h2] at h
  exact (World.cell?_of_block (w := W) (hf.block _ hlt hne)).trans h
theorem SlAt.frm {W W' : World} {B sz n m : Nat} {A : Option Addr} {f : Nat → Nat → Value} {α β : Type} [DecidableEq α] {kV : α → Value} {vV : β → Value} {F : α → Option β} (h : SlAt W B sz A n f) (hm : MpIs kV vV W m F) (hf : Fr (fun b => b = m) W W') : SlAt W' B sz A n f :=
  fun hn => let ⟨b, off, e, hb, hc⟩ := h hn; ⟨b, off, e, hb, fun k j hk hj => cell_frm hm hf (hc k j hk hj)⟩
theorem blk_neMap {w : World} {g : Nat} {t : TypeId} {cs : Array Value} (h : Blk w g t cs) {α β : Type} [DecidableEq α] {kV : α → Value} {vV : β → Value} {m : Nat} {F : α → Option β} (hm : MpIs kV vV w m F) : g ≠ m := by
  obtain ⟨L, hL, _⟩ := hm
  intro e
  subst e
  have h2 : w.heap[g]? = some (.map (mkE kV vV L) L.length) := hL
  unfold Blk at h
  rw [h] at h2; cases h2
theorem own_neMap {w : World} {base : Nat} {e : TypeId} {sz n : Nat} {v : Value} {xs : List Value} (h : w.ownsRow base e sz v n xs) {α β : Type} [DecidableEq α] {kV : α → Value} {vV : β → Value} {m : Nat} {F : α → Option β} (hm : MpIs kV vV w m F) : v.ownBlock ≠ some m := by
  obtain ⟨L, hL, _⟩ := hm
  rcases h.2 with ⟨rfl, _⟩ | ⟨g, cap, cur, rfl, _, hh, _⟩
  · simp [Value.ownBlock]
  · intro e
    have : g = m := by simpa [Value.ownBlock] using e
    subst this
    have h2 : w.heap[g]? = some (.map (mkE kV vV L) L.length) := hL
    rw [hh] at h2; cases h2
theorem Blk.frm {W W' : World} {m g : Nat} {t : TypeId} {cs : Array Value} {α β : Type} [DecidableEq α] {kV : α → Value} {vV : β → Value} {F : α → Option β} (h : Blk W g t cs) (hm : MpIs kV vV W m F) (hf : Fr (fun b => b = m) W W') : Blk W' g t cs := h.fr hf (fun e => blk_neMap h hm e)
theorem field_plan0 (m a b c : Int) (W : World) : (Instr.field 139 (.agg #[.int .i64 m, .int .i64 a, .int .i64 b, .int .i64 c]) 0).run Try.prog W = .ok (.int .i64 m) W := by kernel_rfl
theorem field_plan1 (m a b c : Int) (W : World) : (Instr.field 139 (.agg #[.int .i64 m, .int .i64 a, .int .i64 b, .int .i64 c]) 1).run Try.prog W = .ok (.agg #[.int .i64 a, .int .i64 b, .int .i64 c]) W := by kernel_rfl
/-- what best tells. -/
structure BestV (t : Tm) (l : V3) (mb : Nat) (W W' : World) (e : Ending) : Prop where
  out : ∃ (m : Nat) (own : V3) (F' : V3 → Option (Nat × V3)), e = .returned (.agg #[.int .i64 (m : Int), .int .i64 own.a, .int .i64 own.b, .int .i64 own.c]) ∧ PlanIs t l m own ∧ MpIs keyV plV W' mb F' ∧ KOk t F' ∧ Fr (fun b => b = mb) W W'
/-- the first so many rooms' hours are taken off. -/
def subTo (l d : V3) : Nat → V3
  | 0 => l
  | j + 1 => (subTo l d j).set j (l.get j - d.get j)
theorem subTo_get (l d : V3) (j : Nat) (hj : j ≤ 3) (i : Nat) : (subTo l d j).get i = if i < j then l.get i - d.get i else l.get i := by
  induction j with
  | zero => simp [subTo]
  | succ j ih =>
    rw [subTo, V3.set_get _ _ _ _ (by omega), ih (by omega)]
    by_cases h : i = j
    · subst h; simp
    · rw [if_neg h]
      by_cases h2 : i < j
      · rw [if_pos h2, if_pos (by omega)]
      · rw [if_neg h2, if_neg (by omega)]
theorem subTo_all (l d : V3) : subTo l d 3 = l.sub d := V3.ext' fun i hi => by rw [subTo_get _ _ _ (Nat.le_refl _), if_pos hi, V3.sub_get]
theorem flat3_at {l : List V3} {k : Nat} (hk : k < l.length) {j : Nat} (hj : j < 3) : (l.flatMap cV3)[k * 3 + j]? = (cV3 l[k])[j]? := by
  induction l generalizing k with
  | nil => simp at hk
  | cons x l ih =>
    cases k with
    | zero =>
      simp only [List.flatMap_cons, Nat.zero_mul, Nat.zero_add, List.getElem_cons_zero]
      rw [List.getElem?_append_left (by show j < 3; exact hj)]
    | succ k =>
      have hk' : k < l.length := by simpa using hk
      simp only [List.flatMap_cons, List.getElem_cons_succ]
      rw [List.getElem?_append_right (by show 3 ≤ (k + 1) * 3 + j; omega)]
      show (l.flatMap cV3)[(k + 1) * 3 + j - 3]? = _
      rw [show (k + 1) * 3 + j - 3 = k * 3 + j by omega]
      exact ih hk'
/-- an element of a row of hours. -/
theorem left_row {w : World} {base : Nat} {A : Option Addr} {c : Nat} {l : List V3} (h : w.ownsRow base 136 3 (.slice A l.length c) l.length (l.flatMap cV3)) {k : Nat} (hk : k < l.length) : ∃ g, A = some ⟨g, 0, none⟩ ∧ base ≤ g ∧ g < w.heap.size ∧ w.cell? ⟨g, k * 3, none⟩ = some (.int .i64 l[k].a) ∧ w.cell? ⟨g, k * 3 + 1, none⟩ = some (.int .i64 l[k].b) ∧ w.cell? ⟨g, k * 3 + 2, none⟩ = some (.int .i64 l[k].c) := by
  obtain ⟨A', c', e, _, _, hr⟩ := own_row (c := cV3) (sz := 3) (fun _ => rfl) (f := fun k j => ((cV3 (l.getD k default))[j]?).getD undef) (fun k hk j hj => by
    have : l.getD k default = l[k] := by simp [hk]
    show (cV3 l[k])[j]? = some (((cV3 (l.getD k default))[j]?).getD undef)
    rw [this]
    match j, hj with
    | 0, _ => rfl
    | 1, _ => rfl
    | 2, _ => rfl) h
  injection e with e1 _ _
  subst e1
  rcases hr with h0 | ⟨g, cur, rfl, hg, hb, hc⟩
  · omega
  · have hx : l.getD k default = l[k] := by simp [hk]
    refine ⟨g, rfl, hg, hb.lt, ?_, ?_, ?_⟩
    · have h9 : cur[k * 3 + 0]? = some (((cV3 (l.getD k default))[0]?).getD undef) := hc k 0 hk (by omega)
      rw [hx] at h9; exact (hb.cell _).trans h9
    · have h9 : cur[k * 3 + 1]? = some (((cV3 (l.getD k default))[1]?).getD undef) := hc k 1 hk (by omega)
      rw [hx] at h9; exact (hb.cell _).trans h9
    · have h9 : cur[k * 3 + 2]? = some (((cV3 (l.getD k default))[2]?).getD undef) := hc k 2 hk (by omega)
      rw [hx] at h9; exact (hb.cell _).trans h9
set_option maxRecDepth 100000 in
set_option maxHeartbeats 6400000 in
theorem best_any (t : Tm) (Ar Ah : Option Addr) (cr ch mb : Nat) (ht : TmOk t) :
    ∀ (n : Nat) (l : V3) (F : V3 → Option (Nat × V3)) (W : World), l.sum < n → HrOk t l → TmIn W W.heap.size t Ar Ah → MpIs keyV plV W mb F → KOk t F →
    Calls Try.prog 70 #[.agg #[.slice Ar t.rates.length cr, .slice Ah t.hours.length ch, .int .i64 t.limit, .int .i64 t.most], .agg (v3C l), .map (some mb)] W fun e W' => BestV t l mb W W' e := by
  obtain ⟨i0, hi0, hz0, hz1, hz2⟩ := info_parts plan_info
  have hl3 : t.rates.length ≤ 3 := ht.len.2.1
  intro n
  induction n with
  | zero => intro l F W hn hl _ _ _; have := hl.bd 0 (by omega); have := hl.bd 1 (by omega); have := hl.bd 2 (by omega); unfold V3.sum at hn; simp only [V3.get] at *; omega
  | succ n ih =>
    intro l F W hn hl htm hmp hko
    have HIH := Lib.hid ih
    clear ih
    unfold v3C
    have hb1 := ex_alloc (ex_alloc (ex_alloc (Below.refl W.heap.size W) (.cells #[.slice Ar t.rates.length cr, .slice Ah t.hours.length ch, .int .i64 t.limit, .int .i64 t.most] 59)) (.cells #[.int .i64 l.a, .int .i64 l.b, .int .i64 l.c] 136)) (.cells #[.int .i64 0, .int .i64 0, .int .i64 0, .int .i64 0] 139)
    have q3 : Blk (((W.alloc (.cells #[.slice Ar t.rates.length cr, .slice Ah t.hours.length ch, .int .i64 t.limit, .int .i64 t.most] 59)).alloc (.cells #[.int .i64 l.a, .int .i64 l.b, .int .i64 l.c] 136)).alloc (.cells #[.int .i64 0, .int .i64 0, .int .i64 0, .int .i64 0] 139)) (W.heap.size) 59 #[.slice Ar t.rates.length cr, .slice Ah t.hours.length ch, .int .i64 t.limit, .int .i64 t.most] := ((Blk.new' _ _ _ (by simp)).alloc _).alloc _
    have q4 : Blk (((W.alloc (.cells #[.slice Ar t.rates.length cr, .slice Ah t.hours.length ch, .int .i64 t.limit, .int .i64 t.most] 59)).alloc (.cells #[.int .i64 l.a, .int .i64 l.b, .int .i64 l.c] 136)).alloc (.cells #[.int .i64 0, .int .i64 0, .int .i64 0, .int .i64 0] 139)) (W.heap.size + 1) 136 #[.int .i64 l.a, .int .i64 l.b, .int .i64 l.c] := (Blk.new' _ _ _ (by simp)).alloc _
    have q6 : Blk (((W.alloc (.cells #[.slice Ar t.rates.length cr, .slice Ah t.hours.length ch, .int .i64 t.limit, .int .i64 t.most] 59)).alloc (.cells #[.int .i64 l.a, .int .i64 l.b, .int .i64 l.c] 136)).alloc (.cells #[.int .i64 0, .int .i64 0, .int .i64 0, .int .i64 0] 139)) (W.heap.size + 1 + 1) 139 #[.int .i64 0, .int .i64 0, .int .i64 0, .int .i64 0] := Blk.new' _ _ _ (by simp)
    have hzz : (((W.alloc (.cells #[.slice Ar t.rates.length cr, .slice Ah t.hours.length ch, .int .i64 t.limit, .int .i64 t.most] 59)).alloc (.cells #[.int .i64 l.a, .int .i64 l.b, .int .i64 l.c] 136)).alloc (.cells #[.int .i64 0, .int .i64 0, .int .i64 0, .int .i64 0] 139)).heap.size = W.heap.size + 1 + 1 + 1 := by simp
    go_enter Try.func70, Try.ntmps70
    go_upto_region 1 with fail
    show Code.wp _ _ _ _ (((W.alloc (.cells #[.slice Ar t.rates.length cr, .slice Ah t.hours.length ch, .int .i64 t.limit, .int .i64 t.most] 59)).alloc (.cells #[.int .i64 l.a, .int .i64 l.b, .int .i64 l.c] 136)).alloc (.cells #[.int .i64 0, .int .i64 0, .int .i64 0, .int .i64 0] 139))
    obtain ⟨p0, hp0⟩ : ∃ p, W.heap.size = p := ⟨_, rfl⟩
    rw [hp0] at q3 q4 q6 hzz ⊢
    have HP0 := Lib.hid hp0
    have mp1 := hmp.below hb1
    generalize ((W.alloc (.cells #[.slice Ar t.rates.length cr, .slice Ah t.hours.length ch, .int .i64 t.limit, .int .i64 t.most] 59)).alloc (.cells #[.int .i64 l.a, .int .i64 l.b, .int .i64 l.c] 136)).alloc (.cells #[.int .i64 0, .int .i64 0, .int .i64 0, .int .i64 0] 139) = W1 at *
    clear hp0
    have b0 : W1.cell? ⟨p0 + 1, 0, none⟩ = some (.int .i64 l.a) := q4.cell 0
    have b1 : W1.cell? ⟨p0 + 1, 1, none⟩ = some (.int .i64 l.b) := q4.cell 1
    have b2 : W1.cell? ⟨p0 + 1, 2, none⟩ = some (.int .i64 l.c) := q4.cell 2
    have lb := q4.lt
    have a0 : W1.cell? ⟨p0, 0, none⟩ = some (.slice Ar t.rates.length cr) := q3.cell 0
    have a1 : W1.cell? ⟨p0, 1, none⟩ = some (.slice Ah t.hours.length ch) := q3.cell 1
    have a2 : W1.cell? ⟨p0, 2, none⟩ = some (.int .i64 t.limit) := q3.cell 2
    have a3 : W1.cell? ⟨p0, 3, none⟩ = some (.int .i64 t.most) := q3.cell 3
    have la := q3.lt
    have zc0 : W1.cell? ⟨p0 + 1 + 1, 0, none⟩ = some (.int .i64 0) := q6.cell 0
    have zc1 : W1.cell? ⟨p0 + 1 + 1, 1, none⟩ = some (.int .i64 0) := q6.cell 1
    have zc2 : W1.cell? ⟨p0 + 1 + 1, 2, none⟩ = some (.int .i64 0) := q6.cell 2
    have zc3 : W1.cell? ⟨p0 + 1 + 1, 3, none⟩ = some (.int .i64 0) := q6.cell 3
    have lz := q6.lt
    have fz := q6.frozen0
    by_cases hz : l = z3
    · have HZ := Lib.hid hz
      have hez : ∀ w, (Op.equalIn 10000 136 (.agg #[.int .i64 l.a, .int .i64 l.b, .int .i64 l.c]) (.agg #[.int .i64 0, .int .i64 0, .int .i64 0])).run Try.prog w = .ok true w := fun w => by have := eq_v3 l z3 w; rw [decide_eq_true hz] at this; exact this
      clear hz
      have fr1 := Fr.below (R := fun b => b = mb) hb1
      have qz := (((q6.set_ 0 (.int .i64 (0))).set_ 1 (.int .i64 (0))).set_ 2 (.int .i64 (0))).set_ 3 (.int .i64 (0))
      simp only [List.setIfInBounds_toArray, List.set_cons_zero, List.set_cons_succ] at qz
      have hfz : Fr (fun b => b = mb) W ((((W1.setCell ⟨p0 + 1 + 1, 0, none⟩ (.int .i64 (0))).setCell ⟨p0 + 1 + 1, 1, none⟩ (.int .i64 (0))).setCell ⟨p0 + 1 + 1, 2, none⟩ (.int .i64 (0))).setCell ⟨p0 + 1 + 1, 3, none⟩ (.int .i64 (0))) := ⟨fr1.os, fr1.tape, fr1.output, by simp; exact fr1.size, fun k hk hn => by
        have := HP0.out
        rw [Below.heap_setCell _ _ _ k (by show k ≠ p0 + 1 + 1; omega), Below.heap_setCell _ _ _ k (by show k ≠ p0 + 1 + 1; omega), Below.heap_setCell _ _ _ k (by show k ≠ p0 + 1 + 1; omega), Below.heap_setCell _ _ _ k (by show k ≠ p0 + 1 + 1; omega)]
        exact fr1.block k hk hn⟩
      have hmz : MpIs keyV plV ((((W1.setCell ⟨p0 + 1 + 1, 0, none⟩ (.int .i64 (0))).setCell ⟨p0 + 1 + 1, 1, none⟩ (.int .i64 (0))).setCell ⟨p0 + 1 + 1, 2, none⟩ (.int .i64 (0))).setCell ⟨p0 + 1 + 1, 3, none⟩ (.int .i64 (0))) mb _ := mp1.of_block (by rw [Below.heap_setCell _ _ _ mb (by show mb ≠ p0 + 1 + 1; exact fun e => blk_neMap q6 mp1 e.symm), Below.heap_setCell _ _ _ mb (by show mb ≠ p0 + 1 + 1; exact fun e => blk_neMap q6 mp1 e.symm), Below.heap_setCell _ _ _ mb (by show mb ≠ p0 + 1 + 1; exact fun e => blk_neMap q6 mp1 e.symm), Below.heap_setCell _ _ _ mb (by show mb ≠ p0 + 1 + 1; exact fun e => blk_neMap q6 mp1 e.symm)])
      have HMZ := Lib.hid hmz
      clear hmz
      go_wp2_with fail
      refine bodyPost_ret (results_cell_row rfl _ _ (p0 + 1 + 1) 139 _ (0, 0) _ rfl qz rfl rfl rfl) rfl ?_
      exact ⟨⟨0, z3, F, rfl, by rw [HZ.out]; exact PlanIs.zero, HMZ.out, hko, hfz⟩⟩
    · have HZ := Lib.hid hz
      have hez : ∀ w, (Op.equalIn 10000 136 (.agg #[.int .i64 l.a, .int .i64 l.b, .int .i64 l.c]) (.agg #[.int .i64 0, .int .i64 0, .int .i64 0])).run Try.prog w = .ok false w := fun w => by have := eq_v3 l z3 w; rw [decide_eq_false hz] at this; exact this
      clear hz
      have hlk := MpIs.at2 (et := 139) Try.underlying137 hi0 hz0 keyV_fd mp1 l
      unfold keyV v3C at hlk
      cases hF : F l with
      | none =>
        rw [hF] at hlk
        clear hF
        have X9 := ex_alloc (ex_alloc (Below.refl W1.heap.size W1) (.cells #[.int .i64 0, .int .i64 0, .int .i64 0, .int .i64 0] 139)) (.cells #[.int .i64 7, .int .i64 0, .int .i64 0, .int .i64 0] 139)
        have q9 : Blk ((W1.alloc (.cells #[.int .i64 0, .int .i64 0, .int .i64 0, .int .i64 0] 139)).alloc (.cells #[.int .i64 7, .int .i64 0, .int .i64 0, .int .i64 0] 139)) (W1.heap.size + 1) 139 #[.int .i64 7, .int .i64 0, .int .i64 0, .int .i64 0] := Blk.new' _ _ _ (by simp)
        have q39 := q3.below X9 q3.lt
        have q49 := q4.below X9 q4.lt
        have q69 := q6.below X9 q6.lt
        have mp9 := mp1.below X9
        have B9 := ex_trans hb1 X9
        go_upto_region 7 with fail
        show Code.wp _ _ _ _ ((W1.alloc (.cells #[.int .i64 0, .int .i64 0, .int .i64 0, .int .i64 0] 139)).alloc (.cells #[.int .i64 7, .int .i64 0, .int .i64 0, .int .i64 0] 139))
        rw [hzz] at q9
        generalize (W1.alloc (.cells #[.int .i64 0, .int .i64 0, .int .i64 0, .int .i64 0] 139)).alloc (.cells #[.int .i64 7, .int .i64 0, .int .i64 0, .int .i64 0] 139) = W9 at *
        skip
        clear hlk hez
        have b09 : W9.cell? ⟨p0 + 1, 0, none⟩ = some (.int .i64 l.a) := q49.cell 0
        have b19 : W9.cell? ⟨p0 + 1, 1, none⟩ = some (.int .i64 l.b) := q49.cell 1
        have b29 : W9.cell? ⟨p0 + 1, 2, none⟩ = some (.int .i64 l.c) := q49.cell 2
        have lb9 := q49.lt
        have a09 : W9.cell? ⟨p0, 0, none⟩ = some (.slice Ar t.rates.length cr) := q39.cell 0
        have a19 : W9.cell? ⟨p0, 1, none⟩ = some (.slice Ah t.hours.length ch) := q39.cell 1
        have a29 : W9.cell? ⟨p0, 2, none⟩ = some (.int .i64 t.limit) := q39.cell 2
        have a39 : W9.cell? ⟨p0, 3, none⟩ = some (.int .i64 t.most) := q39.cell 3
        have la9 := q39.lt
        go_wp2_with fail
        have hdy := days_team t Ar Ah cr ch W9 ⟨(htm.rates.below B9).up B9.size, (htm.hours.below B9).up B9.size⟩ ht l hl
        unfold v3C at hdy
        refine hdy.mono ?_
        clear hdy
        rintro e Wd ⟨⟨A, cA, rfl, hds⟩, hd⟩
        obtain ⟨ds, hdsE⟩ : ∃ x, daysL t l = x := ⟨_, rfl⟩
        rw [hdsE] at hds ⊢
        have HDS := Lib.hid hdsE
        have hdl : ds.length ≤ 729 := by rw [← hdsE]; exact daysL_len ht hl
        clear hdsE
        have frd : Fr (fun b => b = mb) W Wd := Fr.below (ex_trans B9 hd)
        have q3d := q39.below hd q39.lt
        have q4d := q49.below hd q49.lt
        have q6d := q69.below hd q69.lt
        have q9d := q9.below hd q9.lt
        have mpd := mp9.below hd
        clear b09 b19 b29 lb9 a09 a19 a29 a39 la9
        have hW9s : p0 + 1 + 1 + 1 + 1 < W9.heap.size := q9.lt
        go_wp2_with fail
        refine wp_loop (fun a V => Rel (fun a V => ∃ k : Nat, k ≤ ds.length ∧ (∃ (m : Nat) (own : V3) (F' : V3 → Option (Nat × V3)), Looked t l (ds.take k) m own ∧ Blk V (p0 + 1 + 1 + 1 + 1) 139 #[.int .i64 (m : Int), .int .i64 own.a, .int .i64 own.b, .int .i64 own.c] ∧ MpIs keyV plV V mb F' ∧ KOk t F') ∧ Fr (fun b => b = mb) W V ∧ Blk V p0 59 #[.slice Ar t.rates.length cr, .slice Ah t.hours.length ch, .int .i64 t.limit, .int .i64 t.most] ∧ Blk V (p0 + 1) 136 #[.int .i64 l.a, .int .i64 l.b, .int .i64 l.c] ∧ Blk V (p0 + 1 + 1) 139 #[.int .i64 0, .int .i64 0, .int .i64 0, .int .i64 0] ∧ V.ownsRow W9.heap.size 136 3 (.slice A ds.length cA) ds.length (ds.flatMap cV3) ∧ ∃ u : Nat → Value, a = ⟨List.toArray (u 0 :: u 1 :: .map (some mb) :: .pointer (some ⟨p0, 0, none⟩) :: .pointer (some ⟨p0 + 1, 0, none⟩) :: u 5 :: .pointer (some ⟨p0 + 1 + 1, 0, none⟩) :: u 7 :: u 8 :: .pointer (some ⟨p0 + 1 + 1 + 1 + 1, 0, none⟩) :: u 10 :: u 11 :: u 12 :: u 13 :: u 14 :: u 15 :: u 16 :: u 17 :: u 18 :: u 19 :: u 20 :: u 21 :: u 22 :: u 23 :: u 24 :: u 25 :: u 26 :: u 27 :: u 28 :: u 29 :: .slice A ds.length cA :: .int .i64 (ds.length : Int) :: .int .i64 (k : Int) :: u 33 :: u 34 :: u 35 :: u 36 :: u 37 :: u 38 :: u 39 :: u 40 :: u 41 :: u 42 :: u 43 :: u 44 :: u 45 :: u 46 :: u 47 :: u 48 :: u 49 :: u 50 :: u 51 :: u 52 :: u 53 :: u 54 :: u 55 :: u 56 :: u 57 :: u 58 :: u 59 :: u 60 :: u 61 :: u 62 :: u 63 :: u 64 :: u 65 :: u 66 :: []), []⟩) a V) (fun a _ => ds.length - (intOf (a.tmps.getD 32 undef)).toNat) ⟨⟨0, by omega, ⟨7, z3, F, Looked.nil, q9d, mpd, hko⟩, frd, q3d, q4d, q6d, hds, exFrame (by kernel_rfl)⟩⟩ ?_
        clear q3d q4d q6d q9d mpd hds frd hd q39 q49 q69 q9 mp9 X9 B9
        rintro a V ⟨⟨k, hk, ⟨m, own, F', hL, q9, mp, ko⟩, frV, q3, q4, q6, hds, u, rfl⟩⟩
        have hm7 := hL.le
        by_cases hlt : k < ds.length
        · obtain ⟨g, rfl, hgb, hgl, e0, e1, e2⟩ := left_row hds hlt
          have hmem : ds[k] ∈ daysL t l := by rw [HDS.out]; exact List.getElem_mem hlt
          obtain ⟨hpart, hdz⟩ := (daysL_mem ht hl _).1 hmem
          obtain ⟨d, hd⟩ : ∃ d, ds[k] = d := ⟨_, rfl⟩
          rw [hd] at hpart hdz e0 e1 e2
          have HD := Lib.hid hd
          clear hd hmem
          have X12 := ex_alloc (ex_alloc (Below.refl V.heap.size V) (.cells #[.int .i64 d.a, .int .i64 d.b, .int .i64 d.c] 136)) (.cells #[.int .i64 l.a, .int .i64 l.b, .int .i64 l.c] 136)
          have t11 : Blk ((V.alloc (.cells #[.int .i64 d.a, .int .i64 d.b, .int .i64 d.c] 136)).alloc (.cells #[.int .i64 l.a, .int .i64 l.b, .int .i64 l.c] 136)) V.heap.size 136 #[.int .i64 d.a, .int .i64 d.b, .int .i64 d.c] := (Blk.new _ _ _).alloc _
          have t12 : Blk ((V.alloc (.cells #[.int .i64 d.a, .int .i64 d.b, .int .i64 d.c] 136)).alloc (.cells #[.int .i64 l.a, .int .i64 l.b, .int .i64 l.c] 136)) (V.heap.size + 1) 136 (v3C (subTo l d 0)) := Blk.new' _ _ _ (by simp)
          have b0 : V.cell? ⟨p0 + 1, 0, none⟩ = some (.int .i64 l.a) := q4.cell 0
          have b1 : V.cell? ⟨p0 + 1, 1, none⟩ = some (.int .i64 l.b) := q4.cell 1
          have b2 : V.cell? ⟨p0 + 1, 2, none⟩ = some (.int .i64 l.c) := q4.cell 2
          have lb := q4.lt
          go_upto_region 11 with fail
          show Code.wp _ _ _ _ ((V.alloc (.cells #[.int .i64 d.a, .int .i64 d.b, .int .i64 d.c] 136)).alloc (.cells #[.int .i64 l.a, .int .i64 l.b, .int .i64 l.c] 136))
          have q3x := q3.below X12 q3.lt
          have q4x := q4.below X12 q4.lt
          have q6x := q6.below X12 q6.lt
          have q9x := q9.below X12 q9.lt
          have mpx := mp.below X12
          have dsx := own_below hds X12
          have frx := frV.trans (Fr.below (R := fun b => b = mb) X12) (fun _ _ h => h)
          have hVs : ((V.alloc (.cells #[.int .i64 d.a, .int .i64 d.b, .int .i64 d.c] 136)).alloc (.cells #[.int .i64 l.a, .int .i64 l.b, .int .i64 l.c] 136)).heap.size = V.heap.size + 1 + 1 := by simp
          have hVl : p0 + 1 + 1 + 1 + 1 < V.heap.size := q9.lt
          generalize (V.alloc (.cells #[.int .i64 d.a, .int .i64 d.b, .int .i64 d.c] 136)).alloc (.cells #[.int .i64 l.a, .int .i64 l.b, .int .i64 l.c] 136) = Y at *
          obtain ⟨p11, hp11⟩ : ∃ p, V.heap.size = p := ⟨_, rfl⟩
          rw [hp11] at t11 t12 hVs hVl hgl ⊢
          clear hp11 b0 b1 b2 lb e0 e1 e2
          go_wp2_with fail
          refine wp_loop (fun a Z => Rel (fun a Z => ∃ j : Nat, j ≤ 3 ∧ Blk Z (p11 + 1) 136 (v3C (subTo l d j)) ∧ Fr (fun b => b = p11 + 1) Y Z ∧ ∃ u : Nat → Value, a = ⟨List.toArray (u 0 :: u 1 :: .map (some mb) :: .pointer (some ⟨p0, 0, none⟩) :: .pointer (some ⟨p0 + 1, 0, none⟩) :: u 5 :: .pointer (some ⟨p0 + 1 + 1, 0, none⟩) :: u 7 :: u 8 :: .pointer (some ⟨p0 + 1 + 1 + 1 + 1, 0, none⟩) :: u 10 :: .pointer (some ⟨p11, 0, none⟩) :: .pointer (some ⟨p11 + 1, 0, none⟩) :: u 13 :: u 14 :: u 15 :: u 16 :: u 17 :: u 18 :: u 19 :: u 20 :: u 21 :: u 22 :: u 23 :: u 24 :: u 25 :: u 26 :: u 27 :: u 28 :: u 29 :: .slice (some ⟨g, 0, none⟩) ds.length cA :: .int .i64 (ds.length : Int) :: .int .i64 (k : Int) :: u 33 :: u 34 :: u 35 :: u 36 :: .int .i64 (j : Int) :: u 38 :: u 39 :: u 40 :: u 41 :: u 42 :: u 43 :: u 44 :: u 45 :: u 46 :: u 47 :: u 48 :: u 49 :: u 50 :: u 51 :: u 52 :: u 53 :: u 54 :: u 55 :: u 56 :: u 57 :: u 58 :: u 59 :: u 60 :: u 61 :: u 62 :: u 63 :: u 64 :: u 65 :: u 66 :: []), []⟩) a Z) (fun a _ => 3 - (intOf (a.tmps.getD 37 undef)).toNat) ⟨⟨0, by omega, t12, Fr.refl _ _, exFrame (by kernel_rfl)⟩⟩ ?_
          rintro a Z ⟨⟨j, hj, s12, frz, u2, rfl⟩⟩
          by_cases hlj : j < 3
          · have s11 := t11.fr frz (by omega)
            have v1 := s12.cell j
            rw [v3_at _ hlj, subTo_get l d j hj, if_neg (by omega)] at v1
            have v2 : Z.cell? ⟨p11, j, none⟩ = _ := (s11.cell j).trans (v3_at d hlj)
            have hjl := hl.bd j hlj
            have hjd := hpart.bd j hlj
            have hs := s12.set_ j (.int .i64 (l.get j - d.get j))
            rw [v3_set _ hlj] at hs
            have hs' : (subTo l d j).set j (l.get j - d.get j) = subTo l d (j + 1) := rfl
            rw [hs'] at hs
            clear hs'
            obtain ⟨lj, hlj2⟩ : ∃ x, l.get j = x := ⟨_, rfl⟩
            obtain ⟨dj, hdj2⟩ : ∃ x, d.get j = x := ⟨_, rfl⟩
            rw [hlj2] at v1 hjl hjd hs
            rw [hdj2] at v2 hjd hs
            clear hlj2 hdj2
            have l12 := s12.lt
            have l11 := s11.lt
            have f12 := s12.frozen0
            have hj33 : (j : Int) < 3 := by omega
            have DD := (Below.refl Z.heap.size Z).drew
            go_upto_region 14 with fail
            refine wp_region_ext_mix 8 [(false, 0), (false, 1), (false, 2), (false, 3), (false, 4), (false, 5), (false, 6), (false, 7)] (by kernel_rfl) (by kernel_rfl) (by intro d _ _ _ _ h; cases d <;> exact h) ?_
            repeat (refine mix_quiet rfl ?_; go_big_quiet_step (fail); refine wpQuiet_nil ?_)
            refine mix_nil (r := [_]) rfl ?_
            have hs2 : Blk (Z.drew.setCell ⟨p11 + 1, j, none⟩ (.int .i64 (lj - dj))) (p11 + 1) 136 (v3C (subTo l d (j + 1))) := hs
            have frz2 : Fr (fun b => b = p11 + 1) Y (Z.drew.setCell ⟨p11 + 1, j, none⟩ (.int .i64 (lj - dj))) := (frz.trans (Fr.below (R := fun b => b = p11 + 1) DD) (fun _ _ h => h)).trans (Fr.set (R := fun b => b = p11 + 1) _ _ _ _ rfl) (fun _ _ h => h)
            go_wp2_with fail
            refine ⟨⟨⟨j + 1, by omega, hs2, frz2, exFrame (by kernel_rfl)⟩⟩, ?_⟩
            show 3 - (intOf (.int .i64 ((j : Int) + 1))).toNat < 3 - (intOf (.int .i64 (j : Int))).toNat
            simp [intOf]
            omega
          · obtain rfl : j = 3 := by omega
            rw [subTo_all] at s12
            have s11 := t11.fr frz (by omega)
            have q3z := q3x.fr frz (by omega)
            have q4z := q4x.fr frz (by omega)
            have q6z := q6x.fr frz (by omega)
            have q9z := q9x.fr frz (by omega)
            have mpz := mpx.fr frz (fun e => by have := blk_neMap t12 mpx; omega)
            have dsz := own_fr dsx frz (fun b hb e => by
              have hb : g = b := by simpa [Value.ownBlock] using hb
              omega)
            have frW := frx.trans frz (fun x hx e => by have := frV.size; have := HP0.out; omega)
            clear t11 t12 q3x q4x q6x q9x mpx dsx frx frz frV X12 q3 q4 q6 q9 mp hds
            obtain ⟨e', he'⟩ : ∃ e, l.sub d = e := ⟨_, rfl⟩
            have hhr := hpart.hr hl
            have hsm := part_sum hpart hdz
            rw [he'] at s12 hhr hsm
            have HE' := Lib.hid he'
            clear he'
            have a0 : Z.cell? ⟨p0, 0, none⟩ = some (.slice Ar t.rates.length cr) := q3z.cell 0
            have a1 : Z.cell? ⟨p0, 1, none⟩ = some (.slice Ah t.hours.length ch) := q3z.cell 1
            have a2 : Z.cell? ⟨p0, 2, none⟩ = some (.int .i64 t.limit) := q3z.cell 2
            have a3 : Z.cell? ⟨p0, 3, none⟩ = some (.int .i64 t.most) := q3z.cell 3
            have la := q3z.lt
            have c0 : Z.cell? ⟨p11 + 1, 0, none⟩ = some (.int .i64 e'.a) := s12.cell 0
            have c1 : Z.cell? ⟨p11 + 1, 1, none⟩ = some (.int .i64 e'.b) := s12.cell 1
            have c2 : Z.cell? ⟨p11 + 1, 2, none⟩ = some (.int .i64 e'.c) := s12.cell 2
            have lc := s12.lt
            have HH := HIH.out e' F' Z (by omega) hhr.2 ⟨(htm.rates.frm hmp frW).up frW.size, (htm.hours.frm hmp frW).up frW.size⟩ mpz ko
            unfold v3C at HH
            go_wp2_with fail
            refine HH.mono ?_
            clear HH
            rintro e Z2 ⟨⟨m2, own2, F2, rfl, hp2, mp2, ko2, fr2⟩⟩
            have hfp := field_plan0
            have hm2 : m2 ≤ 7 := by rcases hp2.few with h | h <;> omega
            have q3y := q3z.frm mpz fr2
            have q4y := q4z.frm mpz fr2
            have q6y := q6z.frm mpz fr2
            have q9y := q9z.frm mpz fr2
            have s11y := s11.frm mpz fr2
            have dsy := own_fr dsz fr2 (fun b hb e => own_neMap dsz mpz (by rw [hb, e]))
            have frY := frW.trans fr2 (fun _ _ h => h)
            have hstep := hL.step hpart hdz (k := m2) (by rw [HE'.out]; exact hp2.few)
            have HTK : Hid (ds.take (k + 1) = ds.take k ++ [d]) := Lib.hid (by rw [List.take_succ_eq_append_getElem hlt, HD.out])
            clear a0 a1 a2 a3 la c0 c1 c2 lc s12
            have y0 : Z2.cell? ⟨p0 + 1 + 1 + 1 + 1, 0, none⟩ = some (.int .i64 (m : Int)) := q9y.cell 0
            have y1 : Z2.cell? ⟨p0 + 1 + 1 + 1 + 1, 1, none⟩ = some (.int .i64 own.a) := q9y.cell 1
            have y2 : Z2.cell? ⟨p0 + 1 + 1 + 1 + 1, 2, none⟩ = some (.int .i64 own.b) := q9y.cell 2
            have y3 : Z2.cell? ⟨p0 + 1 + 1 + 1 + 1, 3, none⟩ = some (.int .i64 own.c) := q9y.cell 3
            have l9 := q9y.lt
            have f9 := q9y.frozen0
            have x0 : Z2.cell? ⟨p11, 0, none⟩ = some (.int .i64 d.a) := s11y.cell 0
            have x1 : Z2.cell? ⟨p11, 1, none⟩ = some (.int .i64 d.b) := s11y.cell 1
            have x2 : Z2.cell? ⟨p11, 2, none⟩ = some (.int .i64 d.c) := s11y.cell 2
            have l11 := s11y.lt
            by_cases hless : m2 + 1 < m
            · rw [if_pos hless, if_pos hless] at hstep
              have hl2 : (m2 : Int) + 1 < (m : Int) := by omega
              have HST : Hid (Looked t l (ds.take (k + 1)) (m2 + 1) d) := Lib.hid (by rw [HTK.out]; exact hstep)
              clear hstep
              have q9n := (((q9y.set_ 0 (.int .i64 ((m2 : Int) + 1))).set_ 1 (.int .i64 d.a)).set_ 2 (.int .i64 d.b)).set_ 3 (.int .i64 d.c)
              simp only [List.setIfInBounds_toArray, List.set_cons_zero, List.set_cons_succ] at q9n
              have frs : Fr (fun b => b = p0 + 1 + 1 + 1 + 1) Z2 ((((Z2.setCell ⟨p0 + 1 + 1 + 1 + 1, 0, none⟩ (.int .i64 ((m2 : Int) + 1))).setCell ⟨p0 + 1 + 1 + 1 + 1, 1, none⟩ (.int .i64 (d.a))).setCell ⟨p0 + 1 + 1 + 1 + 1, 2, none⟩ (.int .i64 (d.b))).setCell ⟨p0 + 1 + 1 + 1 + 1, 3, none⟩ (.int .i64 (d.c))) := (((Fr.set (R := fun b => b = p0 + 1 + 1 + 1 + 1) _ _ _ _ rfl).trans (Fr.set (R := fun b => b = p0 + 1 + 1 + 1 + 1) _ _ _ _ rfl) (fun _ _ h => h)).trans (Fr.set (R := fun b => b = p0 + 1 + 1 + 1 + 1) _ _ _ _ rfl) (fun _ _ h => h)).trans (Fr.set (R := fun b => b = p0 + 1 + 1 + 1 + 1) _ _ _ _ rfl) (fun _ _ h => h)
              have q3n := q3y.fr frs (by omega)
              have q4n := q4y.fr frs (by omega)
              have q6n := q6y.fr frs (by omega)
              have mpn := mp2.fr frs (fun e => blk_neMap q9y mp2 e.symm)
              have dsn := own_fr dsy frs (fun b hb e => by have hb : g = b := by simpa [Value.ownBlock] using hb
                                                           omega)
              have frn := frY.trans frs (fun x hx e => by have := HP0.out; omega)
              go_wp2_with fail
              refine ⟨⟨⟨k + 1, by omega, ⟨m2 + 1, d, F2, HST.out, q9n, mpn, ko2⟩, frn, q3n, q4n, q6n, dsn, exFrame (by kernel_rfl)⟩⟩, ?_⟩
              show ds.length - (intOf (.int .i64 ((k : Int) + 1))).toNat < ds.length - (intOf (.int .i64 (k : Int))).toNat
              simp [intOf]
              omega
            · rw [if_neg hless, if_neg hless] at hstep
              have hl2 : ¬ ((m2 : Int) + 1 < (m : Int)) := by omega
              have HST : Hid (Looked t l (ds.take (k + 1)) m own) := Lib.hid (by rw [HTK.out]; exact hstep)
              clear hstep
              go_wp2_with fail
              refine ⟨⟨⟨k + 1, by omega, ⟨m, own, F2, HST.out, q9y, mp2, ko2⟩, frY, q3y, q4y, q6y, dsy, exFrame (by kernel_rfl)⟩⟩, ?_⟩
              show ds.length - (intOf (.int .i64 ((k : Int) + 1))).toNat < ds.length - (intOf (.int .i64 (k : Int))).toNat
              simp [intOf]
              omega
        · obtain rfl : k = ds.length := by omega
          rw [List.take_length] at hL
          have hpl := hL.plan HZ.out (fun d h1 h2 => by rw [← HDS.out]; exact (daysL_mem ht hl d).2 ⟨h1, h2⟩)
          have HPL := Lib.hid hpl
          clear hpl
          have b0 : V.cell? ⟨p0 + 1, 0, none⟩ = some (.int .i64 l.a) := q4.cell 0
          have b1 : V.cell? ⟨p0 + 1, 1, none⟩ = some (.int .i64 l.b) := q4.cell 1
          have b2 : V.cell? ⟨p0 + 1, 2, none⟩ = some (.int .i64 l.c) := q4.cell 2
          have lb := q4.lt
          have y0 : V.cell? ⟨p0 + 1 + 1 + 1 + 1, 0, none⟩ = some (.int .i64 (m : Int)) := q9.cell 0
          have y1 : V.cell? ⟨p0 + 1 + 1 + 1 + 1, 1, none⟩ = some (.int .i64 own.a) := q9.cell 1
          have y2 : V.cell? ⟨p0 + 1 + 1 + 1 + 1, 2, none⟩ = some (.int .i64 own.b) := q9.cell 2
          have y3 : V.cell? ⟨p0 + 1 + 1 + 1 + 1, 3, none⟩ = some (.int .i64 own.c) := q9.cell 3
          have l9 := q9.lt
          obtain ⟨ob, hup, mpu⟩ := MpIs.put (et := 139) Try.underlying137 keyV_fd mp l ((m, own) : Nat × V3)
          unfold keyV plV v3C at hup
          have frp := fr_putO (fun b => b = mb) V mb ob rfl
          have q6p := q6.frm mp frp
          have q9p := q9.frm mp frp
          have frq := frV.trans frp (fun _ _ h => h)
          go_upto_region 21 with fail
          generalize V.putObj mb ob = U at *
          clear hup y0 y1 y2 y3 l9 b0 b1 b2 lb
          have y0 : U.cell? ⟨p0 + 1 + 1 + 1 + 1, 0, none⟩ = some (.int .i64 (m : Int)) := q9p.cell 0
          have y1 : U.cell? ⟨p0 + 1 + 1 + 1 + 1, 1, none⟩ = some (.int .i64 own.a) := q9p.cell 1
          have y2 : U.cell? ⟨p0 + 1 + 1 + 1 + 1, 2, none⟩ = some (.int .i64 own.b) := q9p.cell 2
          have y3 : U.cell? ⟨p0 + 1 + 1 + 1 + 1, 3, none⟩ = some (.int .i64 own.c) := q9p.cell 3
          have l9 := q9p.lt
          have zc0p : U.cell? ⟨p0 + 1 + 1, 0, none⟩ = some (.int .i64 0) := q6p.cell 0
          have zc1p : U.cell? ⟨p0 + 1 + 1, 1, none⟩ = some (.int .i64 0) := q6p.cell 1
          have zc2p : U.cell? ⟨p0 + 1 + 1, 2, none⟩ = some (.int .i64 0) := q6p.cell 2
          have zc3p : U.cell? ⟨p0 + 1 + 1, 3, none⟩ = some (.int .i64 0) := q6p.cell 3
          have lzp := q6p.lt
          have fzp := q6p.frozen0
          have qz := (((q6p.set_ 0 (.int .i64 ((m : Int)))).set_ 1 (.int .i64 (own.a))).set_ 2 (.int .i64 (own.b))).set_ 3 (.int .i64 (own.c))
          simp only [List.setIfInBounds_toArray, List.set_cons_zero, List.set_cons_succ] at qz
          have hfz : Fr (fun b => b = mb) W ((((U.setCell ⟨p0 + 1 + 1, 0, none⟩ (.int .i64 ((m : Int)))).setCell ⟨p0 + 1 + 1, 1, none⟩ (.int .i64 (own.a))).setCell ⟨p0 + 1 + 1, 2, none⟩ (.int .i64 (own.b))).setCell ⟨p0 + 1 + 1, 3, none⟩ (.int .i64 (own.c))) := ⟨frq.os, frq.tape, frq.output, by simp; exact frq.size, fun k hk hn => by
            have := HP0.out
            rw [Below.heap_setCell _ _ _ k (by show k ≠ p0 + 1 + 1; omega), Below.heap_setCell _ _ _ k (by show k ≠ p0 + 1 + 1; omega), Below.heap_setCell _ _ _ k (by show k ≠ p0 + 1 + 1; omega), Below.heap_setCell _ _ _ k (by show k ≠ p0 + 1 + 1; omega)]
            exact frq.block k hk hn⟩
          have hmz : MpIs keyV plV ((((U.setCell ⟨p0 + 1 + 1, 0, none⟩ (.int .i64 ((m : Int)))).setCell ⟨p0 + 1 + 1, 1, none⟩ (.int .i64 (own.a))).setCell ⟨p0 + 1 + 1, 2, none⟩ (.int .i64 (own.b))).setCell ⟨p0 + 1 + 1, 3, none⟩ (.int .i64 (own.c))) mb _ := mpu.of_block (by rw [Below.heap_setCell _ _ _ mb (by show mb ≠ p0 + 1 + 1; exact fun e => blk_neMap q6p mpu e.symm), Below.heap_setCell _ _ _ mb (by show mb ≠ p0 + 1 + 1; exact fun e => blk_neMap q6p mpu e.symm), Below.heap_setCell _ _ _ mb (by show mb ≠ p0 + 1 + 1; exact fun e => blk_neMap q6p mpu e.symm), Below.heap_setCell _ _ _ mb (by show mb ≠ p0 + 1 + 1; exact fun e => blk_neMap q6p mpu e.symm)])
          have HMZ := Lib.hid hmz
          clear hmz
          go_wp2_with fail
          refine bodyPost_ret (results_cell_row rfl _ _ (p0 + 1 + 1) 139 _ (0, 0) _ rfl qz rfl rfl rfl) rfl ?_
          exact ⟨⟨m, own, _, rfl, HPL.out, HMZ.out, ko.put HPL.out, hfz⟩⟩
      | some x =>
        obtain ⟨m, own⟩ := x
        have hpl := hko l _ hF
        have HPL := Lib.hid hpl
        rw [hF] at hlk
        clear hF hpl
        unfold plV at hlk
        have X7 := ex_alloc (Below.refl W1.heap.size W1) (.cells #[.int .i64 (m : Int), .int .i64 own.a, .int .i64 own.b, .int .i64 own.c] 139)
        have q7 : Blk (W1.alloc (.cells #[.int .i64 (m : Int), .int .i64 own.a, .int .i64 own.b, .int .i64 own.c] 139)) W1.heap.size 139 #[.int .i64 (m : Int), .int .i64 own.a, .int .i64 own.b, .int .i64 own.c] := Blk.new _ _ _
        have q67 := q6.below X7 q6.lt
        have mp7 := mp1.below X7
        have fr7 := Fr.below (R := fun b => b = mb) (ex_trans hb1 X7)
        go_upto_region 5 with fail
        rw [hzz] at q7
        generalize W1.alloc (.cells #[.int .i64 (m : Int), .int .i64 own.a, .int .i64 own.b, .int .i64 own.c] 139) = W7 at *
        skip
        have y0 : W7.cell? ⟨p0 + 1 + 1 + 1, 0, none⟩ = some (.int .i64 (m : Int)) := q7.cell 0
        have y1 : W7.cell? ⟨p0 + 1 + 1 + 1, 1, none⟩ = some (.int .i64 own.a) := q7.cell 1
        have y2 : W7.cell? ⟨p0 + 1 + 1 + 1, 2, none⟩ = some (.int .i64 own.b) := q7.cell 2
        have y3 : W7.cell? ⟨p0 + 1 + 1 + 1, 3, none⟩ = some (.int .i64 own.c) := q7.cell 3
        have ly := q7.lt
        have zc07 : W7.cell? ⟨p0 + 1 + 1, 0, none⟩ = some (.int .i64 0) := q67.cell 0
        have zc17 : W7.cell? ⟨p0 + 1 + 1, 1, none⟩ = some (.int .i64 0) := q67.cell 1
        have zc27 : W7.cell? ⟨p0 + 1 + 1, 2, none⟩ = some (.int .i64 0) := q67.cell 2
        have zc37 : W7.cell? ⟨p0 + 1 + 1, 3, none⟩ = some (.int .i64 0) := q67.cell 3
        have lz7 := q67.lt
        have fz7 := q67.frozen0
        have qz := (((q67.set_ 0 (.int .i64 ((m : Int)))).set_ 1 (.int .i64 (own.a))).set_ 2 (.int .i64 (own.b))).set_ 3 (.int .i64 (own.c))
        simp only [List.setIfInBounds_toArray, List.set_cons_zero, List.set_cons_succ] at qz
        have hfz : Fr (fun b => b = mb) W ((((W7.setCell ⟨p0 + 1 + 1, 0, none⟩ (.int .i64 ((m : Int)))).setCell ⟨p0 + 1 + 1, 1, none⟩ (.int .i64 (own.a))).setCell ⟨p0 + 1 + 1, 2, none⟩ (.int .i64 (own.b))).setCell ⟨p0 + 1 + 1, 3, none⟩ (.int .i64 (own.c))) := ⟨fr7.os, fr7.tape, fr7.output, by simp; exact fr7.size, fun k hk hn => by
          have := HP0.out
          rw [Below.heap_setCell _ _ _ k (by show k ≠ p0 + 1 + 1; omega), Below.heap_setCell _ _ _ k (by show k ≠ p0 + 1 + 1; omega), Below.heap_setCell _ _ _ k (by show k ≠ p0 + 1 + 1; omega), Below.heap_setCell _ _ _ k (by show k ≠ p0 + 1 + 1; omega)]
          exact fr7.block k hk hn⟩
        have hmz : MpIs keyV plV ((((W7.setCell ⟨p0 + 1 + 1, 0, none⟩ (.int .i64 ((m : Int)))).setCell ⟨p0 + 1 + 1, 1, none⟩ (.int .i64 (own.a))).setCell ⟨p0 + 1 + 1, 2, none⟩ (.int .i64 (own.b))).setCell ⟨p0 + 1 + 1, 3, none⟩ (.int .i64 (own.c))) mb _ := mp7.of_block (by rw [Below.heap_setCell _ _ _ mb (by show mb ≠ p0 + 1 + 1; exact fun e => blk_neMap q67 mp7 e.symm), Below.heap_setCell _ _ _ mb (by show mb ≠ p0 + 1 + 1; exact fun e => blk_neMap q67 mp7 e.symm), Below.heap_setCell _ _ _ mb (by show mb ≠ p0 + 1 + 1; exact fun e => blk_neMap q67 mp7 e.symm), Below.heap_setCell _ _ _ mb (by show mb ≠ p0 + 1 + 1; exact fun e => blk_neMap q67 mp7 e.symm)])
        have HMZ := Lib.hid hmz
        clear hmz
        go_wp2_with fail
        refine bodyPost_ret (results_cell_row rfl _ _ (p0 + 1 + 1) 139 _ (0, 0) _ rfl qz rfl rfl rfl) rfl ?_
        exact ⟨⟨m, own, F, rfl, HPL.out, HMZ.out, hko, hfz⟩⟩
end Go.Proofs.Ythihdiilokdidaa
end

section
namespace Go.Proofs.Ythihdiilokdidaa
open Go.RowKit
/-- a list of a list of lists. -/
def gL (l : List (List Int)) (k : Nat) : List Int := l.getD k []
structure Tt where
  fs : List Int
  vs : List (List Int)
  gs : List Int
def Tt.F (t : Tt) : Nat → Int := gI t.fs
def Tt.V (t : Tt) : Nat → Nat → Int := fun r d => gI (gL t.vs r) d
def Tt.G (t : Tt) : Nat → Int := gI t.gs
structure Bk where
  fs : List Int
  gs : List Int
/-- a room's numbers are as they may be. -/
def rowT (s : Ws) (t : Tt) (i : Nat) : Bool := inB (gI t.fs i) (gRm s.rooms i).fst.lo (gRm s.rooms i).fst.hi && (decide (((gL t.vs i).length : Int) = s.days) && allTo (fun d => inB (gI (gL t.vs i) d) (gRm s.rooms i).vap.lo (gRm s.rooms i).vap.hi) (gL t.vs i).length)
def movT (s : Ws) (gs : List Int) (i : Nat) : Bool := inB (gI gs i) (gMv s.moves i).g.lo (gMv s.moves i).g.hi
def lenT (s : Ws) (t : Tt) : Bool := decide (t.fs.length = s.rooms.length) && (decide (t.vs.length = s.rooms.length) && decide (t.gs.length = s.moves.length))
def truT (s : Ws) (t : Tt) : Bool := lenT s t && (allTo (rowT s t) s.rooms.length && allTo (movT s t.gs) s.moves.length)
theorem lenT_iff {s : Ws} {t : Tt} : lenT s t = true ↔ t.fs.length = s.rooms.length ∧ t.vs.length = s.rooms.length ∧ t.gs.length = s.moves.length := by simp [lenT]
theorem truT_iff {s : Ws} {t : Tt} (hd : s.days = (s.wo.days : Int)) : truT s t = true ↔ (t.fs.length = s.rooms.length ∧ t.vs.length = s.rooms.length ∧ t.gs.length = s.moves.length) ∧ (∀ r, r < s.rooms.length → (gL t.vs r).length = s.wo.days) ∧ TruF s.wo t.F t.V t.G := by
  unfold truT
  rw [Bool.and_eq_true, Bool.and_eq_true, lenT_iff, allTo_iff, allTo_iff]
  constructor
  · rintro ⟨h1, h2, h3⟩
    have hr : ∀ r, r < s.rooms.length → inR (gI t.fs r) (gRm s.rooms r).fst ∧ (gL t.vs r).length = s.wo.days ∧ ∀ d, d < (gL t.vs r).length → inR (gI (gL t.vs r) d) (gRm s.rooms r).vap := fun r hr => by
      have := h2 r hr
      unfold rowT at this
      rw [Bool.and_eq_true, Bool.and_eq_true, inB_iff, decide_eq_true_eq, allTo_iff] at this
      refine ⟨this.1, by have := this.2.1; omega, fun d hd' => inB_iff.1 (this.2.2 d hd')⟩
    exact ⟨h1, fun r h => (hr r h).2.1, ⟨fun r h => (hr r h).1, fun r d h hd' => (hr r h).2.2 d (by have := (hr r h).2.1; have e : s.wo.rooms.length = s.rooms.length := rfl; omega), fun i hi => inB_iff.1 (h3 i hi)⟩⟩
  · rintro ⟨h1, h2, h3⟩
    refine ⟨h1, fun r hr => ?_, fun i hi => inB_iff.2 (h3.mov i hi)⟩
    unfold rowT
    rw [Bool.and_eq_true, Bool.and_eq_true, inB_iff, decide_eq_true_eq, allTo_iff]
    exact ⟨h3.fst r hr, by rw [h2 r hr, hd], fun d hd' => inB_iff.2 (h3.vap r d hr (by have := h2 r hr; omega))⟩
def bookB (s : Ws) (b : Bk) : Bool := decide (b.fs.length = s.rooms.length) && (decide (b.gs.length = s.moves.length) && (allTo (fun k => inB (gI b.fs k) 0 2000) b.fs.length && allTo (fun k => inB (gI b.gs k) 0 2000) b.gs.length))
theorem bookB_iff {s : Ws} {b : Bk} : bookB s b = true ↔ b.fs.length = s.rooms.length ∧ b.gs.length = s.moves.length ∧ (∀ k, k < s.rooms.length → 0 ≤ gI b.fs k ∧ gI b.fs k ≤ 2000) ∧ ∀ k, k < s.moves.length → 0 ≤ gI b.gs k ∧ gI b.gs k ≤ 2000 := by
  unfold bookB
  rw [Bool.and_eq_true, Bool.and_eq_true, Bool.and_eq_true, decide_eq_true_eq, decide_eq_true_eq, allTo_iff, allTo_iff]
  constructor
  · rintro ⟨h1, h2, h3, h4⟩
    exact ⟨h1, h2, fun k hk => inB_iff.1 (h3 k (by omega)), fun k hk => inB_iff.1 (h4 k (by omega))⟩
  · rintro ⟨h1, h2, h3, h4⟩
    exact ⟨h1, h2, fun k hk => inB_iff.2 (h3 k (by omega)), fun k hk => inB_iff.2 (h4 k (by omega))⟩
/-- what a book says of a room at the end of a day. -/
def saysF (w : Wo) (b : Bk) (r d : Nat) : Int := gI b.fs r + esum (fun e : Nat => comes w (gI b.gs) r e w.moves.length) (List.range (d + 1))
theorem comes_succ (w : Wo) (G : Nat → Int) (r d : Int) (k : Nat) : comes w G r d (k + 1) = comes w G r d k + if (gMv w.moves k).day = d then (if (gMv w.moves k).dst = r then G k else 0) - (if (gMv w.moves k).src = r then G k else 0) else 0 := by
  unfold comes
  rw [List.range_succ, esum_app]
  simp [esum]
theorem comes_bd (w : Wo) {G : Nat → Int} (r d : Int) : ∀ k : Nat, (∀ i, i < k → 0 ≤ G i ∧ G i ≤ 2000) → -(2000 * k) ≤ comes w G r d k ∧ comes w G r d k ≤ 2000 * k
  | 0, _ => by simp [comes, esum]
  | k + 1, h => by
    have ih := comes_bd w r d k (fun i hi => h i (by omega))
    have hk := h k (by omega)
    rw [comes_succ]
    split <;> (try split) <;> (try split) <;> omega
theorem saysF_succ (w : Wo) (b : Bk) (r d : Nat) : gI b.fs r + esum (fun e : Nat => comes w (gI b.gs) r e w.moves.length) (List.range (d + 1)) = (gI b.fs r + esum (fun e : Nat => comes w (gI b.gs) r e w.moves.length) (List.range d)) + comes w (gI b.gs) r d w.moves.length := by
  rw [List.range_succ, esum_app]
  simp [esum]
  omega
theorem stk_succ (w : Wo) (F : Nat → Int) (V : Nat → Nat → Int) (G : Nat → Int) (r d : Nat) : stk w F V G r d = (if d = 0 then F r else stk w F V G r (d - 1)) + (comes w G r (d : Int) w.moves.length - V r d) := by
  cases d with
  | zero => simp [stk]
  | succ d => simp [stk]
/-- a truth that lies in memory. -/
structure TtIn (w : World) (B : Nat) (t : Tt) (Af Av Ag : Option Addr) (rV : Nat → Option Addr) (rcV : Nat → Nat) : Prop where
  fs : SlAt w B 1 Af t.fs.length (fI t.fs)
  vs : SlAt w B 1 Av t.vs.length (fun k _ => .slice (rV k) (gL t.vs k).length (rcV k))
  row : ∀ k, k < t.vs.length → SlAt w B 1 (rV k) (gL t.vs k).length (fI (gL t.vs k))
  gs : SlAt w B 1 Ag t.gs.length (fI t.gs)
theorem TtIn.go {w w' : World} {t : Tt} {Af Av Ag : Option Addr} {rV : Nat → Option Addr} {rcV : Nat → Nat} (h : TtIn w w.heap.size t Af Av Ag rV rcV) (hb : Below w.heap.size w w') : TtIn w' w'.heap.size t Af Av Ag rV rcV :=
  ⟨(h.fs.below hb).up hb.size, (h.vs.below hb).up hb.size, fun k hk => ((h.row k hk).below hb).up hb.size, (h.gs.below hb).up hb.size⟩
theorem TtIn.below {w w' : World} {B : Nat} {t : Tt} {Af Av Ag : Option Addr} {rV : Nat → Option Addr} {rcV : Nat → Nat} (h : TtIn w B t Af Av Ag rV rcV) (hb : Below B w w') : TtIn w' B t Af Av Ag rV rcV :=
  ⟨h.fs.below hb, h.vs.below hb, fun k hk => (h.row k hk).below hb, h.gs.below hb⟩
/-- lists that are not too long for the walks. -/
structure SmT (t : Tt) : Prop where
  fs : t.fs.length ≤ 1000
  vs : t.vs.length ≤ 1000
  gs : t.gs.length ≤ 1000
  row : ∀ k, k < t.vs.length → (gL t.vs k).length ≤ 1000
/-- numbers in memory: n rows of D. -/
structure MatIn (w : World) (B : Nat) (A : Option Addr) (n D : Nat) (L : Nat → Nat → Int) (rA : Nat → Option Addr) (rc : Nat → Nat) : Prop where
  out : SlAt w B 1 A n (fun k _ => .slice (rA k) D (rc k))
  row : ∀ k, k < n → SlAt w B 1 (rA k) D (fun d _ => .int .i64 (L k d))
theorem MatIn.go {w w' : World} {A : Option Addr} {n D : Nat} {L : Nat → Nat → Int} {rA : Nat → Option Addr} {rc : Nat → Nat} (h : MatIn w w.heap.size A n D L rA rc) (hb : Below w.heap.size w w') : MatIn w' w'.heap.size A n D L rA rc :=
  ⟨(h.out.below hb).up hb.size, fun k hk => ((h.row k hk).below hb).up hb.size⟩
abbrev IRow := Option Addr × Nat × List Int
def cIR (x : IRow) : List Value := [.slice x.1 x.2.2.length x.2.1]
def cI1 (n : Int) : List Value := [.int .i64 n]
abbrev IOwn (W : World) (B : Nat) (v : Value) (X : List IRow) : Prop := NOwn 28 1 3 1 cIR (fun x => x.1) (fun x => x.2.2.length) (fun x => fI x.2.2) W B v X
theorem IOwn.lays {W : World} {B n D : Nat} {v : Value} {X : List IRow} {L : Nat → Nat → Int} (h : IOwn W B v X) (hX : X.map (fun x => x.2.2) = (List.range n).map fun r => (List.range D).map (L r)) : ∃ A c rA rc, v = .slice A n c ∧ MatIn W W.heap.size A n D L rA rc := by
  have hl : X.length = n := by have := congrArg List.length hX; simpa using this
  have hx : ∀ (k : Nat) (hk : k < X.length), (X[k]).2.2 = (List.range D).map (L k) := fun k hk => by
    have h1 : (X.map (fun x => x.2.2))[k]? = some (X[k]).2.2 := by simp [hk]
    rw [hX] at h1
    have hk' : k < n := by omega
    have h2 : ((List.range n).map fun r => (List.range D).map (L r))[k]? = some ((List.range D).map (L k)) := by simp [hk']
    rw [h2] at h1
    exact (Option.some.inj h1).symm
  obtain ⟨A, c, e, _, _, hr⟩ := own_row (c := cIR) (sz := 1) (fun _ => rfl) (f := fun k _ => .slice (X.getD k default).1 D (X.getD k default).2.1) (fun k hk j hj => by
      have hj0 : j = 0 := by omega
      subst hj0
      have hlen : (X[k]).2.2.length = D := by rw [hx k hk]; simp
      simp [cIR, hk, hlen]) h.own
  refine ⟨A, c, fun k => (X.getD k default).1, fun k => (X.getD k default).2.1, by rw [e, hl], ?_, fun k hk => ?_⟩
  · have := hr.sl
    rw [hl] at this
    exact this
  · have hkX : k < X.length := by omega
    have h1 := (NOwn.ins h X[k] (List.getElem_mem hkX)).sl
    have e1 := hx k hkX
    have e2 : X.getD k default = X[k] := by simp [hkX]
    show SlAt W W.heap.size 1 (X.getD k default).1 D (fun d _ => .int .i64 (L k d))
    change SlAt W W.heap.size 1 (X[k]).1 (X[k]).2.2.length (fI (X[k]).2.2) at h1
    rw [e2]
    rw [e1] at h1
    rw [List.length_map, List.length_range] at h1
    intro hD
    obtain ⟨b, off, hA, hb, hc⟩ := h1 hD
    refine ⟨b, off, hA, hb, fun d j hd hj => ?_⟩
    rw [hc d j hd hj]
    have hg : gI ((List.range D).map (L k)) d = L k d := by simp [gI, hd]
    simp [fI, hg]
theorem lay_ints {W : World} {B : Nat} {v : Value} {l : List Int} (h : W.ownsRow B 3 1 v l.length (l.flatMap cI1)) : ∃ A k, v = .slice A l.length k ∧ l.length ≤ k ∧ k ≤ maxLen ∧ RowAt W B 3 1 A l.length (fI l) :=
  own_row (c := cI1) (sz := 1) (fun _ => rfl) (fun k hk j hj => by
    have hg : gI l k = l[k] := by simp [gI, hk]
    have hj0 : j = 0 := by omega
    subst hj0
    simp [cI1, fI, hg]) h
end Go.Proofs.Ythihdiilokdidaa
end

section
namespace Go.Proofs.Ythihdiilokdidaa
open Go.Shelf
def laysNm215_ren : Go.Shelf.Ren := ⟨fun | 15 => 71 | n => n, fun | 22 => 28 | 3 => 3 | 4 => 4 | n => n, fun | n => n⟩
theorem laysNm215 : Go.Proofs.Lays2.n15 Try.prog laysNm215_ren := {
  mixed := by kernel_rfl
  f15 := Try.func71.trans (congrArg some (by kernel_rfl))
  t3 := Try.underlying3
  a3 := Try.isAgg3
  z3 := Try.sizeOf3
  v3 := Try.zeroValue3
  t4 := Try.underlying4
  a4 := Try.isAgg4
  z4 := Try.sizeOf4
  v4 := Try.zeroValue4
  t22 := Try.underlying28
  a22 := Try.isAgg28
  z22 := Try.sizeOf28
  v22 := Try.zeroValue28
  i3 := by kernel_rfl }
open Go.RowKit Go.Lib in
theorem slices_Clone_int (b off n c : Nat) (zs : List Int) (w : World) (hz : n ≤ zs.length) (hbig : n * 8 ≤ 140737488355328) (hc : ∀ j, j < zs.length → w.cell? ⟨b, off + j, none⟩ = some (.int .i64 (zs.getD j 0))) :
    Calls Try.prog 71 #[.slice (some ⟨b, off, none⟩) n c] w fun e w' => ∃ v', e = .returned v' ∧ w'.ownsRow w.heap.size 3 1 v' n ((zs.take n).map (Value.int .i64)) ∧ v' ≠ .slice none 0 0 ∧ Below w.heap.size w w' := Any.slices_Clone_int laysNm215 b off n c zs w hz hbig hc
open Go.RowKit Go.Lib in
theorem slices_Clone_int_nil (n c : Nat) (w : World) :
    Calls Try.prog 71 #[.slice none n c] w fun e w' => e = .returned (.slice none 0 0) ∧ w' = w := Any.slices_Clone_int_nil laysNm215 n c w
open Go.RowKit Go.Lib in
theorem slices_Clone_int_zero (a : Addr) (c : Nat) (w : World) :
    Calls Try.prog 71 #[.slice (some a) 0 c] w fun e w' => ∃ v', e = .returned v' ∧ w'.ownsRow w.heap.size 3 1 v' 0 [] ∧ v' ≠ .slice none 0 0 ∧ Below w.heap.size w w' := Any.slices_Clone_int_zero laysNm215 a c w
end Go.Proofs.Ythihdiilokdidaa
end

section
namespace Go.Proofs.Ythihdiilokdidaa
open Go.RowKit
attribute [local go_sem] Ex.cell? Ex.frozen?

set_option maxRecDepth 100000 in
set_option maxHeartbeats 3200000 in
theorem move_any (s : Ws) (Ar Am Aw : Option Addr) (cr cm cw : Nat) (m : Mv) (w : World) (hr : s.rooms.length ≤ 1000000) (hd : 1 ≤ s.days ∧ s.days ≤ 6) :
    Calls Try.prog 90 #[.agg #[.slice Ar s.rooms.length cr, .int .i64 s.days, .slice Am s.moves.length cm, .slice Aw s.wgs.length cw], .agg #[.int .i64 m.day, .int .i64 m.src, .int .i64 m.dst, .int .i64 m.g.lo, .int .i64 m.g.hi]] w fun e w' => e = .returned (.bool (moveB s.rooms.length s.days m)) ∧ Below w.heap.size w w' := by
  obtain ⟨day, src, dst, ⟨glo, ghi⟩⟩ := m
  have hb1 := ex_alloc (ex_alloc (Below.refl w.heap.size w) (.cells #[.slice Ar s.rooms.length cr, .int .i64 s.days, .slice Am s.moves.length cm, .slice Aw s.wgs.length cw] 42)) (.cells #[.int .i64 day, .int .i64 src, .int .i64 dst, .int .i64 glo, .int .i64 ghi] 122)
  have qw : Blk ((w.alloc (.cells #[.slice Ar s.rooms.length cr, .int .i64 s.days, .slice Am s.moves.length cm, .slice Aw s.wgs.length cw] 42)).alloc (.cells #[.int .i64 day, .int .i64 src, .int .i64 dst, .int .i64 glo, .int .i64 ghi] 122)) w.heap.size 42 #[.slice Ar s.rooms.length cr, .int .i64 s.days, .slice Am s.moves.length cm, .slice Aw s.wgs.length cw] := (Blk.new _ _ _).alloc _
  have qm : Blk ((w.alloc (.cells #[.slice Ar s.rooms.length cr, .int .i64 s.days, .slice Am s.moves.length cm, .slice Aw s.wgs.length cw] 42)).alloc (.cells #[.int .i64 day, .int .i64 src, .int .i64 dst, .int .i64 glo, .int .i64 ghi] 122)) (w.heap.size + 1) 122 #[.int .i64 day, .int .i64 src, .int .i64 dst, .int .i64 glo, .int .i64 ghi] := Blk.new' _ _ _ (by simp)
  go_enter Try.func90, Try.ntmps90
  go_wp2_with fail
  generalize (w.alloc (.cells #[.slice Ar s.rooms.length cr, .int .i64 s.days, .slice Am s.moves.length cm, .slice Aw s.wgs.length cw] 42)).alloc (.cells #[.int .i64 day, .int .i64 src, .int .i64 dst, .int .i64 glo, .int .i64 ghi] 122) = V at *
  obtain ⟨pw, hpw⟩ : ∃ p, w.heap.size = p := ⟨_, rfl⟩
  rw [hpw] at qw qm ⊢
  obtain ⟨pm, hpm⟩ : ∃ p, pw + 1 = p := ⟨_, rfl⟩
  rw [hpm] at qm ⊢
  clear hpm
  have aV0 : V.cell? ⟨pw, 0, none⟩ = some (.slice Ar s.rooms.length cr) := qw.cell 0
  have aV1 : V.cell? ⟨pw, 1, none⟩ = some (.int .i64 s.days) := qw.cell 1
  have aV2 : V.cell? ⟨pw, 2, none⟩ = some (.slice Am s.moves.length cm) := qw.cell 2
  have aV3 : V.cell? ⟨pw, 3, none⟩ = some (.slice Aw s.wgs.length cw) := qw.cell 3
  have bV0 : V.cell? ⟨pm, 0, none⟩ = some (.int .i64 day) := qm.cell 0
  have bV1 : V.cell? ⟨pm, 1, none⟩ = some (.int .i64 src) := qm.cell 1
  have bV2 : V.cell? ⟨pm, 2, none⟩ = some (.int .i64 dst) := qm.cell 2
  have bV3 : V.cell? ⟨pm, 3, none⟩ = some (.int .i64 glo) := qm.cell 3
  have bV4 : V.cell? ⟨pm, 4, none⟩ = some (.int .i64 ghi) := qm.cell 4
  have alV := qw.lt
  have blV := qm.lt
  refine (dayN_any s Ar Am Aw cr cm cw day V hd).mono ?_
  rintro e U1 ⟨rfl, hU1⟩
  replace qw := qw.below hU1 qw.lt
  replace qm := qm.below hU1 qm.lt
  have B_U1 := ex_trans hb1 hU1
  cases hday : inB day 0 (s.days - 1)
  · have aU10 : U1.cell? ⟨pw, 0, none⟩ = some (.slice Ar s.rooms.length cr) := qw.cell 0
    have aU11 : U1.cell? ⟨pw, 1, none⟩ = some (.int .i64 s.days) := qw.cell 1
    have aU12 : U1.cell? ⟨pw, 2, none⟩ = some (.slice Am s.moves.length cm) := qw.cell 2
    have aU13 : U1.cell? ⟨pw, 3, none⟩ = some (.slice Aw s.wgs.length cw) := qw.cell 3
    have bU10 : U1.cell? ⟨pm, 0, none⟩ = some (.int .i64 day) := qm.cell 0
    have bU11 : U1.cell? ⟨pm, 1, none⟩ = some (.int .i64 src) := qm.cell 1
    have bU12 : U1.cell? ⟨pm, 2, none⟩ = some (.int .i64 dst) := qm.cell 2
    have bU13 : U1.cell? ⟨pm, 3, none⟩ = some (.int .i64 glo) := qm.cell 3
    have bU14 : U1.cell? ⟨pm, 4, none⟩ = some (.int .i64 ghi) := qm.cell 4
    have alU1 := qw.lt
    have blU1 := qm.lt
    go_wp2
    go_ret
    exact ⟨ret_bool (by simp [moveB, hday]), B_U1⟩
  · have aU10 : U1.cell? ⟨pw, 0, none⟩ = some (.slice Ar s.rooms.length cr) := qw.cell 0
    have aU11 : U1.cell? ⟨pw, 1, none⟩ = some (.int .i64 s.days) := qw.cell 1
    have aU12 : U1.cell? ⟨pw, 2, none⟩ = some (.slice Am s.moves.length cm) := qw.cell 2
    have aU13 : U1.cell? ⟨pw, 3, none⟩ = some (.slice Aw s.wgs.length cw) := qw.cell 3
    have bU10 : U1.cell? ⟨pm, 0, none⟩ = some (.int .i64 day) := qm.cell 0
    have bU11 : U1.cell? ⟨pm, 1, none⟩ = some (.int .i64 src) := qm.cell 1
    have bU12 : U1.cell? ⟨pm, 2, none⟩ = some (.int .i64 dst) := qm.cell 2
    have bU13 : U1.cell? ⟨pm, 3, none⟩ = some (.int .i64 glo) := qm.cell 3
    have bU14 : U1.cell? ⟨pm, 4, none⟩ = some (.int .i64 ghi) := qm.cell 4
    have alU1 := qw.lt
    have blU1 := qm.lt
    by_cases hvsrc : src = -1
    · subst hvsrc
      by_cases hvdst : dst = -1
      · subst hvdst
        go_wp2
        go_ret
        exact ⟨ret_bool (by simp [moveB, sideB, hday]), B_U1⟩
      · have hwdst : (dst == (-1 : Int)) = false := by simp [hvdst]
        go_wp2_with fail
        refine (roomN_any s Ar Am Aw cr cm cw dst U1 hr).mono ?_
        rintro e U2 ⟨rfl, hU2⟩
        replace qw := qw.below hU2 qw.lt
        replace qm := qm.below hU2 qm.lt
        have B_U2 := ex_trans B_U1 hU2
        cases hdst : inB dst 0 ((s.rooms.length : Int) - 1)
        · have aU20 : U2.cell? ⟨pw, 0, none⟩ = some (.slice Ar s.rooms.length cr) := qw.cell 0
          have aU21 : U2.cell? ⟨pw, 1, none⟩ = some (.int .i64 s.days) := qw.cell 1
          have aU22 : U2.cell? ⟨pw, 2, none⟩ = some (.slice Am s.moves.length cm) := qw.cell 2
          have aU23 : U2.cell? ⟨pw, 3, none⟩ = some (.slice Aw s.wgs.length cw) := qw.cell 3
          have bU20 : U2.cell? ⟨pm, 0, none⟩ = some (.int .i64 day) := qm.cell 0
          have bU21 : U2.cell? ⟨pm, 1, none⟩ = some (.int .i64 (-1)) := qm.cell 1
          have bU22 : U2.cell? ⟨pm, 2, none⟩ = some (.int .i64 dst) := qm.cell 2
          have bU23 : U2.cell? ⟨pm, 3, none⟩ = some (.int .i64 glo) := qm.cell 3
          have bU24 : U2.cell? ⟨pm, 4, none⟩ = some (.int .i64 ghi) := qm.cell 4
          have alU2 := qw.lt
          have blU2 := qm.lt
          go_wp2
          go_ret
          exact ⟨ret_bool (by simp [moveB, sideB, hday, hvdst, hdst]), B_U2⟩
        · have aU20 : U2.cell? ⟨pw, 0, none⟩ = some (.slice Ar s.rooms.length cr) := qw.cell 0
          have aU21 : U2.cell? ⟨pw, 1, none⟩ = some (.int .i64 s.days) := qw.cell 1
          have aU22 : U2.cell? ⟨pw, 2, none⟩ = some (.slice Am s.moves.length cm) := qw.cell 2
          have aU23 : U2.cell? ⟨pw, 3, none⟩ = some (.slice Aw s.wgs.length cw) := qw.cell 3
          have bU20 : U2.cell? ⟨pm, 0, none⟩ = some (.int .i64 day) := qm.cell 0
          have bU21 : U2.cell? ⟨pm, 1, none⟩ = some (.int .i64 (-1)) := qm.cell 1
          have bU22 : U2.cell? ⟨pm, 2, none⟩ = some (.int .i64 dst) := qm.cell 2
          have bU23 : U2.cell? ⟨pm, 3, none⟩ = some (.int .i64 glo) := qm.cell 3
          have bU24 : U2.cell? ⟨pm, 4, none⟩ = some (.int .i64 ghi) := qm.cell 4
          have alU2 := qw.lt
          have blU2 := qm.lt
          by_cases hne : (-1 : Int) = dst
          · have hnw : ((-1 : Int) != dst) = false := by simp [hne]
            have HNE := Lib.hid hne
            clear hne
            go_wp2
            go_ret
            exact ⟨ret_bool (by simp [moveB, sideB, hday, hvdst, hdst, HNE.out]), B_U2⟩
          · have hnw : ((-1 : Int) != dst) = true := by simp [hne]
            have HNE := Lib.hid hne
            clear hne
            go_wp2_with fail
            refine (toR_any glo ghi 2000 U2).mono ?_
            rintro e U3 ⟨rfl, hU3⟩
            replace qw := qw.below hU3 qw.lt
            replace qm := qm.below hU3 qm.lt
            have B_U3 := ex_trans B_U2 hU3
            cases hto : toB glo ghi 2000
            · have aU30 : U3.cell? ⟨pw, 0, none⟩ = some (.slice Ar s.rooms.length cr) := qw.cell 0
              have aU31 : U3.cell? ⟨pw, 1, none⟩ = some (.int .i64 s.days) := qw.cell 1
              have aU32 : U3.cell? ⟨pw, 2, none⟩ = some (.slice Am s.moves.length cm) := qw.cell 2
              have aU33 : U3.cell? ⟨pw, 3, none⟩ = some (.slice Aw s.wgs.length cw) := qw.cell 3
              have bU30 : U3.cell? ⟨pm, 0, none⟩ = some (.int .i64 day) := qm.cell 0
              have bU31 : U3.cell? ⟨pm, 1, none⟩ = some (.int .i64 (-1)) := qm.cell 1
              have bU32 : U3.cell? ⟨pm, 2, none⟩ = some (.int .i64 dst) := qm.cell 2
              have bU33 : U3.cell? ⟨pm, 3, none⟩ = some (.int .i64 glo) := qm.cell 3
              have bU34 : U3.cell? ⟨pm, 4, none⟩ = some (.int .i64 ghi) := qm.cell 4
              have alU3 := qw.lt
              have blU3 := qm.lt
              go_wp2
              go_ret
              exact ⟨ret_bool (by simp [moveB, sideB, hday, hvdst, hdst, HNE.out, hto]), B_U3⟩
            · have aU30 : U3.cell? ⟨pw, 0, none⟩ = some (.slice Ar s.rooms.length cr) := qw.cell 0
              have aU31 : U3.cell? ⟨pw, 1, none⟩ = some (.int .i64 s.days) := qw.cell 1
              have aU32 : U3.cell? ⟨pw, 2, none⟩ = some (.slice Am s.moves.length cm) := qw.cell 2
              have aU33 : U3.cell? ⟨pw, 3, none⟩ = some (.slice Aw s.wgs.length cw) := qw.cell 3
              have bU30 : U3.cell? ⟨pm, 0, none⟩ = some (.int .i64 day) := qm.cell 0
              have bU31 : U3.cell? ⟨pm, 1, none⟩ = some (.int .i64 (-1)) := qm.cell 1
              have bU32 : U3.cell? ⟨pm, 2, none⟩ = some (.int .i64 dst) := qm.cell 2
              have bU33 : U3.cell? ⟨pm, 3, none⟩ = some (.int .i64 glo) := qm.cell 3
              have bU34 : U3.cell? ⟨pm, 4, none⟩ = some (.int .i64 ghi) := qm.cell 4
              have alU3 := qw.lt
              have blU3 := qm.lt
              go_wp2
              go_ret
              exact ⟨ret_bool (by simp [moveB, sideB, hday, hvdst, hdst, HNE.out, hto]), B_U3⟩
    · have hwsrc : (src == (-1 : Int)) = false := by simp [hvsrc]
      go_wp2_with fail
      refine (roomN_any s Ar Am Aw cr cm cw src U1 hr).mono ?_
      rintro e U4 ⟨rfl, hU4⟩
      replace qw := qw.below hU4 qw.lt
      replace qm := qm.below hU4 qm.lt
      have B_U4 := ex_trans B_U1 hU4
      cases hsrc : inB src 0 ((s.rooms.length : Int) - 1)
      · have aU40 : U4.cell? ⟨pw, 0, none⟩ = some (.slice Ar s.rooms.length cr) := qw.cell 0
        have aU41 : U4.cell? ⟨pw, 1, none⟩ = some (.int .i64 s.days) := qw.cell 1
        have aU42 : U4.cell? ⟨pw, 2, none⟩ = some (.slice Am s.moves.length cm) := qw.cell 2
        have aU43 : U4.cell? ⟨pw, 3, none⟩ = some (.slice Aw s.wgs.length cw) := qw.cell 3
        have bU40 : U4.cell? ⟨pm, 0, none⟩ = some (.int .i64 day) := qm.cell 0
        have bU41 : U4.cell? ⟨pm, 1, none⟩ = some (.int .i64 src) := qm.cell 1
        have bU42 : U4.cell? ⟨pm, 2, none⟩ = some (.int .i64 dst) := qm.cell 2
        have bU43 : U4.cell? ⟨pm, 3, none⟩ = some (.int .i64 glo) := qm.cell 3
        have bU44 : U4.cell? ⟨pm, 4, none⟩ = some (.int .i64 ghi) := qm.cell 4
        have alU4 := qw.lt
        have blU4 := qm.lt
        go_wp2
        go_ret
        exact ⟨ret_bool (by simp [moveB, sideB, hday, hvsrc, hsrc]), B_U4⟩
      · have aU40 : U4.cell? ⟨pw, 0, none⟩ = some (.slice Ar s.rooms.length cr) := qw.cell 0
        have aU41 : U4.cell? ⟨pw, 1, none⟩ = some (.int .i64 s.days) := qw.cell 1
        have aU42 : U4.cell? ⟨pw, 2, none⟩ = some (.slice Am s.moves.length cm) := qw.cell 2
        have aU43 : U4.cell? ⟨pw, 3, none⟩ = some (.slice Aw s.wgs.length cw) := qw.cell 3
        have bU40 : U4.cell? ⟨pm, 0, none⟩ = some (.int .i64 day) := qm.cell 0
        have bU41 : U4.cell? ⟨pm, 1, none⟩ = some (.int .i64 src) := qm.cell 1
        have bU42 : U4.cell? ⟨pm, 2, none⟩ = some (.int .i64 dst) := qm.cell 2
        have bU43 : U4.cell? ⟨pm, 3, none⟩ = some (.int .i64 glo) := qm.cell 3
        have bU44 : U4.cell? ⟨pm, 4, none⟩ = some (.int .i64 ghi) := qm.cell 4
        have alU4 := qw.lt
        have blU4 := qm.lt
        by_cases hvdst : dst = -1
        · subst hvdst
          by_cases hne : src = (-1 : Int)
          · have hnw : (src != (-1 : Int)) = false := by simp [hne]
            have HNE := Lib.hid hne
            clear hne
            go_wp2
            go_ret
            exact ⟨ret_bool (by simp [moveB, sideB, hday, hvsrc, hsrc, HNE.out]), B_U4⟩
          · have hnw : (src != (-1 : Int)) = true := by simp [hne]
            have HNE := Lib.hid hne
            clear hne
            go_wp2_with fail
            refine (toR_any glo ghi 2000 U4).mono ?_
            rintro e U5 ⟨rfl, hU5⟩
            replace qw := qw.below hU5 qw.lt
            replace qm := qm.below hU5 qm.lt
            have B_U5 := ex_trans B_U4 hU5
            cases hto : toB glo ghi 2000
            · have aU50 : U5.cell? ⟨pw, 0, none⟩ = some (.slice Ar s.rooms.length cr) := qw.cell 0
              have aU51 : U5.cell? ⟨pw, 1, none⟩ = some (.int .i64 s.days) := qw.cell 1
              have aU52 : U5.cell? ⟨pw, 2, none⟩ = some (.slice Am s.moves.length cm) := qw.cell 2
              have aU53 : U5.cell? ⟨pw, 3, none⟩ = some (.slice Aw s.wgs.length cw) := qw.cell 3
              have bU50 : U5.cell? ⟨pm, 0, none⟩ = some (.int .i64 day) := qm.cell 0
              have bU51 : U5.cell? ⟨pm, 1, none⟩ = some (.int .i64 src) := qm.cell 1
              have bU52 : U5.cell? ⟨pm, 2, none⟩ = some (.int .i64 (-1)) := qm.cell 2
              have bU53 : U5.cell? ⟨pm, 3, none⟩ = some (.int .i64 glo) := qm.cell 3
              have bU54 : U5.cell? ⟨pm, 4, none⟩ = some (.int .i64 ghi) := qm.cell 4
              have alU5 := qw.lt
              have blU5 := qm.lt
              go_wp2
              go_ret
              exact ⟨ret_bool (by simp [moveB, sideB, hday, hvsrc, hsrc, HNE.out, hto]), B_U5⟩
            · have aU50 : U5.cell? ⟨pw, 0, none⟩ = some (.slice Ar s.rooms.length cr) := qw.cell 0
              have aU51 : U5.cell? ⟨pw, 1, none⟩ = some (.int .i64 s.days) := qw.cell 1
              have aU52 : U5.cell? ⟨pw, 2, none⟩ = some (.slice Am s.moves.length cm) := qw.cell 2
              have aU53 : U5.cell? ⟨pw, 3, none⟩ = some (.slice Aw s.wgs.length cw) := qw.cell 3
              have bU50 : U5.cell? ⟨pm, 0, none⟩ = some (.int .i64 day) := qm.cell 0
              have bU51 : U5.cell? ⟨pm, 1, none⟩ = some (.int .i64 src) := qm.cell 1
              have bU52 : U5.cell? ⟨pm, 2, none⟩ = some (.int .i64 (-1)) := qm.cell 2
              have bU53 : U5.cell? ⟨pm, 3, none⟩ = some (.int .i64 glo) := qm.cell 3
              have bU54 : U5.cell? ⟨pm, 4, none⟩ = some (.int .i64 ghi) := qm.cell 4
              have alU5 := qw.lt
              have blU5 := qm.lt
              go_wp2
              go_ret
              exact ⟨ret_bool (by simp [moveB, sideB, hday, hvsrc, hsrc, HNE.out, hto]), B_U5⟩
        · have hwdst : (dst == (-1 : Int)) = false := by simp [hvdst]
          go_wp2_with fail
          refine (roomN_any s Ar Am Aw cr cm cw dst U4 hr).mono ?_
          rintro e U6 ⟨rfl, hU6⟩
          replace qw := qw.below hU6 qw.lt
          replace qm := qm.below hU6 qm.lt
          have B_U6 := ex_trans B_U4 hU6
          cases hdst : inB dst 0 ((s.rooms.length : Int) - 1)
          · have aU60 : U6.cell? ⟨pw, 0, none⟩ = some (.slice Ar s.rooms.length cr) := qw.cell 0
            have aU61 : U6.cell? ⟨pw, 1, none⟩ = some (.int .i64 s.days) := qw.cell 1
            have aU62 : U6.cell? ⟨pw, 2, none⟩ = some (.slice Am s.moves.length cm) := qw.cell 2
            have aU63 : U6.cell? ⟨pw, 3, none⟩ = some (.slice Aw s.wgs.length cw) := qw.cell 3
            have bU60 : U6.cell? ⟨pm, 0, none⟩ = some (.int .i64 day) := qm.cell 0
            have bU61 : U6.cell? ⟨pm, 1, none⟩ = some (.int .i64 src) := qm.cell 1
            have bU62 : U6.cell? ⟨pm, 2, none⟩ = some (.int .i64 dst) := qm.cell 2
            have bU63 : U6.cell? ⟨pm, 3, none⟩ = some (.int .i64 glo) := qm.cell 3
            have bU64 : U6.cell? ⟨pm, 4, none⟩ = some (.int .i64 ghi) := qm.cell 4
            have alU6 := qw.lt
            have blU6 := qm.lt
            go_wp2
            go_ret
            exact ⟨ret_bool (by simp [moveB, sideB, hday, hvsrc, hsrc, hvdst, hdst]), B_U6⟩
          · have aU60 : U6.cell? ⟨pw, 0, none⟩ = some (.slice Ar s.rooms.length cr) := qw.cell 0
            have aU61 : U6.cell? ⟨pw, 1, none⟩ = some (.int .i64 s.days) := qw.cell 1
            have aU62 : U6.cell? ⟨pw, 2, none⟩ = some (.slice Am s.moves.length cm) := qw.cell 2
            have aU63 : U6.cell? ⟨pw, 3, none⟩ = some (.slice Aw s.wgs.length cw) := qw.cell 3
            have bU60 : U6.cell? ⟨pm, 0, none⟩ = some (.int .i64 day) := qm.cell 0
            have bU61 : U6.cell? ⟨pm, 1, none⟩ = some (.int .i64 src) := qm.cell 1
            have bU62 : U6.cell? ⟨pm, 2, none⟩ = some (.int .i64 dst) := qm.cell 2
            have bU63 : U6.cell? ⟨pm, 3, none⟩ = some (.int .i64 glo) := qm.cell 3
            have bU64 : U6.cell? ⟨pm, 4, none⟩ = some (.int .i64 ghi) := qm.cell 4
            have alU6 := qw.lt
            have blU6 := qm.lt
            by_cases hne : src = dst
            · have hnw : (src != dst) = false := by simp [hne]
              have HNE := Lib.hid hne
              clear hne
              go_wp2
              go_ret
              exact ⟨ret_bool (by simp [moveB, sideB, hday, hvsrc, hsrc, hvdst, hdst, HNE.out]), B_U6⟩
            · have hnw : (src != dst) = true := by simp [hne]
              have HNE := Lib.hid hne
              clear hne
              go_wp2_with fail
              refine (toR_any glo ghi 2000 U6).mono ?_
              rintro e U7 ⟨rfl, hU7⟩
              replace qw := qw.below hU7 qw.lt
              replace qm := qm.below hU7 qm.lt
              have B_U7 := ex_trans B_U6 hU7
              cases hto : toB glo ghi 2000
              · have aU70 : U7.cell? ⟨pw, 0, none⟩ = some (.slice Ar s.rooms.length cr) := qw.cell 0
                have aU71 : U7.cell? ⟨pw, 1, none⟩ = some (.int .i64 s.days) := qw.cell 1
                have aU72 : U7.cell? ⟨pw, 2, none⟩ = some (.slice Am s.moves.length cm) := qw.cell 2
                have aU73 : U7.cell? ⟨pw, 3, none⟩ = some (.slice Aw s.wgs.length cw) := qw.cell 3
                have bU70 : U7.cell? ⟨pm, 0, none⟩ = some (.int .i64 day) := qm.cell 0
                have bU71 : U7.cell? ⟨pm, 1, none⟩ = some (.int .i64 src) := qm.cell 1
                have bU72 : U7.cell? ⟨pm, 2, none⟩ = some (.int .i64 dst) := qm.cell 2
                have bU73 : U7.cell? ⟨pm, 3, none⟩ = some (.int .i64 glo) := qm.cell 3
                have bU74 : U7.cell? ⟨pm, 4, none⟩ = some (.int .i64 ghi) := qm.cell 4
                have alU7 := qw.lt
                have blU7 := qm.lt
                go_wp2
                go_ret
                exact ⟨ret_bool (by simp [moveB, sideB, hday, hvsrc, hsrc, hvdst, hdst, HNE.out, hto]), B_U7⟩
              · have aU70 : U7.cell? ⟨pw, 0, none⟩ = some (.slice Ar s.rooms.length cr) := qw.cell 0
                have aU71 : U7.cell? ⟨pw, 1, none⟩ = some (.int .i64 s.days) := qw.cell 1
                have aU72 : U7.cell? ⟨pw, 2, none⟩ = some (.slice Am s.moves.length cm) := qw.cell 2
                have aU73 : U7.cell? ⟨pw, 3, none⟩ = some (.slice Aw s.wgs.length cw) := qw.cell 3
                have bU70 : U7.cell? ⟨pm, 0, none⟩ = some (.int .i64 day) := qm.cell 0
                have bU71 : U7.cell? ⟨pm, 1, none⟩ = some (.int .i64 src) := qm.cell 1
                have bU72 : U7.cell? ⟨pm, 2, none⟩ = some (.int .i64 dst) := qm.cell 2
                have bU73 : U7.cell? ⟨pm, 3, none⟩ = some (.int .i64 glo) := qm.cell 3
                have bU74 : U7.cell? ⟨pm, 4, none⟩ = some (.int .i64 ghi) := qm.cell 4
                have alU7 := qw.lt
                have blU7 := qm.lt
                go_wp2
                go_ret
                exact ⟨ret_bool (by simp [moveB, sideB, hday, hvsrc, hsrc, hvdst, hdst, HNE.out, hto]), B_U7⟩
set_option maxRecDepth 100000 in
set_option maxHeartbeats 3200000 in
theorem weighing_any (s : Ws) (Ar Am Aw : Option Addr) (cr cm cw : Nat) (x : Wg) (w : World) (hr : s.rooms.length ≤ 1000000) (hd : 1 ≤ s.days ∧ s.days ≤ 6) :
    Calls Try.prog 92 #[.agg #[.slice Ar s.rooms.length cr, .int .i64 s.days, .slice Am s.moves.length cm, .slice Aw s.wgs.length cw], .agg #[.int .i64 x.room, .int .i64 x.day, .int .i64 x.g.lo, .int .i64 x.g.hi]] w fun e w' => e = .returned (.bool (wgB s.rooms.length s.days x)) ∧ Below w.heap.size w w' := by
  obtain ⟨room, day, ⟨glo, ghi⟩⟩ := x
  have hb1 := ex_alloc (ex_alloc (Below.refl w.heap.size w) (.cells #[.slice Ar s.rooms.length cr, .int .i64 s.days, .slice Am s.moves.length cm, .slice Aw s.wgs.length cw] 42)) (.cells #[.int .i64 room, .int .i64 day, .int .i64 glo, .int .i64 ghi] 128)
  have qw : Blk ((w.alloc (.cells #[.slice Ar s.rooms.length cr, .int .i64 s.days, .slice Am s.moves.length cm, .slice Aw s.wgs.length cw] 42)).alloc (.cells #[.int .i64 room, .int .i64 day, .int .i64 glo, .int .i64 ghi] 128)) w.heap.size 42 #[.slice Ar s.rooms.length cr, .int .i64 s.days, .slice Am s.moves.length cm, .slice Aw s.wgs.length cw] := (Blk.new _ _ _).alloc _
  have qm : Blk ((w.alloc (.cells #[.slice Ar s.rooms.length cr, .int .i64 s.days, .slice Am s.moves.length cm, .slice Aw s.wgs.length cw] 42)).alloc (.cells #[.int .i64 room, .int .i64 day, .int .i64 glo, .int .i64 ghi] 128)) (w.heap.size + 1) 128 #[.int .i64 room, .int .i64 day, .int .i64 glo, .int .i64 ghi] := Blk.new' _ _ _ (by simp)
  go_enter Try.func92, Try.ntmps92
  go_wp2_with fail
  generalize (w.alloc (.cells #[.slice Ar s.rooms.length cr, .int .i64 s.days, .slice Am s.moves.length cm, .slice Aw s.wgs.length cw] 42)).alloc (.cells #[.int .i64 room, .int .i64 day, .int .i64 glo, .int .i64 ghi] 128) = V at *
  obtain ⟨pw, hpw⟩ : ∃ p, w.heap.size = p := ⟨_, rfl⟩
  rw [hpw] at qw qm ⊢
  obtain ⟨pm, hpm⟩ : ∃ p, pw + 1 = p := ⟨_, rfl⟩
  rw [hpm] at qm ⊢
  clear hpm
  have aV0 : V.cell? ⟨pw, 0, none⟩ = some (.slice Ar s.rooms.length cr) := qw.cell 0
  have aV1 : V.cell? ⟨pw, 1, none⟩ = some (.int .i64 s.days) := qw.cell 1
  have aV2 : V.cell? ⟨pw, 2, none⟩ = some (.slice Am s.moves.length cm) := qw.cell 2
  have aV3 : V.cell? ⟨pw, 3, none⟩ = some (.slice Aw s.wgs.length cw) := qw.cell 3
  have bV0 : V.cell? ⟨pm, 0, none⟩ = some (.int .i64 room) := qm.cell 0
  have bV1 : V.cell? ⟨pm, 1, none⟩ = some (.int .i64 day) := qm.cell 1
  have bV2 : V.cell? ⟨pm, 2, none⟩ = some (.int .i64 glo) := qm.cell 2
  have bV3 : V.cell? ⟨pm, 3, none⟩ = some (.int .i64 ghi) := qm.cell 3
  have alV := qw.lt
  have blV := qm.lt
  refine (roomN_any s Ar Am Aw cr cm cw room V hr).mono ?_
  rintro e U8 ⟨rfl, hU8⟩
  replace qw := qw.below hU8 qw.lt
  replace qm := qm.below hU8 qm.lt
  have B_U8 := ex_trans hb1 hU8
  cases hroom : inB room 0 ((s.rooms.length : Int) - 1)
  · have aU80 : U8.cell? ⟨pw, 0, none⟩ = some (.slice Ar s.rooms.length cr) := qw.cell 0
    have aU81 : U8.cell? ⟨pw, 1, none⟩ = some (.int .i64 s.days) := qw.cell 1
    have aU82 : U8.cell? ⟨pw, 2, none⟩ = some (.slice Am s.moves.length cm) := qw.cell 2
    have aU83 : U8.cell? ⟨pw, 3, none⟩ = some (.slice Aw s.wgs.length cw) := qw.cell 3
    have bU80 : U8.cell? ⟨pm, 0, none⟩ = some (.int .i64 room) := qm.cell 0
    have bU81 : U8.cell? ⟨pm, 1, none⟩ = some (.int .i64 day) := qm.cell 1
    have bU82 : U8.cell? ⟨pm, 2, none⟩ = some (.int .i64 glo) := qm.cell 2
    have bU83 : U8.cell? ⟨pm, 3, none⟩ = some (.int .i64 ghi) := qm.cell 3
    have alU8 := qw.lt
    have blU8 := qm.lt
    go_wp2
    go_ret
    exact ⟨ret_bool (by simp [wgB, hroom]), B_U8⟩
  · have aU80 : U8.cell? ⟨pw, 0, none⟩ = some (.slice Ar s.rooms.length cr) := qw.cell 0
    have aU81 : U8.cell? ⟨pw, 1, none⟩ = some (.int .i64 s.days) := qw.cell 1
    have aU82 : U8.cell? ⟨pw, 2, none⟩ = some (.slice Am s.moves.length cm) := qw.cell 2
    have aU83 : U8.cell? ⟨pw, 3, none⟩ = some (.slice Aw s.wgs.length cw) := qw.cell 3
    have bU80 : U8.cell? ⟨pm, 0, none⟩ = some (.int .i64 room) := qm.cell 0
    have bU81 : U8.cell? ⟨pm, 1, none⟩ = some (.int .i64 day) := qm.cell 1
    have bU82 : U8.cell? ⟨pm, 2, none⟩ = some (.int .i64 glo) := qm.cell 2
    have bU83 : U8.cell? ⟨pm, 3, none⟩ = some (.int .i64 ghi) := qm.cell 3
    have alU8 := qw.lt
    have blU8 := qm.lt
    go_wp2_with fail
    refine (dayN_any s Ar Am Aw cr cm cw day U8 hd).mono ?_
    rintro e U9 ⟨rfl, hU9⟩
    replace qw := qw.below hU9 qw.lt
    replace qm := qm.below hU9 qm.lt
    have B_U9 := ex_trans B_U8 hU9
    cases hday : inB day 0 (s.days - 1)
    · have aU90 : U9.cell? ⟨pw, 0, none⟩ = some (.slice Ar s.rooms.length cr) := qw.cell 0
      have aU91 : U9.cell? ⟨pw, 1, none⟩ = some (.int .i64 s.days) := qw.cell 1
      have aU92 : U9.cell? ⟨pw, 2, none⟩ = some (.slice Am s.moves.length cm) := qw.cell 2
      have aU93 : U9.cell? ⟨pw, 3, none⟩ = some (.slice Aw s.wgs.length cw) := qw.cell 3
      have bU90 : U9.cell? ⟨pm, 0, none⟩ = some (.int .i64 room) := qm.cell 0
      have bU91 : U9.cell? ⟨pm, 1, none⟩ = some (.int .i64 day) := qm.cell 1
      have bU92 : U9.cell? ⟨pm, 2, none⟩ = some (.int .i64 glo) := qm.cell 2
      have bU93 : U9.cell? ⟨pm, 3, none⟩ = some (.int .i64 ghi) := qm.cell 3
      have alU9 := qw.lt
      have blU9 := qm.lt
      go_wp2
      go_ret
      exact ⟨ret_bool (by simp [wgB, hroom, hday]), B_U9⟩
    · have aU90 : U9.cell? ⟨pw, 0, none⟩ = some (.slice Ar s.rooms.length cr) := qw.cell 0
      have aU91 : U9.cell? ⟨pw, 1, none⟩ = some (.int .i64 s.days) := qw.cell 1
      have aU92 : U9.cell? ⟨pw, 2, none⟩ = some (.slice Am s.moves.length cm) := qw.cell 2
      have aU93 : U9.cell? ⟨pw, 3, none⟩ = some (.slice Aw s.wgs.length cw) := qw.cell 3
      have bU90 : U9.cell? ⟨pm, 0, none⟩ = some (.int .i64 room) := qm.cell 0
      have bU91 : U9.cell? ⟨pm, 1, none⟩ = some (.int .i64 day) := qm.cell 1
      have bU92 : U9.cell? ⟨pm, 2, none⟩ = some (.int .i64 glo) := qm.cell 2
      have bU93 : U9.cell? ⟨pm, 3, none⟩ = some (.int .i64 ghi) := qm.cell 3
      have alU9 := qw.lt
      have blU9 := qm.lt
      go_wp2_with fail
      refine (toR_any glo ghi 2000 U9).mono ?_
      rintro e U10 ⟨rfl, hU10⟩
      replace qw := qw.below hU10 qw.lt
      replace qm := qm.below hU10 qm.lt
      have B_U10 := ex_trans B_U9 hU10
      cases hto : toB glo ghi 2000
      · have aU100 : U10.cell? ⟨pw, 0, none⟩ = some (.slice Ar s.rooms.length cr) := qw.cell 0
        have aU101 : U10.cell? ⟨pw, 1, none⟩ = some (.int .i64 s.days) := qw.cell 1
        have aU102 : U10.cell? ⟨pw, 2, none⟩ = some (.slice Am s.moves.length cm) := qw.cell 2
        have aU103 : U10.cell? ⟨pw, 3, none⟩ = some (.slice Aw s.wgs.length cw) := qw.cell 3
        have bU100 : U10.cell? ⟨pm, 0, none⟩ = some (.int .i64 room) := qm.cell 0
        have bU101 : U10.cell? ⟨pm, 1, none⟩ = some (.int .i64 day) := qm.cell 1
        have bU102 : U10.cell? ⟨pm, 2, none⟩ = some (.int .i64 glo) := qm.cell 2
        have bU103 : U10.cell? ⟨pm, 3, none⟩ = some (.int .i64 ghi) := qm.cell 3
        have alU10 := qw.lt
        have blU10 := qm.lt
        go_wp2
        go_ret
        exact ⟨ret_bool (by simp [wgB, hroom, hday, hto]), B_U10⟩
      · have aU100 : U10.cell? ⟨pw, 0, none⟩ = some (.slice Ar s.rooms.length cr) := qw.cell 0
        have aU101 : U10.cell? ⟨pw, 1, none⟩ = some (.int .i64 s.days) := qw.cell 1
        have aU102 : U10.cell? ⟨pw, 2, none⟩ = some (.slice Am s.moves.length cm) := qw.cell 2
        have aU103 : U10.cell? ⟨pw, 3, none⟩ = some (.slice Aw s.wgs.length cw) := qw.cell 3
        have bU100 : U10.cell? ⟨pm, 0, none⟩ = some (.int .i64 room) := qm.cell 0
        have bU101 : U10.cell? ⟨pm, 1, none⟩ = some (.int .i64 day) := qm.cell 1
        have bU102 : U10.cell? ⟨pm, 2, none⟩ = some (.int .i64 glo) := qm.cell 2
        have bU103 : U10.cell? ⟨pm, 3, none⟩ = some (.int .i64 ghi) := qm.cell 3
        have alU10 := qw.lt
        have blU10 := qm.lt
        go_wp2
        go_ret
        exact ⟨ret_bool (by simp [wgB, hroom, hday, hto]), B_U10⟩

set_option maxHeartbeats 1600000 in
theorem all1_room (n : Nat) (l : List Rm) (w : World)  (k pb : Nat) (hk : k < n) (hp : pb < w.heap.size) (hc : w.cell? ⟨pb, 0, none⟩ = some (.func (.func 88) #[] #[])) :
    Calls Try.prog 115 #[.agg #[.int .i64 (gRm l k).fst.lo, .int .i64 (gRm l k).fst.hi, .int .i64 (gRm l k).vap.lo, .int .i64 (gRm l k).vap.hi], .pointer (some ⟨pb, 0, none⟩)] w fun e w' => e = .returned (.bool (!(roomB (gRm l k)))) ∧ Below w.heap.size w w' := by
  go_enter Try.func115, Try.ntmps115
  go_wp2_with fail
  refine (roomV_any _ _).mono ?_
  rintro e w2 ⟨rfl, hb2⟩
  go_wp2
  go_ret
  exact ⟨rfl, ex_trans (ex_alloc (Below.refl _ _) _) hb2⟩

set_option maxHeartbeats 1600000 in
theorem index_room (n : Nat) (l : List Rm) (A : Option Addr) (c : Nat) (w : World)  (hA : SlAt w w.heap.size 4 A n (fRm l)) (hl : n ≤ 1000000) (pb : Nat) (hp : pb < w.heap.size) (hc : w.cell? ⟨pb, 0, none⟩ = some (.func (.func 88) #[] #[])) :
    Calls Try.prog 129 #[.slice A n c, .func (.func 115) #[] #[.pointer (some ⟨pb, 0, none⟩)]] w fun e w' => e = .returned (.int .i64 (firstOf (fun k => !(roomB (gRm l k))) n)) ∧ Below w.heap.size w w' := by
  go_enter Try.func129, Try.ntmps129
  go_wp2
  go_loopw [8] (fun i wr => ∃ k : Nat, k ≤ n ∧ i = .int .i64 k ∧ (∀ k', k' < k → (roomB (gRm l k')) = true) ∧ Below w.heap.size w wr)
    (fun i _ => n - (intOf i).toNat)
  case atStart => exact ⟨0, by omega, rfl, fun j hj => by omega, Below.refl _ _⟩
  case round =>
    obtain ⟨k, hk, rfl, hok, hbl⟩ := hrel
    by_cases hlt : k < n
    · have hAW := (hA.below hbl).up hbl.size
      obtain ⟨bi, oi, rfl, hbi, g0, g1, g2, g3⟩ := IsRms.at_ hAW hlt
      have hcr : wr.cell? ⟨pb, 0, none⟩ = some (.func (.func 88) #[] #[]) := (hbl.cell (p := ⟨pb, 0, none⟩) hp).trans hc
      have hpr : pb < wr.heap.size := by have := hbl.size; omega
      have HOK := Lib.hid hok
      clear hok
      cases ht : (roomB (gRm l k))
      · have HT := Lib.hid ht
        have HF : Hid (firstOf (fun k => !(roomB (gRm l k))) n = (k : Int)) := Lib.hid (firstOf_at hlt (fun j hj => by have := HOK.out j hj; simp only [this]; rfl) (by simp only [ht]; rfl))
        clear ht
        go_wp2_with fail
        refine (all1_room n l wr  k pb hlt hpr hcr).mono ?_
        rintro e w2 ⟨rfl, hb2⟩
        rw [HT.out]
        go_wp2
        go_ret
        exact ⟨ret_int HF.out.symm, ex_trans hbl hb2⟩
      · have HT := Lib.hid ht
        clear ht
        go_wp2_with fail
        refine (all1_room n l wr  k pb hlt hpr hcr).mono ?_
        rintro e w2 ⟨rfl, hb2⟩
        rw [HT.out]
        go_wp2
        go_roundw
        case rel => exact ⟨k + 1, by omega, by go_num, fun j hj => by rcases Nat.lt_succ_iff_lt_or_eq.1 hj with h | h; exact HOK.out j h; exact h ▸ HT.out, ex_trans hbl hb2⟩
        case measure => simp [intOf]; omega
    · obtain rfl : k = n := by omega
      have HF : Hid (firstOf (fun k => !(roomB (gRm l k))) k = -1) := Lib.hid (firstOf_neg fun j hj => by have := hok j hj; simp only [this]; rfl)
      go_wp2
      go_ret
      exact ⟨ret_int HF.out.symm, hbl⟩

theorem contains_room (n : Nat) (l : List Rm) (A : Option Addr) (c : Nat) (w : World)  (hA : SlAt w w.heap.size 4 A n (fRm l)) (hl : n ≤ 1000000) (pb : Nat) (hp : pb < w.heap.size) (hc : w.cell? ⟨pb, 0, none⟩ = some (.func (.func 88) #[] #[])) :
    Calls Try.prog 114 #[.slice A n c, .func (.func 115) #[] #[.pointer (some ⟨pb, 0, none⟩)]] w fun e w' => e = .returned (.bool (!allTo (fun k => (roomB (gRm l k))) n)) ∧ Below w.heap.size w w' := by
  have HF : Hid (decide (0 ≤ firstOf (fun k => !(roomB (gRm l k))) n) = !allTo (fun k => (roomB (gRm l k))) n) := Lib.hid (by rw [firstOf_nonneg]; simp)
  go_enter Try.func114, Try.ntmps114
  go_wp2_with fail
  refine (index_room n l A c w  hA hl pb hp hc).mono ?_
  rintro e w2 ⟨rfl, hb2⟩
  go_wp2
  go_ret
  exact ⟨ret_bool HF.out, hb2⟩

theorem all_room (n : Nat) (l : List Rm) (A : Option Addr) (c : Nat) (w : World)  (hA : SlAt w w.heap.size 4 A n (fRm l)) (hl : n ≤ 1000000) :
    Calls Try.prog 87 #[.slice A n c, .func (.func 88) #[] #[]] w fun e w' => e = .returned (.bool (allTo (fun k => (roomB (gRm l k))) n)) ∧ Below w.heap.size w w' := by
  have hb1 := ex_alloc (Below.refl w.heap.size w) (.cells #[.func (.func 88) #[] #[]] 161)
  have hA1 := (hA.below hb1).up hb1.size
  go_enter Try.func87, Try.ntmps87
  go_wp2_with fail
  refine (contains_room n l A c _  hA1 hl w.heap.size (by simp) (by simp [go_sem])).mono ?_
  rintro e w2 ⟨rfl, hb2⟩
  go_wp2
  go_ret
  exact ⟨by simp, ex_trans hb1 hb2⟩

set_option maxHeartbeats 1600000 in
theorem all1_move (s : Ws) (Ar Am Aw : Option Addr) (cr cm cw : Nat) (hr : s.rooms.length ≤ 1000000) (hd : 1 ≤ s.days ∧ s.days ≤ 6) (n : Nat) (l : List Mv) (w : World)  (k pb : Nat) (hk : k < n) (hp : pb < w.heap.size) (hc : w.cell? ⟨pb, 0, none⟩ = some (.func (.func 90) #[.agg #[.slice Ar s.rooms.length cr, .int .i64 s.days, .slice Am s.moves.length cm, .slice Aw s.wgs.length cw]] #[])) :
    Calls Try.prog 117 #[.agg #[.int .i64 (gMv l k).day, .int .i64 (gMv l k).src, .int .i64 (gMv l k).dst, .int .i64 (gMv l k).g.lo, .int .i64 (gMv l k).g.hi], .pointer (some ⟨pb, 0, none⟩)] w fun e w' => e = .returned (.bool (!(moveB s.rooms.length s.days (gMv l k)))) ∧ Below w.heap.size w w' := by
  go_enter Try.func117, Try.ntmps117
  go_wp2_with fail
  refine (move_any s Ar Am Aw cr cm cw _ _ hr hd).mono ?_
  rintro e w2 ⟨rfl, hb2⟩
  go_wp2
  go_ret
  exact ⟨rfl, ex_trans (ex_alloc (Below.refl _ _) _) hb2⟩

set_option maxHeartbeats 1600000 in
theorem index_move (s : Ws) (Ar Am Aw : Option Addr) (cr cm cw : Nat) (hr : s.rooms.length ≤ 1000000) (hd : 1 ≤ s.days ∧ s.days ≤ 6) (n : Nat) (l : List Mv) (A : Option Addr) (c : Nat) (w : World)  (hA : SlAt w w.heap.size 5 A n (fMv l)) (hl : n ≤ 1000000) (pb : Nat) (hp : pb < w.heap.size) (hc : w.cell? ⟨pb, 0, none⟩ = some (.func (.func 90) #[.agg #[.slice Ar s.rooms.length cr, .int .i64 s.days, .slice Am s.moves.length cm, .slice Aw s.wgs.length cw]] #[])) :
    Calls Try.prog 130 #[.slice A n c, .func (.func 117) #[] #[.pointer (some ⟨pb, 0, none⟩)]] w fun e w' => e = .returned (.int .i64 (firstOf (fun k => !(moveB s.rooms.length s.days (gMv l k))) n)) ∧ Below w.heap.size w w' := by
  go_enter Try.func130, Try.ntmps130
  go_wp2
  go_loopw [8] (fun i wr => ∃ k : Nat, k ≤ n ∧ i = .int .i64 k ∧ (∀ k', k' < k → (moveB s.rooms.length s.days (gMv l k')) = true) ∧ Below w.heap.size w wr)
    (fun i _ => n - (intOf i).toNat)
  case atStart => exact ⟨0, by omega, rfl, fun j hj => by omega, Below.refl _ _⟩
  case round =>
    obtain ⟨k, hk, rfl, hok, hbl⟩ := hrel
    by_cases hlt : k < n
    · have hAW := (hA.below hbl).up hbl.size
      obtain ⟨bi, oi, rfl, hbi, g0, g1, g2, g3, g4⟩ := IsMvs.at_ hAW hlt
      have hcr : wr.cell? ⟨pb, 0, none⟩ = some (.func (.func 90) #[.agg #[.slice Ar s.rooms.length cr, .int .i64 s.days, .slice Am s.moves.length cm, .slice Aw s.wgs.length cw]] #[]) := (hbl.cell (p := ⟨pb, 0, none⟩) hp).trans hc
      have hpr : pb < wr.heap.size := by have := hbl.size; omega
      have HOK := Lib.hid hok
      clear hok
      cases ht : (moveB s.rooms.length s.days (gMv l k))
      · have HT := Lib.hid ht
        have HF : Hid (firstOf (fun k => !(moveB s.rooms.length s.days (gMv l k))) n = (k : Int)) := Lib.hid (firstOf_at hlt (fun j hj => by have := HOK.out j hj; simp only [this]; rfl) (by simp only [ht]; rfl))
        clear ht
        go_wp2_with fail
        refine (all1_move s Ar Am Aw cr cm cw hr hd n l wr  k pb hlt hpr hcr).mono ?_
        rintro e w2 ⟨rfl, hb2⟩
        rw [HT.out]
        go_wp2
        go_ret
        exact ⟨ret_int HF.out.symm, ex_trans hbl hb2⟩
      · have HT := Lib.hid ht
        clear ht
        go_wp2_with fail
        refine (all1_move s Ar Am Aw cr cm cw hr hd n l wr  k pb hlt hpr hcr).mono ?_
        rintro e w2 ⟨rfl, hb2⟩
        rw [HT.out]
        go_wp2
        go_roundw
        case rel => exact ⟨k + 1, by omega, by go_num, fun j hj => by rcases Nat.lt_succ_iff_lt_or_eq.1 hj with h | h; exact HOK.out j h; exact h ▸ HT.out, ex_trans hbl hb2⟩
        case measure => simp [intOf]; omega
    · obtain rfl : k = n := by omega
      have HF : Hid (firstOf (fun k => !(moveB s.rooms.length s.days (gMv l k))) k = -1) := Lib.hid (firstOf_neg fun j hj => by have := hok j hj; simp only [this]; rfl)
      go_wp2
      go_ret
      exact ⟨ret_int HF.out.symm, hbl⟩

theorem contains_move (s : Ws) (Ar Am Aw : Option Addr) (cr cm cw : Nat) (hr : s.rooms.length ≤ 1000000) (hd : 1 ≤ s.days ∧ s.days ≤ 6) (n : Nat) (l : List Mv) (A : Option Addr) (c : Nat) (w : World)  (hA : SlAt w w.heap.size 5 A n (fMv l)) (hl : n ≤ 1000000) (pb : Nat) (hp : pb < w.heap.size) (hc : w.cell? ⟨pb, 0, none⟩ = some (.func (.func 90) #[.agg #[.slice Ar s.rooms.length cr, .int .i64 s.days, .slice Am s.moves.length cm, .slice Aw s.wgs.length cw]] #[])) :
    Calls Try.prog 116 #[.slice A n c, .func (.func 117) #[] #[.pointer (some ⟨pb, 0, none⟩)]] w fun e w' => e = .returned (.bool (!allTo (fun k => (moveB s.rooms.length s.days (gMv l k))) n)) ∧ Below w.heap.size w w' := by
  have HF : Hid (decide (0 ≤ firstOf (fun k => !(moveB s.rooms.length s.days (gMv l k))) n) = !allTo (fun k => (moveB s.rooms.length s.days (gMv l k))) n) := Lib.hid (by rw [firstOf_nonneg]; simp)
  go_enter Try.func116, Try.ntmps116
  go_wp2_with fail
  refine (index_move s Ar Am Aw cr cm cw hr hd n l A c w  hA hl pb hp hc).mono ?_
  rintro e w2 ⟨rfl, hb2⟩
  go_wp2
  go_ret
  exact ⟨ret_bool HF.out, hb2⟩

theorem all_move (s : Ws) (Ar Am Aw : Option Addr) (cr cm cw : Nat) (hr : s.rooms.length ≤ 1000000) (hd : 1 ≤ s.days ∧ s.days ≤ 6) (n : Nat) (l : List Mv) (A : Option Addr) (c : Nat) (w : World)  (hA : SlAt w w.heap.size 5 A n (fMv l)) (hl : n ≤ 1000000) :
    Calls Try.prog 89 #[.slice A n c, .func (.func 90) #[.agg #[.slice Ar s.rooms.length cr, .int .i64 s.days, .slice Am s.moves.length cm, .slice Aw s.wgs.length cw]] #[]] w fun e w' => e = .returned (.bool (allTo (fun k => (moveB s.rooms.length s.days (gMv l k))) n)) ∧ Below w.heap.size w w' := by
  have hb1 := ex_alloc (Below.refl w.heap.size w) (.cells #[.func (.func 90) #[.agg #[.slice Ar s.rooms.length cr, .int .i64 s.days, .slice Am s.moves.length cm, .slice Aw s.wgs.length cw]] #[]] 163)
  have hA1 := (hA.below hb1).up hb1.size
  go_enter Try.func89, Try.ntmps89
  go_wp2_with fail
  refine (contains_move s Ar Am Aw cr cm cw hr hd n l A c _  hA1 hl w.heap.size (by simp) (by simp [go_sem])).mono ?_
  rintro e w2 ⟨rfl, hb2⟩
  go_wp2
  go_ret
  exact ⟨by simp, ex_trans hb1 hb2⟩

set_option maxHeartbeats 1600000 in
theorem all1_wg (s : Ws) (Ar Am Aw : Option Addr) (cr cm cw : Nat) (hr : s.rooms.length ≤ 1000000) (hd : 1 ≤ s.days ∧ s.days ≤ 6) (n : Nat) (l : List Wg) (w : World)  (k pb : Nat) (hk : k < n) (hp : pb < w.heap.size) (hc : w.cell? ⟨pb, 0, none⟩ = some (.func (.func 92) #[.agg #[.slice Ar s.rooms.length cr, .int .i64 s.days, .slice Am s.moves.length cm, .slice Aw s.wgs.length cw]] #[])) :
    Calls Try.prog 119 #[.agg #[.int .i64 (gWg l k).room, .int .i64 (gWg l k).day, .int .i64 (gWg l k).g.lo, .int .i64 (gWg l k).g.hi], .pointer (some ⟨pb, 0, none⟩)] w fun e w' => e = .returned (.bool (!(wgB s.rooms.length s.days (gWg l k)))) ∧ Below w.heap.size w w' := by
  go_enter Try.func119, Try.ntmps119
  go_wp2_with fail
  refine (weighing_any s Ar Am Aw cr cm cw _ _ hr hd).mono ?_
  rintro e w2 ⟨rfl, hb2⟩
  go_wp2
  go_ret
  exact ⟨rfl, ex_trans (ex_alloc (Below.refl _ _) _) hb2⟩

set_option maxHeartbeats 1600000 in
theorem index_wg (s : Ws) (Ar Am Aw : Option Addr) (cr cm cw : Nat) (hr : s.rooms.length ≤ 1000000) (hd : 1 ≤ s.days ∧ s.days ≤ 6) (n : Nat) (l : List Wg) (A : Option Addr) (c : Nat) (w : World)  (hA : SlAt w w.heap.size 4 A n (fWg l)) (hl : n ≤ 1000000) (pb : Nat) (hp : pb < w.heap.size) (hc : w.cell? ⟨pb, 0, none⟩ = some (.func (.func 92) #[.agg #[.slice Ar s.rooms.length cr, .int .i64 s.days, .slice Am s.moves.length cm, .slice Aw s.wgs.length cw]] #[])) :
    Calls Try.prog 131 #[.slice A n c, .func (.func 119) #[] #[.pointer (some ⟨pb, 0, none⟩)]] w fun e w' => e = .returned (.int .i64 (firstOf (fun k => !(wgB s.rooms.length s.days (gWg l k))) n)) ∧ Below w.heap.size w w' := by
  go_enter Try.func131, Try.ntmps131
  go_wp2
  go_loopw [8] (fun i wr => ∃ k : Nat, k ≤ n ∧ i = .int .i64 k ∧ (∀ k', k' < k → (wgB s.rooms.length s.days (gWg l k')) = true) ∧ Below w.heap.size w wr)
    (fun i _ => n - (intOf i).toNat)
  case atStart => exact ⟨0, by omega, rfl, fun j hj => by omega, Below.refl _ _⟩
  case round =>
    obtain ⟨k, hk, rfl, hok, hbl⟩ := hrel
    by_cases hlt : k < n
    · have hAW := (hA.below hbl).up hbl.size
      obtain ⟨bi, oi, rfl, hbi, g0, g1, g2, g3⟩ := IsWgs.at_ hAW hlt
      have hcr : wr.cell? ⟨pb, 0, none⟩ = some (.func (.func 92) #[.agg #[.slice Ar s.rooms.length cr, .int .i64 s.days, .slice Am s.moves.length cm, .slice Aw s.wgs.length cw]] #[]) := (hbl.cell (p := ⟨pb, 0, none⟩) hp).trans hc
      have hpr : pb < wr.heap.size := by have := hbl.size; omega
      have HOK := Lib.hid hok
      clear hok
      cases ht : (wgB s.rooms.length s.days (gWg l k))
      · have HT := Lib.hid ht
        have HF : Hid (firstOf (fun k => !(wgB s.rooms.length s.days (gWg l k))) n = (k : Int)) := Lib.hid (firstOf_at hlt (fun j hj => by have := HOK.out j hj; simp only [this]; rfl) (by simp only [ht]; rfl))
        clear ht
        go_wp2_with fail
        refine (all1_wg s Ar Am Aw cr cm cw hr hd n l wr  k pb hlt hpr hcr).mono ?_
        rintro e w2 ⟨rfl, hb2⟩
        rw [HT.out]
        go_wp2
        go_ret
        exact ⟨ret_int HF.out.symm, ex_trans hbl hb2⟩
      · have HT := Lib.hid ht
        clear ht
        go_wp2_with fail
        refine (all1_wg s Ar Am Aw cr cm cw hr hd n l wr  k pb hlt hpr hcr).mono ?_
        rintro e w2 ⟨rfl, hb2⟩
        rw [HT.out]
        go_wp2
        go_roundw
        case rel => exact ⟨k + 1, by omega, by go_num, fun j hj => by rcases Nat.lt_succ_iff_lt_or_eq.1 hj with h | h; exact HOK.out j h; exact h ▸ HT.out, ex_trans hbl hb2⟩
        case measure => simp [intOf]; omega
    · obtain rfl : k = n := by omega
      have HF : Hid (firstOf (fun k => !(wgB s.rooms.length s.days (gWg l k))) k = -1) := Lib.hid (firstOf_neg fun j hj => by have := hok j hj; simp only [this]; rfl)
      go_wp2
      go_ret
      exact ⟨ret_int HF.out.symm, hbl⟩

theorem contains_wg (s : Ws) (Ar Am Aw : Option Addr) (cr cm cw : Nat) (hr : s.rooms.length ≤ 1000000) (hd : 1 ≤ s.days ∧ s.days ≤ 6) (n : Nat) (l : List Wg) (A : Option Addr) (c : Nat) (w : World)  (hA : SlAt w w.heap.size 4 A n (fWg l)) (hl : n ≤ 1000000) (pb : Nat) (hp : pb < w.heap.size) (hc : w.cell? ⟨pb, 0, none⟩ = some (.func (.func 92) #[.agg #[.slice Ar s.rooms.length cr, .int .i64 s.days, .slice Am s.moves.length cm, .slice Aw s.wgs.length cw]] #[])) :
    Calls Try.prog 118 #[.slice A n c, .func (.func 119) #[] #[.pointer (some ⟨pb, 0, none⟩)]] w fun e w' => e = .returned (.bool (!allTo (fun k => (wgB s.rooms.length s.days (gWg l k))) n)) ∧ Below w.heap.size w w' := by
  have HF : Hid (decide (0 ≤ firstOf (fun k => !(wgB s.rooms.length s.days (gWg l k))) n) = !allTo (fun k => (wgB s.rooms.length s.days (gWg l k))) n) := Lib.hid (by rw [firstOf_nonneg]; simp)
  go_enter Try.func118, Try.ntmps118
  go_wp2_with fail
  refine (index_wg s Ar Am Aw cr cm cw hr hd n l A c w  hA hl pb hp hc).mono ?_
  rintro e w2 ⟨rfl, hb2⟩
  go_wp2
  go_ret
  exact ⟨ret_bool HF.out, hb2⟩

theorem all_wg (s : Ws) (Ar Am Aw : Option Addr) (cr cm cw : Nat) (hr : s.rooms.length ≤ 1000000) (hd : 1 ≤ s.days ∧ s.days ≤ 6) (n : Nat) (l : List Wg) (A : Option Addr) (c : Nat) (w : World)  (hA : SlAt w w.heap.size 4 A n (fWg l)) (hl : n ≤ 1000000) :
    Calls Try.prog 91 #[.slice A n c, .func (.func 92) #[.agg #[.slice Ar s.rooms.length cr, .int .i64 s.days, .slice Am s.moves.length cm, .slice Aw s.wgs.length cw]] #[]] w fun e w' => e = .returned (.bool (allTo (fun k => (wgB s.rooms.length s.days (gWg l k))) n)) ∧ Below w.heap.size w w' := by
  have hb1 := ex_alloc (Below.refl w.heap.size w) (.cells #[.func (.func 92) #[.agg #[.slice Ar s.rooms.length cr, .int .i64 s.days, .slice Am s.moves.length cm, .slice Aw s.wgs.length cw]] #[]] 165)
  have hA1 := (hA.below hb1).up hb1.size
  go_enter Try.func91, Try.ntmps91
  go_wp2_with fail
  refine (contains_wg s Ar Am Aw cr cm cw hr hd n l A c _  hA1 hl w.heap.size (by simp) (by simp [go_sem])).mono ?_
  rintro e w2 ⟨rfl, hb2⟩
  go_wp2
  go_ret
  exact ⟨by simp, ex_trans hb1 hb2⟩
set_option maxRecDepth 100000 in
set_option maxHeartbeats 3200000 in
theorem check_any (s : Ws) (Ar Am Aw : Option Addr) (cr cm cw : Nat) (w : World) (hs : WsIn w w.heap.size s Ar Am Aw) :
    Calls Try.prog 50 #[.agg #[.slice Ar s.rooms.length cr, .int .i64 s.days, .slice Am s.moves.length cm, .slice Aw s.wgs.length cw]] w fun e w' => e = .returned (.int .i64 (ckWs s)) ∧ Below w.heap.size w w' := by
  have hb1 := ex_alloc (Below.refl w.heap.size w) (.cells #[.slice Ar s.rooms.length cr, .int .i64 s.days, .slice Am s.moves.length cm, .slice Aw s.wgs.length cw] 42)
  have qw : Blk (w.alloc (.cells #[.slice Ar s.rooms.length cr, .int .i64 s.days, .slice Am s.moves.length cm, .slice Aw s.wgs.length cw] 42)) w.heap.size 42 #[.slice Ar s.rooms.length cr, .int .i64 s.days, .slice Am s.moves.length cm, .slice Aw s.wgs.length cw] := Blk.new _ _ _
  by_cases hl3 : 3 < s.rooms.length
  · have hg3 : decide ((s.rooms.length : Int) > 3) = true := by simp; omega
    rw [show ckWs s = 3 from by unfold ckWs bigWs; rw [if_pos (by simp; omega)]]
    go_enter Try.func50, Try.ntmps50
    go_wp2
    go_ret
    exact ⟨rfl, hb1⟩
  · have hg3 : decide ((s.rooms.length : Int) > 3) = false := by simp; omega
    by_cases hl12 : 12 < s.moves.length
    · have hg12 : decide ((s.moves.length : Int) > 12) = true := by simp; omega
      rw [show ckWs s = 3 from by unfold ckWs bigWs; rw [if_pos (by simp; omega)]]
      go_enter Try.func50, Try.ntmps50
      go_wp2
      go_ret
      exact ⟨rfl, hb1⟩
    · have hg12 : decide ((s.moves.length : Int) > 12) = false := by simp; omega
      by_cases hl8 : 8 < s.wgs.length
      · have hg8 : decide ((s.wgs.length : Int) > 8) = true := by simp; omega
        rw [show ckWs s = 3 from by unfold ckWs bigWs; rw [if_pos (by simp; omega)]]
        go_enter Try.func50, Try.ntmps50
        go_wp2
        go_ret
        exact ⟨rfl, hb1⟩
      · have hg8 : decide ((s.wgs.length : Int) > 8) = false := by simp; omega
        have HB : Hid (¬ bigWs s = true) := Lib.hid (by unfold bigWs; simp; omega)
        by_cases h0 : s.rooms.length = 0
        · have hz : ((s.rooms.length : Int) == 0) = true := by simp [h0]
          have HZ := Lib.hid h0
          clear h0
          go_enter Try.func50, Try.ntmps50
          go_wp2
          go_ret
          exact ⟨ret_int (by unfold ckWs goodWs; rw [if_neg HB.out]; simp [HZ.out]), hb1⟩
        · have hz : ((s.rooms.length : Int) == 0) = false := by simp [h0]
          have HZ := Lib.hid h0
          clear h0
          go_enter Try.func50, Try.ntmps50
          go_wp2_with fail
          generalize w.alloc (.cells #[.slice Ar s.rooms.length cr, .int .i64 s.days, .slice Am s.moves.length cm, .slice Aw s.wgs.length cw] 42) = V at *
          refine (within_any _ _ _ _).mono ?_
          rintro e w' ⟨rfl, rfl⟩
          cases hdy : inB s.days 1 6
          · have aV0 : V.cell? ⟨w.heap.size, 0, none⟩ = some (.slice Ar s.rooms.length cr) := qw.cell 0
            have aV1 : V.cell? ⟨w.heap.size, 1, none⟩ = some (.int .i64 s.days) := qw.cell 1
            have aV2 : V.cell? ⟨w.heap.size, 2, none⟩ = some (.slice Am s.moves.length cm) := qw.cell 2
            have aV3 : V.cell? ⟨w.heap.size, 3, none⟩ = some (.slice Aw s.wgs.length cw) := qw.cell 3
            have alV := qw.lt
            go_wp2
            go_ret
            exact ⟨ret_int (by unfold ckWs goodWs; rw [if_neg HB.out]; simp [hdy]), hb1⟩
          · have aV0 : V.cell? ⟨w.heap.size, 0, none⟩ = some (.slice Ar s.rooms.length cr) := qw.cell 0
            have aV1 : V.cell? ⟨w.heap.size, 1, none⟩ = some (.int .i64 s.days) := qw.cell 1
            have aV2 : V.cell? ⟨w.heap.size, 2, none⟩ = some (.slice Am s.moves.length cm) := qw.cell 2
            have aV3 : V.cell? ⟨w.heap.size, 3, none⟩ = some (.slice Aw s.wgs.length cw) := qw.cell 3
            have alV := qw.lt
            have hd := inB_iff.1 hdy
            replace hs := hs.go hb1
            go_wp2_with fail
            refine (all_room s.rooms.length s.rooms Ar cr V hs.rooms (by omega)).mono ?_
            rintro e V2 ⟨rfl, hV2⟩
            replace qw := qw.below hV2 qw.lt
            replace hs := hs.go hV2
            have B_V2 := ex_trans hb1 hV2
            cases har : allTo (fun k => roomB (gRm s.rooms k)) s.rooms.length
            · have aV20 : V2.cell? ⟨w.heap.size, 0, none⟩ = some (.slice Ar s.rooms.length cr) := qw.cell 0
              have aV21 : V2.cell? ⟨w.heap.size, 1, none⟩ = some (.int .i64 s.days) := qw.cell 1
              have aV22 : V2.cell? ⟨w.heap.size, 2, none⟩ = some (.slice Am s.moves.length cm) := qw.cell 2
              have aV23 : V2.cell? ⟨w.heap.size, 3, none⟩ = some (.slice Aw s.wgs.length cw) := qw.cell 3
              have alV2 := qw.lt
              go_wp2
              go_ret
              exact ⟨ret_int (by unfold ckWs goodWs; rw [if_neg HB.out]; simp [har]), B_V2⟩
            · have aV20 : V2.cell? ⟨w.heap.size, 0, none⟩ = some (.slice Ar s.rooms.length cr) := qw.cell 0
              have aV21 : V2.cell? ⟨w.heap.size, 1, none⟩ = some (.int .i64 s.days) := qw.cell 1
              have aV22 : V2.cell? ⟨w.heap.size, 2, none⟩ = some (.slice Am s.moves.length cm) := qw.cell 2
              have aV23 : V2.cell? ⟨w.heap.size, 3, none⟩ = some (.slice Aw s.wgs.length cw) := qw.cell 3
              have alV2 := qw.lt
              go_wp2_with fail
              refine (all_move s Ar Am Aw cr cm cw (by omega) hd s.moves.length s.moves Am cm V2 hs.moves (by omega)).mono ?_
              rintro e V3 ⟨rfl, hV3⟩
              replace qw := qw.below hV3 qw.lt
              replace hs := hs.go hV3
              have B_V3 := ex_trans B_V2 hV3
              cases ham : allTo (fun k => moveB s.rooms.length s.days (gMv s.moves k)) s.moves.length
              · have aV30 : V3.cell? ⟨w.heap.size, 0, none⟩ = some (.slice Ar s.rooms.length cr) := qw.cell 0
                have aV31 : V3.cell? ⟨w.heap.size, 1, none⟩ = some (.int .i64 s.days) := qw.cell 1
                have aV32 : V3.cell? ⟨w.heap.size, 2, none⟩ = some (.slice Am s.moves.length cm) := qw.cell 2
                have aV33 : V3.cell? ⟨w.heap.size, 3, none⟩ = some (.slice Aw s.wgs.length cw) := qw.cell 3
                have alV3 := qw.lt
                go_wp2
                go_ret
                exact ⟨ret_int (by unfold ckWs goodWs; rw [if_neg HB.out]; simp [ham]), B_V3⟩
              · have aV30 : V3.cell? ⟨w.heap.size, 0, none⟩ = some (.slice Ar s.rooms.length cr) := qw.cell 0
                have aV31 : V3.cell? ⟨w.heap.size, 1, none⟩ = some (.int .i64 s.days) := qw.cell 1
                have aV32 : V3.cell? ⟨w.heap.size, 2, none⟩ = some (.slice Am s.moves.length cm) := qw.cell 2
                have aV33 : V3.cell? ⟨w.heap.size, 3, none⟩ = some (.slice Aw s.wgs.length cw) := qw.cell 3
                have alV3 := qw.lt
                go_wp2_with fail
                refine (all_wg s Ar Am Aw cr cm cw (by omega) hd s.wgs.length s.wgs Aw cw V3 hs.wgs (by omega)).mono ?_
                rintro e V4 ⟨rfl, hV4⟩
                replace qw := qw.below hV4 qw.lt
                replace hs := hs.go hV4
                have B_V4 := ex_trans B_V3 hV4
                cases haw : allTo (fun k => wgB s.rooms.length s.days (gWg s.wgs k)) s.wgs.length
                · have aV40 : V4.cell? ⟨w.heap.size, 0, none⟩ = some (.slice Ar s.rooms.length cr) := qw.cell 0
                  have aV41 : V4.cell? ⟨w.heap.size, 1, none⟩ = some (.int .i64 s.days) := qw.cell 1
                  have aV42 : V4.cell? ⟨w.heap.size, 2, none⟩ = some (.slice Am s.moves.length cm) := qw.cell 2
                  have aV43 : V4.cell? ⟨w.heap.size, 3, none⟩ = some (.slice Aw s.wgs.length cw) := qw.cell 3
                  have alV4 := qw.lt
                  go_wp2
                  go_ret
                  exact ⟨ret_int (by unfold ckWs goodWs; rw [if_neg HB.out]; simp [haw]), B_V4⟩
                · have aV40 : V4.cell? ⟨w.heap.size, 0, none⟩ = some (.slice Ar s.rooms.length cr) := qw.cell 0
                  have aV41 : V4.cell? ⟨w.heap.size, 1, none⟩ = some (.int .i64 s.days) := qw.cell 1
                  have aV42 : V4.cell? ⟨w.heap.size, 2, none⟩ = some (.slice Am s.moves.length cm) := qw.cell 2
                  have aV43 : V4.cell? ⟨w.heap.size, 3, none⟩ = some (.slice Aw s.wgs.length cw) := qw.cell 3
                  have alV4 := qw.lt
                  go_wp2
                  go_ret
                  exact ⟨ret_int (by unfold ckWs goodWs; rw [if_neg HB.out]; simp [HZ.out, hdy, har, ham, haw]), B_V4⟩
end Go.Proofs.Ythihdiilokdidaa
end
