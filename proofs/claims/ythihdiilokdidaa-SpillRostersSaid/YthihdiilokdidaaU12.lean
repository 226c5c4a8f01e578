/- Spill's reference (plain): Fewest: what is left behind so many days, by number. · Spill's reference: Fewest (walk). · Spill's laws: SpillRosters (walk). -/
import Derived.Test.YthihdiilokdidaaU11
set_option linter.unusedVariables false
set_option linter.unusedSimpArgs false
set_option linter.unusedSectionVars false
section
namespace Go.Proofs.Ythihdiilokdidaa
open Go.RowKit
attribute [local go_sem] Ex.cell? Ex.frozen?

/-- from some hours to others by one day; by so many. -/
def Stp (t : Tm) (m l : V3) : Prop := Part t (m.sub l) m
def Rch (t : Tm) (h : V3) : Nat → V3 → Prop
  | 0, l => l = h
  | k + 1, l => ∃ m, Rch t h k m ∧ Stp t m l
theorem V3.sub_sub (m l : V3) : m.sub (m.sub l) = l := by
  obtain ⟨a, b, c⟩ := m
  obtain ⟨a', b', c'⟩ := l
  simp only [V3.sub, V3.mk.injEq]
  omega
theorem rch_front {t : Tm} : ∀ {k : Nat} {h m l : V3}, Stp t h m → Rch t m k l → Rch t h (k + 1) l
  | 0, h, m, l, hs, hr => ⟨h, rfl, by rw [show l = m from hr]; exact hs⟩
  | k + 1, h, m, l, hs, ⟨q, hq, hl⟩ => ⟨q, rch_front hs hq, hl⟩
theorem rch_split {t : Tm} : ∀ {k : Nat} {h l : V3}, Rch t h (k + 1) l → ∃ m, Stp t h m ∧ Rch t m k l
  | 0, h, l, ⟨m, hm, hl⟩ => ⟨l, by rw [show m = h from hm] at hl; exact hl, rfl⟩
  | k + 1, h, l, ⟨m, hm, hl⟩ => by
    obtain ⟨q, h1, h2⟩ := rch_split hm
    exact ⟨q, h1, m, h2, hl⟩
theorem rch_does {t : Tm} : ∀ {k : Nat} {h : V3}, Rch t h k z3 ↔ Does t k h
  | 0, h => ⟨fun e => e.symm, fun e => e.symm⟩
  | k + 1, h => by
    constructor
    · intro hr
      obtain ⟨m, h1, h2⟩ := rch_split hr
      exact ⟨h.sub m, h1, by rw [V3.sub_sub]; exact rch_does.1 h2⟩
    · rintro ⟨d, h1, h2⟩
      refine rch_front (m := h.sub d) ?_ (rch_does.2 h2)
      unfold Stp
      rw [V3.sub_sub]
      exact h1
theorem rch_ok {t : Tm} {h : V3} (hh : HrOk t h) : ∀ {k : Nat} {l : V3}, Rch t h k l → HrOk t l
  | 0, l, e => by rw [show l = h from e]; exact hh
  | k + 1, l, ⟨m, hm, hl⟩ => by
    have := (Part.hr hl (rch_ok hh hm)).2
    rw [V3.sub_sub] at this
    exact this
/-- hours by a number, and the number of hours. -/
def vI (a : Nat) : V3 := ⟨((a / 81 : Nat) : Int), ((a / 9 % 9 : Nat) : Int), ((a % 9 : Nat) : Int)⟩
def iV (v : V3) : Nat := v.a.toNat * 81 + v.b.toNat * 9 + v.c.toNat
theorem vI_iV {v : V3} (h : ∀ i, i < 3 → 0 ≤ v.get i ∧ v.get i ≤ 8) : iV v < 729 ∧ vI (iV v) = v := by
  have h0 := h 0 (by omega)
  have h1 := h 1 (by omega)
  have h2 := h 2 (by omega)
  obtain ⟨a, b, c⟩ := v
  simp only [V3.get] at h0 h1 h2
  have e : iV ⟨a, b, c⟩ = a.toNat * 81 + b.toNat * 9 + c.toNat := rfl
  unfold vI
  rw [e]
  simp only [V3.mk.injEq]
  omega
theorem vI_zero : vI 0 = z3 := rfl
/-- a day's hours, as a list. -/
def dI (n a b : Nat) : List Int := [((a / 81 : Nat) : Int) - ((b / 81 : Nat) : Int), ((a / 9 % 9 : Nat) : Int) - ((b / 9 % 9 : Nat) : Int), ((a % 9 : Nat) : Int) - ((b % 9 : Nat) : Int)].take n
theorem dI_hrs (n a b : Nat) : dI n a b = hrsL ((vI a).sub (vI b)) n := rfl
def stB (t : Tm) (a b : Nat) : Bool := decide (b / 81 ≤ a / 81) && (decide (b / 9 % 9 ≤ a / 9 % 9) && (decide (b % 9 ≤ a % 9) && (rowR t (dI t.rates.length a b) && ((decide (2 < t.rates.length) || decide (a % 9 = b % 9)) && (decide (1 < t.rates.length) || decide (a / 9 % 9 = b / 9 % 9))))))
theorem may_lay {t : Tm} (ht : TmOk t) (d : V3) : mayB t (layV (hrsL d t.rates.length) t.rates.length) = mayB t d := by
  have h3 := ht.len.2.1
  have key : ∀ i, i ∈ List.range t.rates.length → (layV (hrsL d t.rates.length) t.rates.length).get i = d.get i := fun i hi => by
    have hi := List.mem_range.1 hi
    rw [layV_get _ _ (by omega), if_pos hi, hrsL_get d h3 hi]
  have e1 : hrsTo (layV (hrsL d t.rates.length) t.rates.length) t.rates.length = hrsTo d t.rates.length := esum_congr key
  have e2 : brTo t (layV (hrsL d t.rates.length) t.rates.length) t.rates.length = brTo t d t.rates.length := esum_congr fun i hi => by rw [key i hi]
  unfold mayB
  rw [e1, e2]
theorem row_may {t : Tm} (ht : TmOk t) {d : V3} (h0 : ∀ i, i < 3 → 0 ≤ d.get i) : rowR t (hrsL d t.rates.length) = mayB t d := by
  have h3 := ht.len.2.1
  cases hm : mayB t d
  · cases hr : rowR t (hrsL d t.rates.length)
    · rfl
    · have := (row_bd hr).2.2
      rw [may_lay ht, hm] at this
      cases this
  · unfold rowR
    rw [may_lay ht, hm, hrsL_len _ h3, decide_eq_true rfl, allTo_iff.2, Bool.and_self, Bool.and_self]
    intro i hi
    rw [hrsL_get _ h3 hi]
    have hle : d.get i ≤ hrsTo d t.rates.length := esum_mem (g := fun i => d.get i) (fun e he => h0 e (by have := List.mem_range.1 he; omega)) (List.mem_range.2 hi)
    unfold mayB at hm
    simp only [Bool.and_eq_true, decide_eq_true_eq] at hm
    exact inB_iff.2 ⟨h0 i (by omega), by omega⟩
theorem stB_iff {t : Tm} (ht : TmOk t) {a b : Nat} (hf : ∀ i, t.rates.length ≤ i → (vI a).get i = 0) : stB t a b = true ↔ Stp t (vI a) (vI b) := by
  have h3 := ht.len.2.1
  have hg : ∀ i, ((vI a).sub (vI b)).get i = (vI a).get i - (vI b).get i := fun i => V3.sub_get _ _ _
  have a0 : (vI a).get 0 = ((a / 81 : Nat) : Int) := rfl
  have a1 : (vI a).get 1 = ((a / 9 % 9 : Nat) : Int) := rfl
  have a2 : (vI a).get 2 = ((a % 9 : Nat) : Int) := rfl
  have b0 : (vI b).get 0 = ((b / 81 : Nat) : Int) := rfl
  have b1 : (vI b).get 1 = ((b / 9 % 9 : Nat) : Int) := rfl
  have b2 : (vI b).get 2 = ((b % 9 : Nat) : Int) := rfl
  unfold stB
  simp only [Bool.and_eq_true, Bool.or_eq_true, decide_eq_true_eq]
  rw [dI_hrs]
  constructor
  · rintro ⟨h1, h2, h4, h5, _, _⟩
    have hb : ∀ i, i < 3 → 0 ≤ ((vI a).sub (vI b)).get i ∧ ((vI a).sub (vI b)).get i ≤ (vI a).get i := fun i hi => by
      rw [hg]
      match i, hi with
      | 0, _ => rw [a0, b0]; omega
      | 1, _ => rw [a1, b1]; omega
      | 2, _ => rw [a2, b2]; omega
    exact ⟨hb, by rw [row_may ht (fun i hi => (hb i hi).1)] at h5; exact h5⟩
  · intro h
    have k0 := h.bd 0 (by omega)
    have k1 := h.bd 1 (by omega)
    have k2 := h.bd 2 (by omega)
    rw [hg, a0, b0] at k0
    rw [hg, a1, b1] at k1
    rw [hg, a2, b2] at k2
    refine ⟨by omega, by omega, by omega, by rw [row_may ht (fun i hi => (h.bd i hi).1)]; exact h.may, ?_, ?_⟩
    · by_cases h2 : 2 < t.rates.length
      · exact .inl h2
      · have := hf 2 (by omega); rw [a2] at this; right; omega
    · by_cases h2 : 1 < t.rates.length
      · exact .inl h2
      · have := hf 1 (by omega); rw [a1] at this; right; omega
/-- which hours may be left behind k days; the same of one day more, behind a and b. -/
noncomputable def canI (t : Tm) (k i : Nat) : Bool := truB (Rch t (hoursV t) k (vI i))
noncomputable def nxtI (t : Tm) (k a b i : Nat) : Bool := truB (∃ a', (a' < a ∨ (a' = a ∧ i < b)) ∧ canI t k a' = true ∧ stB t a' i = true)
theorem nxt_zero (t : Tm) (k i : Nat) : nxtI t k 0 0 i = false := truB_false (fun ⟨a', h, _⟩ => by omega)
theorem nxt_row (t : Tm) (k a : Nat) {i : Nat} (hi : i < 729) : nxtI t k a 729 i = nxtI t k (a + 1) 0 i := truB_congr (exists_congr fun a' => and_congr_left fun _ => by omega)
theorem nxt_step (t : Tm) (k a b i : Nat) : nxtI t k a (b + 1) i = if i = b ∧ (canI t k a && stB t a b) = true then true else nxtI t k a b i := by
  split
  · rename_i h
    obtain ⟨rfl, h2⟩ := h
    rw [Bool.and_eq_true] at h2
    exact truB_iff.2 ⟨a, .inr ⟨rfl, by omega⟩, h2⟩
  · rename_i h
    refine truB_congr (exists_congr fun a' => ⟨fun ⟨h1, h2, h3⟩ => ⟨?_, h2, h3⟩, fun ⟨h1, h2, h3⟩ => ⟨by omega, h2, h3⟩⟩)
    rcases h1 with h1 | ⟨rfl, h1⟩
    · exact .inl h1
    · by_cases e : i = b
      · subst e
        exact absurd ⟨rfl, by rw [h2, h3]; rfl⟩ h
      · exact .inr ⟨rfl, by omega⟩
theorem can_zero {t : Tm} (ht : TmOk t) {i : Nat} (hi : i < 729) : canI t 0 i = decide (i = iV (hoursV t)) := by
  obtain ⟨h1, h2⟩ := vI_iV (hoursV_ok ht).bd
  refine truB_eq ?_
  rw [decide_eq_true_eq]
  constructor
  · rintro rfl; exact h2
  · intro h
    have h : vI i = hoursV t := h
    unfold iV
    rw [← h]
    show i = ((i / 81 : Nat) : Int).toNat * 81 + ((i / 9 % 9 : Nat) : Int).toNat * 9 + ((i % 9 : Nat) : Int).toNat
    omega
theorem nxt_end {t : Tm} (ht : TmOk t) (k : Nat) {i : Nat} (hi : i < 729) : nxtI t k 729 0 i = canI t (k + 1) i := by
  have hh := hoursV_ok ht
  refine truB_congr ⟨?_, ?_⟩
  · rintro ⟨a', _, h2, h3⟩
    have hr := truB_iff.1 h2
    exact ⟨vI a', hr, (stB_iff ht (rch_ok hh hr).far).1 h3⟩
  · rintro ⟨m, hm, hs⟩
    have hok := rch_ok hh hm
    obtain ⟨h1, h2⟩ := vI_iV hok.bd
    refine ⟨iV m, .inl h1, truB_iff.2 (by rw [h2]; exact hm), (stB_iff ht (by rw [h2]; exact hok.far)).2 (by rw [h2]; exact hs)⟩
theorem can_does (t : Tm) (k : Nat) : canI t k 0 = true ↔ Does t k (hoursV t) := by
  unfold canI
  rw [truB_iff, vI_zero, rch_does]
theorem few_at {t : Tm} {k : Nat} (h6 : k ≤ 6) (h : canI t k 0 = true) (hb : ∀ j, j < k → canI t j 0 = false) : fewT t = k :=
  (fewT_is t).uniq (.inl ⟨h6, (can_does t k).1 h, fun j hj hd => absurd (hb j hj) (by rw [(can_does t j).2 hd]; decide)⟩)
theorem few_not {t : Tm} (hb : ∀ j, j < 7 → canI t j 0 = false) : fewT t = 7 :=
  (fewT_is t).uniq (.inr ⟨rfl, fun j hj hd => absurd (hb j (by omega)) (by rw [(can_does t j).2 hd]; decide)⟩)
/-- what Fewest tells. -/
noncomputable def fewR (t : Tm) : Int := if fewT t ≤ 6 then (fewT t : Int) else -1
end Go.Proofs.Ythihdiilokdidaa
end

section
namespace Go.Proofs.Ythihdiilokdidaa
open Go.RowKit
attribute [local go_sem] Ex.cell? Ex.frozen?

def chkF (l : List Value) (n : Nat) : Bool := l.length == n && l.all (fun v => match v with | .bool b => !b | _ => false)
theorem chkF_iff {l : List Value} {n : Nat} (h : chkF l n = true) : l.length = n ∧ ∀ v ∈ l, v = .bool false := by
  unfold chkF at h
  rw [Bool.and_eq_true, beq_iff_eq, List.all_eq_true] at h
  refine ⟨h.1, fun v hv => ?_⟩
  have := h.2 v hv
  split at this
  · rename_i b; cases b
    · rfl
    · cases this
  · cases this
theorem zc_ok : chkF Try.zeroCells146.toList 729 = true := by kernel_rfl
/-- a table of Bools in memory. -/
abbrev TabAt (W : World) (q : Nat) (f : Nat → Bool) : Prop := VArr W q 146 729 (fun i => .bool (f i))
theorem TabAt.zero (W : World) : TabAt (W.alloc (.cells Try.zeroCells146 146)) W.heap.size (fun _ => false) := by
  obtain ⟨h1, h2⟩ := chkF_iff zc_ok
  have h1' : Try.zeroCells146.size = 729 := by rw [← Array.length_toList]; exact h1
  generalize Try.zeroCells146 = zc at *
  exact VArr.of (Blk.new _ _ _) h1' fun i hi => by
    have hk : i < zc.size := by omega
    rw [Array.getElem?_eq_getElem hk, h2 zc[i] (by simp)]
theorem TabAt.put {W : World} {q : Nat} {f : Nat → Bool} (h : TabAt W q f) {i : Nat} (hi : i < 729) : TabAt (W.setCell ⟨q, i, none⟩ (.bool true)) q (fun j => if j = i then true else f j) :=
  (VArr.set h (.bool true) hi).ext fun j hj => by by_cases e : j = i <;> simp [e]
/-- one table is copied onto another one. -/
theorem TabAt.copy {W : World} {p q : Nat} {f g : Nat → Bool} (hp : TabAt W p f) (hq : TabAt W q g) : ∃ cs : Array Value, W.heap[q]? = some (.cells cs 146 (0, 0)) ∧ cs.size = 729 ∧ cs.all (·.oneCell') = true ∧ TabAt (W.setRow p cs) p g ∧ Fr (fun b => b = p) W (W.setRow p cs) := by
  obtain ⟨cs, h1, h2, h3⟩ := hq
  obtain ⟨cp, k1, k2, k3⟩ := hp
  have k1' : W.heap[p]? = some (.cells cp 146 (0, 0)) := k1
  refine ⟨cs, h1, h2, ?_, ⟨cs, setRow_heap W p cp cs _ _ k1', h2, h3⟩, ⟨rfl, rfl, rfl, by simp, fun k _ hne => setRow_other W p k cs hne⟩⟩
  rw [Array.all_eq_true]
  intro i hi
  have := h3 i (by omega)
  rw [Array.getElem?_eq_getElem hi] at this
  injection this with this
  rw [this]
  rfl
theorem len_dI {n a b : Nat} (hn : n ≤ 3) : (dI n a b).length = n := by rw [dI_hrs]; exact hrsL_len _ hn
theorem at_dI {n a b : Nat} (hn : n ≤ 3) {i : Nat} (hi : i < n) : gI (dI n a b) i = match i with | 0 => ((a / 81 : Nat) : Int) - ((b / 81 : Nat) : Int) | 1 => ((a / 9 % 9 : Nat) : Int) - ((b / 9 % 9 : Nat) : Int) | _ => ((a % 9 : Nat) : Int) - ((b % 9 : Nat) : Int) := by
  rw [dI_hrs, hrsL_get _ hn hi, V3.sub_get]
  match i, hi with
  | 0, _ => rfl
  | 1, _ => rfl
  | 2, _ => rfl
  | i + 3, h => omega
theorem ix_eq (a : Nat) : a / 81 * 81 + a / 9 % 9 * 9 + a % 9 = a := by omega
theorem tri (a : Nat) (h : a < 729) : a / 81 < 9 ∧ a / 9 % 9 < 9 ∧ a % 9 < 9 := by omega
set_option maxRecDepth 100000 in
set_option maxHeartbeats 6400000 in
theorem Fewest_ref (t : Tm) (Ar Ah : Option Addr) (cr ch : Nat) (w : World) (htm : TmIn w w.heap.size t Ar Ah) (ht : TmOk t) :
    Calls Try.prog 31 #[.agg #[.slice Ar t.rates.length cr, .slice Ah t.hours.length ch, .int .i64 t.limit, .int .i64 t.most]] w fun e w' => e = .returned (.int .i64 (fewR t)) ∧ Below w.heap.size w w' := by
  obtain ⟨i0, hi0, hz0, hz1, hz2⟩ := info_parts int_info
  have HI := Lib.hid hi0
  clear hi0
  have HTM := Lib.hid htm
  have hth := htm.hours
  have HT := Lib.hid ht
  have hn3 : 1 ≤ t.rates.length ∧ t.rates.length ≤ 3 := ⟨ht.len.1, ht.len.2.1⟩
  have HHL : Hid (t.hours.length = t.rates.length) := Lib.hid ht.len.2.2
  have HOK := Lib.hid (hoursV_ok ht).bd
  clear htm ht
  have hb1 := ex_alloc (ex_alloc (Below.refl w.heap.size w) (.cells #[.slice Ar t.rates.length cr, .slice Ah t.hours.length ch, .int .i64 t.limit, .int .i64 t.most] 55)) (.cells Try.zeroCells146 146)
  have q0 : Blk ((w.alloc (.cells #[.slice Ar t.rates.length cr, .slice Ah t.hours.length ch, .int .i64 t.limit, .int .i64 t.most] 55)).alloc (.cells Try.zeroCells146 146)) w.heap.size 55 #[.slice Ar t.rates.length cr, .slice Ah t.hours.length ch, .int .i64 t.limit, .int .i64 t.most] := (Blk.new _ _ _).alloc _
  have qc : TabAt ((w.alloc (.cells #[.slice Ar t.rates.length cr, .slice Ah t.hours.length ch, .int .i64 t.limit, .int .i64 t.most] 55)).alloc (.cells Try.zeroCells146 146)) (w.heap.size + 1) (fun _ => false) := by have := TabAt.zero (w.alloc (.cells #[.slice Ar t.rates.length cr, .slice Ah t.hours.length ch, .int .i64 t.limit, .int .i64 t.most] 55)); simpa using this
  go_enter Try.func31, Try.ntmps31
  go_upto_region 2 with fail
  show Code.wp _ _ _ _ ((w.alloc (.cells #[.slice Ar t.rates.length cr, .slice Ah t.hours.length ch, .int .i64 t.limit, .int .i64 t.most] 55)).alloc (.cells Try.zeroCells146 146))
  generalize (w.alloc (.cells #[.slice Ar t.rates.length cr, .slice Ah t.hours.length ch, .int .i64 t.limit, .int .i64 t.most] 55)).alloc (.cells Try.zeroCells146 146) = V at *
  have a0 : V.cell? ⟨w.heap.size, 0, none⟩ = some (.slice Ar t.rates.length cr) := q0.cell 0
  have a1 : V.cell? ⟨w.heap.size, 1, none⟩ = some (.slice Ah t.hours.length ch) := q0.cell 1
  have a2 : V.cell? ⟨w.heap.size, 2, none⟩ = some (.int .i64 t.limit) := q0.cell 2
  have a3 : V.cell? ⟨w.heap.size, 3, none⟩ = some (.int .i64 t.most) := q0.cell 3
  have l0 := q0.lt
  have NE := ex_alloc (Below.refl V.heap.size V) (.cells #[] 3)
  have qe : Blk (V.alloc (.cells #[] 3)) V.heap.size 3 #[] := Blk.new _ _ _
  have hLE := (hth.below (ex_trans hb1 NE)).up (ex_trans hb1 NE).size
  have hnl : t.hours.length ≤ 3 := by rw [HHL.out]; exact hn3.2
  go_wp2_with (refine pause_at 18 rfl ?_)
  refine Paused.mk ?_
  refine wpList_append_list (α := Int) (f := cI1) (F := fI) (sz := 1) (fun _ => rfl) (fun l k hk j hj => by have hj0 : j = 0 := (by omega); subst hj0; simp [cI1, fI, gI, hk]) (fun a u hu => by simp [cI1] at hu; subst hu; rfl) rfl _ _ _ rfl V.heap.size 3 i0 _ 8 Try.underlying28 HI.out hz0 hz1 hz2 rfl (by omega) (some ⟨V.heap.size, 0, none⟩) 0 [] rfl (own_empty qe (Nat.le_refl _)) Ah ch t.hours rfl hLE (by simp; unfold maxLen; omega) (by simp; omega) NE.size (V.heap.size + 1) (by simp) ?_
  intro L1 B1 k1 v1 HL1 o1 g1 n1
  have HLL : Hid (L1 = t.hours) := Lib.hid HL1.out
  have E1 : Below V.heap.size V v1 := NE.grown g1 NE.size (fun j hj => by have : V.heap.size = j := (by simpa [Value.ownBlock] using hj); omega)
  have hL1 : L1.length ≤ 3 := by rw [HLL.out]; exact hnl
  have E2 := ex_alloc (Below.refl v1.heap.size v1) (.cells #[.int .i64 0, .int .i64 0] 3)
  have y4 := own_below o1 E2
  have hbase : V.heap.size ≤ (v1.alloc (.cells #[.int .i64 0, .int .i64 0] 3)).heap.size := by have := E1.size; have := E2.size; omega
  go_wp2_with (refine pause_at 20 rfl ?_)
  refine Paused.mk ?_
  refine wpList_append_lies _ rfl _ _ _ rfl V.heap.size 3 i0 _ 1 8 Try.underlying28 HI.out hz0 hz1 hz2 rfl (by omega) (.slice B1 L1.length k1) _ _ rfl y4 ⟨v1.heap.size, 0, none⟩ 2 2 [.int .i64 0, .int .i64 0] rfl rfl (World.news_of_block (heap_alloc_new v1 _)) (by simp [Value.oneCell']) (by omega) (by unfold maxLen; omega) (by omega) hbase (v1.heap.size + 1) (by simp) ?_
  intro gg cap w1 hown' hgrow hat hlt'
  have E3 : Below V.heap.size V w1 := (ex_trans E1 E2).grown hgrow (ex_trans E1 E2).size (fun b hb => by have := own_ge y4 hb; omega)
  have hown2 : w1.ownsRow V.heap.size 3 1 (.slice (some ⟨gg, 0, none⟩) (L1.length + 2) cap) (L1 ++ [0, 0]).length ((L1 ++ [0, 0]).flatMap cI1) := by rw [(by simp : (L1 ++ [(0 : Int), 0]).length = L1.length + 2), List.flatMap_append]; exact hown'
  have hgv : ∀ i, i < 3 → gI (L1 ++ [0, 0]) i = (hoursV t).get i := fun i hi => by
    unfold hoursV
    rw [layV_get _ _ hi, HLL.out]
    by_cases h : i < t.rates.length
    · rw [if_pos h]; unfold gI; rw [List.getD_eq_getElem?_getD, List.getElem?_append_left (by rw [HHL.out]; exact h), ← List.getD_eq_getElem?_getD]
    · rw [if_neg h]; unfold gI; rw [List.getD_eq_getElem?_getD, List.getElem?_append_right (by rw [HHL.out]; omega), HHL.out]
      have : i - t.rates.length = 0 ∨ i - t.rates.length = 1 := by omega
      rcases this with e | e <;> rw [e] <;> rfl
  have hl5 : (L1 ++ [0, 0]).length = L1.length + 2 := by simp
  have hL1n : 1 ≤ L1.length := by rw [HLL.out, HHL.out]; exact hn3.1
  obtain ⟨x0, hx0⟩ : ∃ x : Nat, (hoursV t).get 0 = (x : Int) := ⟨((hoursV t).get 0).toNat, by have := (HOK.out 0 (by omega)).1; omega⟩
  have hx0b : x0 < 9 := by have := (HOK.out 0 (by omega)).2; omega
  have h0 := hgv 0 (by omega)
  rw [hx0] at h0
  obtain ⟨x1, hx1⟩ : ∃ x : Nat, (hoursV t).get 1 = (x : Int) := ⟨((hoursV t).get 1).toNat, by have := (HOK.out 1 (by omega)).1; omega⟩
  have hx1b : x1 < 9 := by have := (HOK.out 1 (by omega)).2; omega
  have h1 := hgv 1 (by omega)
  rw [hx1] at h1
  obtain ⟨x2, hx2⟩ : ∃ x : Nat, (hoursV t).get 2 = (x : Int) := ⟨((hoursV t).get 2).toNat, by have := (HOK.out 2 (by omega)).1; omega⟩
  have hx2b : x2 < 9 := by have := (HOK.out 2 (by omega)).2; omega
  have h2 := hgv 2 (by omega)
  rw [hx2] at h2
  have hcell : ∀ i, i < 3 → w1.cell? ⟨gg, i, none⟩ = some (.int .i64 (gI (L1 ++ [0, 0]) i)) := fun i hi => by
    obtain ⟨g', cap', ev, hgB, hgW, hcl, hfz⟩ := row_at (f := cI1) (sz := 1) (fun _ => rfl) (by omega) hown2 (show i < (L1 ++ [0, 0]).length by omega)
    injection ev with ev1 ev2 ev3
    injection ev1 with ev1
    injection ev1 with ev1
    subst ev1
    have := hcl 0 (by omega)
    rw [show i * 1 + 0 = i by omega] at this
    rw [this]
    unfold cI1 gI
    rw [List.getD_eq_getElem?_getD, List.getElem?_eq_getElem (show i < (L1 ++ [(0 : Int), 0]).length by omega)]
    rfl
  have c0 : w1.cell? ⟨gg, 0, none⟩ = some (.int .i64 (x0 : Int)) := by rw [hcell 0 (by omega), h0]
  have c1 : w1.cell? ⟨gg, 1, none⟩ = some (.int .i64 (x1 : Int)) := by rw [hcell 1 (by omega), h1]
  have c2 : w1.cell? ⟨gg, 2, none⟩ = some (.int .i64 (x2 : Int)) := by rw [hcell 2 (by omega), h2]
  have lgg : gg < w1.heap.size := (own_lt hown2 rfl).2
  have HIV : Hid (iV (hoursV t) = x0 * 81 + x1 * 9 + x2) := Lib.hid (by
    have e0 : (hoursV t).a = (x0 : Int) := hx0
    have e1 : (hoursV t).b = (x1 : Int) := hx1
    have e2 : (hoursV t).c = (x2 : Int) := hx2
    unfold iV
    rw [e0, e1, e2]
    omega)
  have hpre : L1.length + 2 = L1.length + 2 := rfl
  have h0l : (0 : Int) < ((L1.length + 2 : Nat) : Int) ∧ (1 : Int) < ((L1.length + 2 : Nat) : Int) ∧ (2 : Int) < ((L1.length + 2 : Nat) : Int) := by omega
  have qcw := qc.below E3
  have q0w := q0.below E3 q0.lt
  have hbw := ex_trans hb1 E3
  have hw1 : w.heap.size + 1 < V.heap.size := qc.lt
  clear hpre hown' hgrow hat hlt' hcell hgv h0 h1 h2 hx0 hx1 hx2 y4 hbase E1 E2 E3 o1 g1 n1 NE qe hLE hl5 HL1 HLL hown2 a0 a1 a2 a3 l0 q0 qc hb1
  obtain ⟨ln, hln⟩ : ∃ x, L1.length + 2 = x := ⟨_, rfl⟩
  rw [hln] at h0l ⊢
  have hln3 : 3 ≤ ln := by omega
  clear hln h0l hL1n hL1
  have lpc := qcw.lt
  have fpc := qcw.frozen (x0 * 81 + x1 * 9 + x2)
  have z0 := qcw.cell (i := x0 * 81 + x1 * 9 + x2) (by omega)
  have d0 : (x0 : Int) < 9 := by omega
  have d1 : (x1 : Int) < 9 := by omega
  have d2 : (x2 : Int) < 9 := by omega
  have dl0 : (0 : Int) < (ln : Int) := by omega
  have dl1 : (1 : Int) < (ln : Int) := by omega
  have dl2 : (2 : Int) < (ln : Int) := by omega
  go_upto_region 3 with fail
  refine wp_region_ext_mix 12 [(false, 0), (false, 1), (false, 2), (false, 3), (false, 4), (false, 5), (false, 6), (false, 7), (false, 8), (false, 9), (false, 10), (false, 11)] (by kernel_rfl) (by kernel_rfl) (by intro d _ _ _ _ h; cases d <;> exact h) ?_
  repeat (refine mix_quiet rfl ?_; go_big_quiet_step (fail); refine wpQuiet_nil ?_)
  refine mix_nil (r := [_]) rfl ?_
  have hix : x0 * 81 + x1 * 9 + x2 < 729 := by omega
  have qc2 : TabAt (w1.setCell ⟨w.heap.size + 1, x0 * 81 + x1 * 9 + x2, none⟩ (.bool true)).drew (w.heap.size + 1) (canI t 0) := (VArr.below (TabAt.put qcw hix) (Below.refl _ _).drew).ext fun i hi => by
    rw [can_zero HT.out hi, HIV.out]
    by_cases e : i = x0 * 81 + x1 * 9 + x2 <;> simp [e]
  have q02 := (q0w.far (p := ⟨w.heap.size + 1, x0 * 81 + x1 * 9 + x2, none⟩) (by show w.heap.size ≠ w.heap.size + 1; omega) (.bool true)).below (Below.refl _ _).drew (q0w.far (p := ⟨w.heap.size + 1, x0 * 81 + x1 * 9 + x2, none⟩) (by show w.heap.size ≠ w.heap.size + 1; omega) (.bool true)).lt
  have hb2 := (ex_set hbw (p := ⟨w.heap.size + 1, x0 * 81 + x1 * 9 + x2, none⟩) (by show w.heap.size ≤ w.heap.size + 1; omega) (.bool true)).drew
  go_upto_region 4 with fail
  generalize (w1.setCell ⟨w.heap.size + 1, x0 * 81 + x1 * 9 + x2, none⟩ (.bool true)).drew = U at *
  clear z0 fpc lpc qcw q0w hbw c0 c1 c2 lgg d0 d1 d2 dl0 dl1 dl2 hx0b hx1b hx2b hix HIV hln3 hw1
  go_wp2_with fail
  refine wp_loop (fun a W => Rel (fun a W => ∃ k : Nat, k ≤ 7 ∧ (Below w.heap.size w W ∧ Blk W w.heap.size 55 #[.slice Ar t.rates.length cr, .slice Ah t.hours.length ch, .int .i64 t.limit, .int .i64 t.most] ∧ TabAt W (w.heap.size + 1) (canI t k)) ∧ Hid (∀ j, j < k → canI t j 0 = false) ∧ ∃ u : Nat → Value, a = ⟨List.toArray (u 0 :: .pointer (some ⟨w.heap.size, 0, none⟩) :: u 2 :: .pointer (some ⟨w.heap.size + 1, 0, none⟩) :: u 4 :: .int .i64 (k : Int) :: u 6 :: u 7 :: u 8 :: u 9 :: u 10 :: u 11 :: u 12 :: u 13 :: u 14 :: u 15 :: u 16 :: u 17 :: u 18 :: u 19 :: u 20 :: u 21 :: u 22 :: u 23 :: u 24 :: u 25 :: u 26 :: u 27 :: u 28 :: u 29 :: u 30 :: u 31 :: u 32 :: u 33 :: u 34 :: u 35 :: u 36 :: u 37 :: u 38 :: u 39 :: u 40 :: u 41 :: u 42 :: u 43 :: u 44 :: u 45 :: u 46 :: u 47 :: u 48 :: u 49 :: u 50 :: u 51 :: u 52 :: u 53 :: u 54 :: u 55 :: u 56 :: u 57 :: u 58 :: u 59 :: u 60 :: u 61 :: u 62 :: u 63 :: u 64 :: u 65 :: u 66 :: u 67 :: u 68 :: u 69 :: u 70 :: u 71 :: u 72 :: u 73 :: u 74 :: u 75 :: u 76 :: u 77 :: u 78 :: u 79 :: u 80 :: u 81 :: u 82 :: u 83 :: u 84 :: u 85 :: u 86 :: u 87 :: u 88 :: u 89 :: u 90 :: u 91 :: u 92 :: u 93 :: u 94 :: u 95 :: u 96 :: u 97 :: u 98 :: u 99 :: u 100 :: u 101 :: u 102 :: u 103 :: u 104 :: u 105 :: u 106 :: u 107 :: u 108 :: u 109 :: u 110 :: u 111 :: u 112 :: u 113 :: u 114 :: u 115 :: u 116 :: u 117 :: u 118 :: u 119 :: u 120 :: u 121 :: u 122 :: u 123 :: u 124 :: u 125 :: u 126 :: u 127 :: u 128 :: u 129 :: u 130 :: u 131 :: u 132 :: []), []⟩) a W) (fun a _ => 7 - (intOf (a.tmps.getD 5 undef)).toNat) ⟨⟨0, by omega, ⟨hb2, q02, qc2⟩, Lib.hid (fun j hj => by omega), exFrame (by kernel_rfl)⟩⟩ ?_
  clear hb2 q02 qc2 U
  rintro a W ⟨⟨k, hk, ⟨hbl, q0, qc⟩, HZ, u, rfl⟩⟩
  by_cases hk6 : k ≤ 6
  rotate_left
  · obtain rfl : k = 7 := by omega
    have HR : Hid (fewR t = -1) := Lib.hid (by unfold fewR; rw [few_not HZ.out]; rfl)
    go_wp2
    go_ret
    exact ⟨ret_int HR.out.symm, hbl⟩
  have hk6' : (k : Int) ≤ 6 := by omega
  have z0 := qc.cell (i := 0) (by omega)
  have lpc := qc.lt
  cases hc0 : canI t k 0
  rotate_left
  · rw [hc0] at z0
    have HR : Hid (fewR t = (k : Int)) := Lib.hid (by have := few_at hk6 hc0 HZ.out; unfold fewR; rw [this, if_pos hk6])
    clear hc0
    go_wp2
    go_ret
    exact ⟨ret_int HR.out.symm, hbl⟩
  rw [hc0] at z0
  have HZ2 : Hid (∀ j, j < k + 1 → canI t j 0 = false) := Lib.hid (fun j hj => by
    rcases Nat.lt_succ_iff_lt_or_eq.1 hj with h | h
    · exact HZ.out j h
    · subst h; exact hc0)
  clear hc0 HZ
  have NA := ex_alloc (Below.refl W.heap.size W) (.cells Try.zeroCells146 146)
  have qn := TabAt.zero W
  go_upto_region 10 with fail
  obtain ⟨pn, hpn⟩ : ∃ p, W.heap.size = p := ⟨_, rfl⟩
  rw [hpn] at qn ⊢
  replace hbl := ex_trans hbl NA
  replace q0 := q0.below NA q0.lt
  replace qc := VArr.below qc NA
  have hpc : w.heap.size + 1 < pn := by omega
  clear NA hpn z0 lpc
  generalize W.alloc (.cells Try.zeroCells146 146) = V at *
  have qn0 : TabAt V pn (nxtI t k 0 0) := qn.ext fun i hi => by rw [nxt_zero]
  clear qn
  go_wp2_with fail
  refine wp_loop (fun s W => Rel (fun s W => ∃ a : Nat, a ≤ 729 ∧ (Below w.heap.size w W ∧ Blk W w.heap.size 55 #[.slice Ar t.rates.length cr, .slice Ah t.hours.length ch, .int .i64 t.limit, .int .i64 t.most] ∧ TabAt W (w.heap.size + 1) (canI t k) ∧ TabAt W pn (nxtI t k a 0)) ∧ ∃ u : Nat → Value, s = ⟨List.toArray (u 0 :: .pointer (some ⟨w.heap.size, 0, none⟩) :: u 2 :: .pointer (some ⟨w.heap.size + 1, 0, none⟩) :: u 4 :: .int .i64 (k : Int) :: .pointer (some ⟨pn, 0, none⟩) :: .int .i64 (a : Int) :: u 8 :: u 9 :: u 10 :: u 11 :: u 12 :: u 13 :: u 14 :: u 15 :: u 16 :: u 17 :: u 18 :: u 19 :: u 20 :: u 21 :: u 22 :: u 23 :: u 24 :: u 25 :: u 26 :: u 27 :: u 28 :: u 29 :: u 30 :: u 31 :: u 32 :: u 33 :: u 34 :: u 35 :: u 36 :: u 37 :: u 38 :: u 39 :: u 40 :: u 41 :: u 42 :: u 43 :: u 44 :: u 45 :: u 46 :: u 47 :: u 48 :: u 49 :: u 50 :: u 51 :: u 52 :: u 53 :: u 54 :: u 55 :: u 56 :: u 57 :: u 58 :: u 59 :: u 60 :: u 61 :: u 62 :: u 63 :: u 64 :: u 65 :: u 66 :: u 67 :: u 68 :: u 69 :: u 70 :: u 71 :: u 72 :: u 73 :: u 74 :: u 75 :: u 76 :: u 77 :: u 78 :: u 79 :: u 80 :: u 81 :: u 82 :: u 83 :: u 84 :: u 85 :: u 86 :: u 87 :: u 88 :: u 89 :: u 90 :: u 91 :: u 92 :: u 93 :: u 94 :: u 95 :: u 96 :: u 97 :: u 98 :: u 99 :: u 100 :: u 101 :: u 102 :: u 103 :: u 104 :: u 105 :: u 106 :: u 107 :: u 108 :: u 109 :: u 110 :: u 111 :: u 112 :: u 113 :: u 114 :: u 115 :: u 116 :: u 117 :: u 118 :: u 119 :: u 120 :: u 121 :: u 122 :: u 123 :: u 124 :: u 125 :: u 126 :: u 127 :: u 128 :: u 129 :: u 130 :: u 131 :: u 132 :: []), []⟩) s W) (fun a _ => 729 - (intOf (a.tmps.getD 7 undef)).toNat) ⟨⟨0, by omega, ⟨hbl, q0, qc, qn0⟩, exFrame (by kernel_rfl)⟩⟩ ?_
  clear hbl q0 qc qn0 V
  rintro s W ⟨⟨a, ha, ⟨hbl, q0, qc, qn⟩, u2, rfl⟩⟩
  by_cases hla : a < 729
  rotate_left
  · obtain rfl : a = 729 := by omega
    have qn2 : TabAt W pn (canI t (k + 1)) := qn.ext fun i hi => by rw [nxt_end HT.out k hi]
    obtain ⟨cs, hcs, hcz, hco, qc3, hF⟩ := TabAt.copy qc qn2
    have q03 := q0.fr hF (by show ¬ w.heap.size = w.heap.size + 1; omega)
    have hb3 : Below w.heap.size w (W.setRow (w.heap.size + 1) cs) := hF.toBelow hbl hbl.size (fun x hx => by omega)
    obtain ⟨cp, hcp, hcpz, hcp9⟩ := qc
    clear hcp9
    have hcp' : W.heap[w.heap.size + 1]? = some (.cells cp 146 (0, 0)) := hcp
    go_upto_region 20 with fail
    go_wp2_with (refine pause_at 132 rfl ?_)
    refine Paused.mk ?_
    refine wpList_load_row rfl 146 _ rfl pn rfl 146 cs (0, 0) _ hcs Try.underlying146 rfl (by rw [hcz]; kernel_rfl) ?_
    refine wpList_store_row rfl 146 _ _ rfl (w.heap.size + 1) cs rfl rfl 146 cp hcp' (by rw [hcz]; kernel_rfl) (by rw [hcz, hcpz]) hco ?_
    clear qn qn2 hcs hcp hcp'
    go_wp2_with fail
    refine ⟨⟨⟨k + 1, by omega, ⟨hb3, q03, qc3⟩, HZ2, exFrame (by kernel_rfl)⟩⟩, ?_⟩
    show 7 - (intOf (.int .i64 ((k : Int) + 1))).toNat < 7 - (intOf (.int .i64 (k : Int))).toNat
    simp [intOf]
    omega
  have hla' : (a : Int) < 729 := by omega
  go_wp2_with fail
  refine wp_loop (fun s W => Rel (fun s W => ∃ b : Nat, b ≤ 729 ∧ (Below w.heap.size w W ∧ Blk W w.heap.size 55 #[.slice Ar t.rates.length cr, .slice Ah t.hours.length ch, .int .i64 t.limit, .int .i64 t.most] ∧ TabAt W (w.heap.size + 1) (canI t k) ∧ TabAt W pn (nxtI t k a b)) ∧ ∃ u : Nat → Value, s = ⟨List.toArray (u 0 :: .pointer (some ⟨w.heap.size, 0, none⟩) :: u 2 :: .pointer (some ⟨w.heap.size + 1, 0, none⟩) :: u 4 :: .int .i64 (k : Int) :: .pointer (some ⟨pn, 0, none⟩) :: .int .i64 (a : Int) :: .int .i64 (b : Int) :: u 9 :: u 10 :: u 11 :: u 12 :: u 13 :: u 14 :: u 15 :: u 16 :: u 17 :: u 18 :: u 19 :: u 20 :: u 21 :: u 22 :: u 23 :: u 24 :: u 25 :: u 26 :: u 27 :: u 28 :: u 29 :: u 30 :: u 31 :: u 32 :: u 33 :: u 34 :: u 35 :: u 36 :: u 37 :: u 38 :: u 39 :: u 40 :: u 41 :: u 42 :: u 43 :: u 44 :: u 45 :: u 46 :: u 47 :: u 48 :: u 49 :: u 50 :: u 51 :: u 52 :: u 53 :: u 54 :: u 55 :: u 56 :: u 57 :: u 58 :: u 59 :: u 60 :: u 61 :: u 62 :: u 63 :: u 64 :: u 65 :: u 66 :: u 67 :: u 68 :: u 69 :: u 70 :: u 71 :: u 72 :: u 73 :: u 74 :: u 75 :: u 76 :: u 77 :: u 78 :: u 79 :: u 80 :: u 81 :: u 82 :: u 83 :: u 84 :: u 85 :: u 86 :: u 87 :: u 88 :: u 89 :: u 90 :: u 91 :: u 92 :: u 93 :: u 94 :: u 95 :: u 96 :: u 97 :: u 98 :: u 99 :: u 100 :: u 101 :: u 102 :: u 103 :: u 104 :: u 105 :: u 106 :: u 107 :: u 108 :: u 109 :: u 110 :: u 111 :: u 112 :: u 113 :: u 114 :: u 115 :: u 116 :: u 117 :: u 118 :: u 119 :: u 120 :: u 121 :: u 122 :: u 123 :: u 124 :: u 125 :: u 126 :: u 127 :: u 128 :: u 129 :: u 130 :: u 131 :: u 132 :: []), []⟩) s W) (fun a _ => 729 - (intOf (a.tmps.getD 8 undef)).toNat) ⟨⟨0, by omega, ⟨hbl, q0, qc, qn⟩, exFrame (by kernel_rfl)⟩⟩ ?_
  clear hbl q0 qc qn W
  rintro s W ⟨⟨b, hb, ⟨hbl, q0, qc, qn⟩, u3, rfl⟩⟩
  by_cases hlb : b < 729
  rotate_left
  · obtain rfl : b = 729 := by omega
    have qn2 : TabAt W pn (nxtI t k (a + 1) 0) := qn.ext fun i hi => by rw [nxt_row t k a hi]
    clear qn
    go_wp2_with fail
    refine ⟨⟨⟨a + 1, by omega, ⟨hbl, q0, qc, qn2⟩, exFrame (by kernel_rfl)⟩⟩, ?_⟩
    show 729 - (intOf (.int .i64 ((a : Int) + 1))).toNat < 729 - (intOf (.int .i64 (a : Int))).toNat
    simp [intOf]
    omega
  have hlb' : (b : Int) < 729 := by omega
  go_upto_region 18 with fail
  obtain ⟨X, hX⟩ : ∃ x, a / 81 = x := ⟨_, rfl⟩
  have eX : (a : Int) / 81 = (X : Int) := by omega
  obtain ⟨Y, hY⟩ : ∃ x, a / 9 % 9 = x := ⟨_, rfl⟩
  have eY : (a : Int) / 9 % 9 = (Y : Int) := by omega
  obtain ⟨Z, hZ⟩ : ∃ x, a % 9 = x := ⟨_, rfl⟩
  have eZ : (a : Int) % 9 = (Z : Int) := by omega
  obtain ⟨U, hU⟩ : ∃ x, b / 81 = x := ⟨_, rfl⟩
  have eU : (b : Int) / 81 = (U : Int) := by omega
  obtain ⟨V, hV⟩ : ∃ x, b / 9 % 9 = x := ⟨_, rfl⟩
  have eV : (b : Int) / 9 % 9 = (V : Int) := by omega
  obtain ⟨O, hO⟩ : ∃ x, b % 9 = x := ⟨_, rfl⟩
  have eO : (b : Int) % 9 = (O : Int) := by omega
  rw [eX, eY, eZ, eU, eV, eO]
  have hta := tri a hla
  have htb := tri b hlb
  have hia := ix_eq a
  have hib := ix_eq b
  rw [hX, hY, hZ] at hta hia
  rw [hU, hV, hO] at htb hib
  have HST : Hid (stB t a b = (decide (U ≤ X) && (decide (V ≤ Y) && (decide (O ≤ Z) && (rowR t (dI t.rates.length a b) && ((decide (2 < t.rates.length) || decide (Z = O)) && (decide (1 < t.rates.length) || decide (Y = V)))))))) := Lib.hid (by unfold stB; rw [hX, hY, hZ, hU, hV, hO])
  have HDI : Hid (∀ i, i < t.rates.length → gI (dI t.rates.length a b) i = match i with | 0 => (X : Int) - (U : Int) | 1 => (Y : Int) - (V : Int) | _ => (Z : Int) - (O : Int)) := Lib.hid (fun i hi => by
    rw [at_dI hn3.2 hi]
    match i with
    | 0 => show ((a / 81 : Nat) : Int) - ((b / 81 : Nat) : Int) = (X : Int) - (U : Int); rw [hX, hU]
    | 1 => show ((a / 9 % 9 : Nat) : Int) - ((b / 9 % 9 : Nat) : Int) = (Y : Int) - (V : Int); rw [hY, hV]
    | i + 2 => show ((a % 9 : Nat) : Int) - ((b % 9 : Nat) : Int) = (Z : Int) - (O : Int); rw [hZ, hO])
  have HDL : Hid ((dI t.rates.length a b).length = t.rates.length) := Lib.hid (len_dI hn3.2)
  clear eX hX eY hY eZ hZ eU hU eV hV eO hO
  have z1 : W.cell? ⟨w.heap.size + 1, X * 81 + Y * 9 + Z, none⟩ = some (.bool (canI t k a)) := by rw [hia]; exact qc.cell hla
  have lpc := qc.lt
  have HIB := Lib.hid hib
  clear hia hib
  have dX : (X : Int) < 9 := by omega
  have dY : (Y : Int) < 9 := by omega
  have dZ : (Z : Int) < 9 := by omega
  have dU : (U : Int) < 9 := by omega
  have dV : (V : Int) < 9 := by omega
  have dO : (O : Int) < 9 := by omega
  have a0 : W.cell? ⟨w.heap.size, 0, none⟩ = some (.slice Ar t.rates.length cr) := q0.cell 0
  have a1 : W.cell? ⟨w.heap.size, 1, none⟩ = some (.slice Ah t.hours.length ch) := q0.cell 1
  have a2 : W.cell? ⟨w.heap.size, 2, none⟩ = some (.int .i64 t.limit) := q0.cell 2
  have a3 : W.cell? ⟨w.heap.size, 3, none⟩ = some (.int .i64 t.most) := q0.cell 3
  have l0 := q0.lt
  have X0 := (Below.refl W.heap.size W).drew
  cases hca : canI t k a
  · rw [hca] at z1
    have HNO : Hid ((canI t k a && stB t a b) = false) := Lib.hid (by rw [hca]; rfl)
    clear hca
    refine wp_region_ext_mix 61 ((false, 0) :: (false, 1) :: (false, 2) :: (false, 3) :: (false, 4) :: (false, 5) :: (false, 6) :: (false, 7) :: (false, 8) :: (false, 9) :: (false, 10) :: (false, 11) :: (false, 12) :: (false, 13) :: (false, 14) :: (false, 15) :: (false, 16) :: (false, 17) :: (false, 18) :: (false, 19) :: (false, 20) :: (false, 21) :: (false, 22) :: (false, 23) :: (false, 24) :: (false, 25) :: (false, 26) :: (false, 27) :: (false, 28) :: (false, 29) :: (false, 30) :: (false, 31) :: (false, 32) :: (false, 34) :: (false, 35) :: (false, 36) :: (true, 33) :: (false, 37) :: (true, 38) :: (false, 39) :: (false, 40) :: (false, 41) :: (false, 42) :: (false, 43) :: (false, 44) :: (false, 45) :: (false, 46) :: (false, 47) :: (false, 48) :: (false, 49) :: (false, 50) :: (false, 51) :: (false, 52) :: (false, 53) :: (false, 54) :: (false, 55) :: (false, 56) :: (false, 57) :: (false, 58) :: (false, 59) :: (false, 60) :: []) (by kernel_rfl) (by kernel_rfl) (by intro d _ _ _ _ h; cases d <;> exact h) ?_
    repeat (refine mix_quiet rfl ?_; go_big_quiet_step (fail); refine wpQuiet_nil ?_)
    refine mix_loud rfl ?_
    go_wp2_with fail
    refine ⟨inEx X0, ?_⟩
    repeat (refine mix_quiet rfl ?_; go_big_quiet_step (fail); refine wpQuiet_nil ?_)
    refine mix_loud rfl ?_
    go_wp2_with fail
    refine ⟨inEx X0, ?_⟩
    repeat (refine mix_quiet rfl ?_; go_big_quiet_step (fail); refine wpQuiet_nil ?_)
    refine mix_nil (r := [_]) rfl ?_
    clear a0 a1 a2 a3 l0 z1 lpc
    generalize W.drew = W9 at *
    have hb9 := ex_trans hbl X0
    have q09 := q0.below X0 q0.lt
    have qc9 := VArr.below qc X0
    have qn9 := VArr.below qn X0
    have qn8 : TabAt W9 pn (nxtI t k a (b + 1)) := qn9.ext fun i hi => by rw [nxt_step, if_neg (fun h => by rw [HNO.out] at h; cases h.2)]
    clear qn9 q0 qc qn
    go_wp2_with fail
    refine ⟨⟨⟨b + 1, by omega, ⟨hb9, q09, qc9, qn8⟩, exFrame (by kernel_rfl)⟩⟩, ?_⟩
    show 729 - (intOf (.int .i64 ((b : Int) + 1))).toNat < 729 - (intOf (.int .i64 (b : Int))).toNat
    simp [intOf]
    omega
  rw [hca] at z1
  have HCA := Lib.hid hca
  clear hca
  by_cases hl0 : U ≤ X
  rotate_left
  · have dl : decide ((U : Int) ≤ (X : Int)) = false := decide_eq_false (by omega)
    have HNO : Hid ((canI t k a && stB t a b) = false) := Lib.hid (by rw [HST.out, decide_eq_false hl0]; simp)
    refine wp_region_ext_mix 61 ((false, 0) :: (false, 1) :: (false, 2) :: (false, 3) :: (false, 4) :: (false, 5) :: (false, 6) :: (false, 7) :: (false, 8) :: (false, 9) :: (false, 10) :: (false, 11) :: (false, 12) :: (false, 13) :: (false, 14) :: (false, 15) :: (false, 16) :: (false, 17) :: (false, 18) :: (false, 19) :: (false, 20) :: (false, 21) :: (false, 22) :: (false, 23) :: (false, 24) :: (false, 25) :: (false, 26) :: (false, 27) :: (false, 28) :: (false, 29) :: (false, 30) :: (false, 31) :: (false, 32) :: (false, 34) :: (false, 35) :: (false, 36) :: (true, 33) :: (false, 37) :: (true, 38) :: (false, 39) :: (false, 40) :: (false, 41) :: (false, 42) :: (false, 43) :: (false, 44) :: (false, 45) :: (false, 46) :: (false, 47) :: (false, 48) :: (false, 49) :: (false, 50) :: (false, 51) :: (false, 52) :: (false, 53) :: (false, 54) :: (false, 55) :: (false, 56) :: (false, 57) :: (false, 58) :: (false, 59) :: (false, 60) :: []) (by kernel_rfl) (by kernel_rfl) (by intro d _ _ _ _ h; cases d <;> exact h) ?_
    repeat (refine mix_quiet rfl ?_; go_big_quiet_step (fail); refine wpQuiet_nil ?_)
    refine mix_loud rfl ?_
    go_wp2_with fail
    refine ⟨inEx X0, ?_⟩
    repeat (refine mix_quiet rfl ?_; go_big_quiet_step (fail); refine wpQuiet_nil ?_)
    refine mix_loud rfl ?_
    go_wp2_with fail
    refine ⟨inEx X0, ?_⟩
    repeat (refine mix_quiet rfl ?_; go_big_quiet_step (fail); refine wpQuiet_nil ?_)
    refine mix_nil (r := [_]) rfl ?_
    clear a0 a1 a2 a3 l0 z1 lpc
    generalize W.drew = W9 at *
    have hb9 := ex_trans hbl X0
    have q09 := q0.below X0 q0.lt
    have qc9 := VArr.below qc X0
    have qn9 := VArr.below qn X0
    have qn8 : TabAt W9 pn (nxtI t k a (b + 1)) := qn9.ext fun i hi => by rw [nxt_step, if_neg (fun h => by rw [HNO.out] at h; cases h.2)]
    clear qn9 q0 qc qn
    go_wp2_with fail
    refine ⟨⟨⟨b + 1, by omega, ⟨hb9, q09, qc9, qn8⟩, exFrame (by kernel_rfl)⟩⟩, ?_⟩
    show 729 - (intOf (.int .i64 ((b : Int) + 1))).toNat < 729 - (intOf (.int .i64 (b : Int))).toNat
    simp [intOf]
    omega
  have dl0 : decide ((U : Int) ≤ (X : Int)) = true := decide_eq_true (by omega)
  by_cases hl1 : V ≤ Y
  rotate_left
  · have dl : decide ((V : Int) ≤ (Y : Int)) = false := decide_eq_false (by omega)
    have HNO : Hid ((canI t k a && stB t a b) = false) := Lib.hid (by rw [HST.out, decide_eq_false hl1]; simp)
    refine wp_region_ext_mix 61 ((false, 0) :: (false, 1) :: (false, 2) :: (false, 3) :: (false, 4) :: (false, 5) :: (false, 6) :: (false, 7) :: (false, 8) :: (false, 9) :: (false, 10) :: (false, 11) :: (false, 12) :: (false, 13) :: (false, 14) :: (false, 15) :: (false, 16) :: (false, 17) :: (false, 18) :: (false, 19) :: (false, 20) :: (false, 21) :: (false, 22) :: (false, 23) :: (false, 24) :: (false, 25) :: (false, 26) :: (false, 27) :: (false, 28) :: (false, 29) :: (false, 30) :: (false, 31) :: (false, 32) :: (false, 34) :: (false, 35) :: (false, 36) :: (true, 33) :: (false, 37) :: (true, 38) :: (false, 39) :: (false, 40) :: (false, 41) :: (false, 42) :: (false, 43) :: (false, 44) :: (false, 45) :: (false, 46) :: (false, 47) :: (false, 48) :: (false, 49) :: (false, 50) :: (false, 51) :: (false, 52) :: (false, 53) :: (false, 54) :: (false, 55) :: (false, 56) :: (false, 57) :: (false, 58) :: (false, 59) :: (false, 60) :: []) (by kernel_rfl) (by kernel_rfl) (by intro d _ _ _ _ h; cases d <;> exact h) ?_
    repeat (refine mix_quiet rfl ?_; go_big_quiet_step (fail); refine wpQuiet_nil ?_)
    refine mix_loud rfl ?_
    go_wp2_with fail
    refine ⟨inEx X0, ?_⟩
    repeat (refine mix_quiet rfl ?_; go_big_quiet_step (fail); refine wpQuiet_nil ?_)
    refine mix_loud rfl ?_
    go_wp2_with fail
    refine ⟨inEx X0, ?_⟩
    repeat (refine mix_quiet rfl ?_; go_big_quiet_step (fail); refine wpQuiet_nil ?_)
    refine mix_nil (r := [_]) rfl ?_
    clear a0 a1 a2 a3 l0 z1 lpc
    generalize W.drew = W9 at *
    have hb9 := ex_trans hbl X0
    have q09 := q0.below X0 q0.lt
    have qc9 := VArr.below qc X0
    have qn9 := VArr.below qn X0
    have qn8 : TabAt W9 pn (nxtI t k a (b + 1)) := qn9.ext fun i hi => by rw [nxt_step, if_neg (fun h => by rw [HNO.out] at h; cases h.2)]
    clear qn9 q0 qc qn
    go_wp2_with fail
    refine ⟨⟨⟨b + 1, by omega, ⟨hb9, q09, qc9, qn8⟩, exFrame (by kernel_rfl)⟩⟩, ?_⟩
    show 729 - (intOf (.int .i64 ((b : Int) + 1))).toNat < 729 - (intOf (.int .i64 (b : Int))).toNat
    simp [intOf]
    omega
  have dl1 : decide ((V : Int) ≤ (Y : Int)) = true := decide_eq_true (by omega)
  by_cases hl2 : O ≤ Z
  rotate_left
  · have dl : decide ((O : Int) ≤ (Z : Int)) = false := decide_eq_false (by omega)
    have HNO : Hid ((canI t k a && stB t a b) = false) := Lib.hid (by rw [HST.out, decide_eq_false hl2]; simp)
    refine wp_region_ext_mix 61 ((false, 0) :: (false, 1) :: (false, 2) :: (false, 3) :: (false, 4) :: (false, 5) :: (false, 6) :: (false, 7) :: (false, 8) :: (false, 9) :: (false, 10) :: (false, 11) :: (false, 12) :: (false, 13) :: (false, 14) :: (false, 15) :: (false, 16) :: (false, 17) :: (false, 18) :: (false, 19) :: (false, 20) :: (false, 21) :: (false, 22) :: (false, 23) :: (false, 24) :: (false, 25) :: (false, 26) :: (false, 27) :: (false, 28) :: (false, 29) :: (false, 30) :: (false, 31) :: (false, 32) :: (false, 34) :: (false, 35) :: (false, 36) :: (true, 33) :: (false, 37) :: (true, 38) :: (false, 39) :: (false, 40) :: (false, 41) :: (false, 42) :: (false, 43) :: (false, 44) :: (false, 45) :: (false, 46) :: (false, 47) :: (false, 48) :: (false, 49) :: (false, 50) :: (false, 51) :: (false, 52) :: (false, 53) :: (false, 54) :: (false, 55) :: (false, 56) :: (false, 57) :: (false, 58) :: (false, 59) :: (false, 60) :: []) (by kernel_rfl) (by kernel_rfl) (by intro d _ _ _ _ h; cases d <;> exact h) ?_
    repeat (refine mix_quiet rfl ?_; go_big_quiet_step (fail); refine wpQuiet_nil ?_)
    refine mix_loud rfl ?_
    go_wp2_with fail
    refine ⟨inEx X0, ?_⟩
    repeat (refine mix_quiet rfl ?_; go_big_quiet_step (fail); refine wpQuiet_nil ?_)
    refine mix_loud rfl ?_
    go_wp2_with fail
    refine ⟨inEx X0, ?_⟩
    repeat (refine mix_quiet rfl ?_; go_big_quiet_step (fail); refine wpQuiet_nil ?_)
    refine mix_nil (r := [_]) rfl ?_
    clear a0 a1 a2 a3 l0 z1 lpc
    generalize W.drew = W9 at *
    have hb9 := ex_trans hbl X0
    have q09 := q0.below X0 q0.lt
    have qc9 := VArr.below qc X0
    have qn9 := VArr.below qn X0
    have qn8 : TabAt W9 pn (nxtI t k a (b + 1)) := qn9.ext fun i hi => by rw [nxt_step, if_neg (fun h => by rw [HNO.out] at h; cases h.2)]
    clear qn9 q0 qc qn
    go_wp2_with fail
    refine ⟨⟨⟨b + 1, by omega, ⟨hb9, q09, qc9, qn8⟩, exFrame (by kernel_rfl)⟩⟩, ?_⟩
    show 729 - (intOf (.int .i64 ((b : Int) + 1))).toNat < 729 - (intOf (.int .i64 (b : Int))).toNat
    simp [intOf]
    omega
  have dl2 : decide ((O : Int) ≤ (Z : Int)) = true := decide_eq_true (by omega)
  have w0 : IntKind.i64.wrap ((X : Int) - (U : Int)) = (X : Int) - (U : Int) := IntWalk.i64_in _ (by omega)
  have w1 : IntKind.i64.wrap ((Y : Int) - (V : Int)) = (Y : Int) - (V : Int) := IntWalk.i64_in _ (by omega)
  have w2 : IntKind.i64.wrap ((Z : Int) - (O : Int)) = (Z : Int) - (O : Int) := IntWalk.i64_in _ (by omega)
  have hln : ¬ (t.rates.length : Int) < 0 := by omega
  have hln3 : (t.rates.length : Int) ≤ 3 := by omega
  have hln4 : t.rates.length ≤ 3 := hn3.2
  refine wp_region_ext_mix 61 ((false, 0) :: (false, 1) :: (false, 2) :: (false, 3) :: (false, 4) :: (false, 5) :: (false, 6) :: (false, 7) :: (false, 8) :: (false, 9) :: (false, 10) :: (false, 11) :: (false, 12) :: (false, 13) :: (false, 14) :: (false, 15) :: (false, 16) :: (false, 17) :: (false, 18) :: (false, 19) :: (false, 20) :: (false, 21) :: (false, 22) :: (false, 23) :: (false, 24) :: (false, 25) :: (false, 26) :: (false, 27) :: (false, 28) :: (false, 29) :: (false, 30) :: (false, 31) :: (false, 32) :: (false, 34) :: (false, 35) :: (false, 36) :: (true, 33) :: (false, 37) :: (true, 38) :: (false, 39) :: (false, 40) :: (false, 41) :: (false, 42) :: (false, 43) :: (false, 44) :: (false, 45) :: (false, 46) :: (false, 47) :: (false, 48) :: (false, 49) :: (false, 50) :: (false, 51) :: (false, 52) :: (false, 53) :: (false, 54) :: (false, 55) :: (false, 56) :: (false, 57) :: (false, 58) :: (false, 59) :: (false, 60) :: []) (by kernel_rfl) (by kernel_rfl) (by intro d _ _ _ _ h; cases d <;> exact h) ?_
  repeat (refine mix_quiet rfl ?_; go_big_quiet_step (fail); refine wpQuiet_nil ?_)
  refine mix_loud rfl ?_
  go_wp2_with fail
  have X1 := ex_alloc X0 (.cells #[.int .i64 ((X : Int) - (U : Int)), .int .i64 ((Y : Int) - (V : Int)), .int .i64 ((Z : Int) - (O : Int))] 3)
  have qd : Blk (W.drew.alloc (.cells #[.int .i64 ((X : Int) - (U : Int)), .int .i64 ((Y : Int) - (V : Int)), .int .i64 ((Z : Int) - (O : Int))] 3)) W.heap.size 3 #[.int .i64 ((X : Int) - (U : Int)), .int .i64 ((Y : Int) - (V : Int)), .int .i64 ((Z : Int) - (O : Int))] := Blk.new _ _ _
  refine ⟨inEx X1, ?_⟩
  repeat (refine mix_quiet rfl ?_; go_big_quiet_step (fail); refine wpQuiet_nil ?_)
  obtain ⟨px, hpx⟩ : ∃ p, W.heap.size = p := ⟨_, rfl⟩
  have qd2 := qd.below (Below.refl _ _).drew qd.lt
  have X2 := X1
  rw [hpx] at qd ⊢
  clear hpx
  have hWa : (W.alloc (.cells #[.int .i64 ((X : Int) - (U : Int)), .int .i64 ((Y : Int) - (V : Int)), .int .i64 ((Z : Int) - (O : Int))] 3)).drew = W.drew.alloc (.cells #[.int .i64 ((X : Int) - (U : Int)), .int .i64 ((Y : Int) - (V : Int)), .int .i64 ((Z : Int) - (O : Int))] 3) := rfl
  rw [hWa]
  generalize W.drew.alloc (.cells #[.int .i64 ((X : Int) - (U : Int)), .int .i64 ((Y : Int) - (V : Int)), .int .i64 ((Z : Int) - (O : Int))] 3) = V1 at *
  clear hWa
  have hsl : SlAt V1 V1.heap.size 1 (some ⟨px, 0, none⟩) (dI t.rates.length a b).length (fI (dI t.rates.length a b)) := fun _ => ⟨px, 0, rfl, qd.lt, fun i j hi hj => by
    rw [HDL.out] at hi
    obtain rfl : j = 0 := by omega
    rw [show 0 + (i * 1 + 0) = i by omega]
    have hg := HDI.out i hi
    show V1.cell? ⟨px, i, none⟩ = some (.int .i64 (gI (dI t.rates.length a b) i))
    rw [hg]
    have hi3 : i < 3 := by omega
    match i, hi3 with
    | 0, _ => exact qd.cell 0
    | 1, _ => exact qd.cell 1
    | 2, _ => exact qd.cell 2⟩
  have hmay := May_ref t Ar Ah cr ch V1 (HTM.out.go (ex_trans hbl X2)) HT.out (dI t.rates.length a b) (some ⟨px, 0, none⟩) 3 hsl (by rw [HDL.out]; omega)
  rw [HDL.out] at hmay
  refine mix_loud rfl ?_
  go_wp2_with fail
  refine hmay.mono ?_
  rintro e V2 ⟨rfl, h2⟩
  have X3 := ex_trans X2 h2
  have q02 := q0.below X3 q0.lt
  clear hmay hsl qd
  cases hrw : rowR t (dI t.rates.length a b)
  · have HRW := Lib.hid hrw
    clear hrw
    go_wp2_with fail
    refine ⟨inEx X3, ?_⟩
    repeat (refine mix_quiet rfl ?_; go_big_quiet_step (fail); refine wpQuiet_nil ?_)
    refine mix_nil (r := [_]) rfl ?_
    clear a0 a1 a2 a3 l0 q02 z1 lpc
    have HNO : Hid ((canI t k a && stB t a b) = false) := Lib.hid (by rw [HST.out]; rw [HRW.out]; simp)
    have hb9 := ex_trans hbl X3
    have q09 := q0.below X3 q0.lt
    have qc9 := VArr.below qc X3
    have qn9 := VArr.below qn X3
    have qn8 : TabAt V2 pn (nxtI t k a (b + 1)) := qn9.ext fun i hi => by rw [nxt_step, if_neg (fun h => by rw [HNO.out] at h; cases h.2)]
    clear qn9 q0 qc qn
    go_wp2_with fail
    refine ⟨⟨⟨b + 1, by omega, ⟨hb9, q09, qc9, qn8⟩, exFrame (by kernel_rfl)⟩⟩, ?_⟩
    show 729 - (intOf (.int .i64 ((b : Int) + 1))).toNat < 729 - (intOf (.int .i64 (b : Int))).toNat
    simp [intOf]
    omega
  have HRW := Lib.hid hrw
  clear hrw
  by_cases hg_a : 2 < t.rates.length
  · have gd_a : decide ((2 : Int) < (t.rates.length : Int)) = true := decide_eq_true (by omega)
    have f_a : (decide (2 < t.rates.length) || decide (Z = O)) = true := by rw [decide_eq_true hg_a]; rfl
    have H_A := Lib.hid f_a
    clear f_a
    have hg_b : 1 < t.rates.length := by omega
    have gd_b : decide ((1 : Int) < (t.rates.length : Int)) = true := decide_eq_true (by omega)
    have f_b : (decide (1 < t.rates.length) || decide (Y = V)) = true := by rw [decide_eq_true hg_b]; rfl
    have H_B := Lib.hid f_b
    clear f_b
    go_wp2_with fail
    refine ⟨inEx X3, ?_⟩
    repeat (refine mix_quiet rfl ?_; go_big_quiet_step (fail); refine wpQuiet_nil ?_)
    refine mix_nil (r := [_]) rfl ?_
    clear a0 a1 a2 a3 l0 q02 z1 lpc
    have HYES : Hid (∀ i, (if i = b ∧ (canI t k a && stB t a b) = true then true else nxtI t k a b i) = if i = b then true else nxtI t k a b i) := Lib.hid (fun i => by
      have h : (canI t k a && stB t a b) = true := by rw [HCA.out, HST.out]; rw [decide_eq_true hl0, decide_eq_true hl1, decide_eq_true hl2, HRW.out]; rw [H_A.out, H_B.out]; rfl
      rw [h]
      simp)
    have hb9 := ex_trans hbl X3
    have q09 := q0.below X3 q0.lt
    have qc9 := VArr.below qc X3
    have qn9 := VArr.below qn X3
    have qp := TabAt.put qn9 hlb
    have qn8 : TabAt (V2.setCell ⟨pn, b, none⟩ (.bool true)) pn (nxtI t k a (b + 1)) := qp.ext fun i hi => by
      rw [nxt_step, HYES.out]
    have z8 : V2.cell? ⟨pn, U * 81 + V * 9 + O, none⟩ = some (.bool (nxtI t k a b b)) := by rw [HIB.out]; exact qn9.cell hlb
    have f8 : V2.frozen? ⟨pn, U * 81 + V * 9 + O, none⟩ = false := qn9.frozen _
    have lpn := qn9.lt
    have q08 := q09.far (p := ⟨pn, b, none⟩) (by show w.heap.size ≠ pn; omega) (.bool true)
    have qc8 := VArr.fr qc9 (Fr.set (R := fun x => x = pn) V2 pn b (.bool true) rfl) (by show ¬ w.heap.size + 1 = pn; omega)
    have hb8 := ex_set hb9 (p := ⟨pn, b, none⟩) (by show w.heap.size ≤ pn; omega) (.bool true)
    rw [← HIB.out] at qn8 q08 qc8 hb8
    clear qn9 q09 qc9 hb9 qp q0 qc qn
    go_wp2_with fail
    rw [HIB.out] at qn8 q08 qc8 hb8 ⊢
    refine ⟨⟨⟨b + 1, by omega, ⟨hb8, q08, qc8, qn8⟩, exFrame (by kernel_rfl)⟩⟩, ?_⟩
    show 729 - (intOf (.int .i64 ((b : Int) + 1))).toNat < 729 - (intOf (.int .i64 (b : Int))).toNat
    simp [intOf]
    omega
  have gd_a : decide ((2 : Int) < (t.rates.length : Int)) = false := decide_eq_false (by omega)
  by_cases hq_a : Z = O
  · have gq_a : ((Z : Int) == (O : Int)) = true := by rw [beq_iff_eq]; omega
    have HQ_a := Lib.hid hq_a
    clear hq_a
    have f_a : (decide (2 < t.rates.length) || decide (Z = O)) = true := by rw [decide_eq_true HQ_a.out, Bool.or_true]
    have H_A := Lib.hid f_a
    clear f_a
    by_cases hg_b : 1 < t.rates.length
    · have gd_b : decide ((1 : Int) < (t.rates.length : Int)) = true := decide_eq_true (by omega)
      have f_b : (decide (1 < t.rates.length) || decide (Y = V)) = true := by rw [decide_eq_true hg_b]; rfl
      have H_B := Lib.hid f_b
      clear f_b
      go_wp2_with fail
      refine ⟨inEx X3, ?_⟩
      repeat (refine mix_quiet rfl ?_; go_big_quiet_step (fail); refine wpQuiet_nil ?_)
      refine mix_nil (r := [_]) rfl ?_
      clear a0 a1 a2 a3 l0 q02 z1 lpc
      have HYES : Hid (∀ i, (if i = b ∧ (canI t k a && stB t a b) = true then true else nxtI t k a b i) = if i = b then true else nxtI t k a b i) := Lib.hid (fun i => by
        have h : (canI t k a && stB t a b) = true := by rw [HCA.out, HST.out]; rw [decide_eq_true hl0, decide_eq_true hl1, decide_eq_true hl2, HRW.out]; rw [H_A.out, H_B.out]; rfl
        rw [h]
        simp)
      have hb9 := ex_trans hbl X3
      have q09 := q0.below X3 q0.lt
      have qc9 := VArr.below qc X3
      have qn9 := VArr.below qn X3
      have qp := TabAt.put qn9 hlb
      have qn8 : TabAt (V2.setCell ⟨pn, b, none⟩ (.bool true)) pn (nxtI t k a (b + 1)) := qp.ext fun i hi => by
        rw [nxt_step, HYES.out]
      have z8 : V2.cell? ⟨pn, U * 81 + V * 9 + O, none⟩ = some (.bool (nxtI t k a b b)) := by rw [HIB.out]; exact qn9.cell hlb
      have f8 : V2.frozen? ⟨pn, U * 81 + V * 9 + O, none⟩ = false := qn9.frozen _
      have lpn := qn9.lt
      have q08 := q09.far (p := ⟨pn, b, none⟩) (by show w.heap.size ≠ pn; omega) (.bool true)
      have qc8 := VArr.fr qc9 (Fr.set (R := fun x => x = pn) V2 pn b (.bool true) rfl) (by show ¬ w.heap.size + 1 = pn; omega)
      have hb8 := ex_set hb9 (p := ⟨pn, b, none⟩) (by show w.heap.size ≤ pn; omega) (.bool true)
      rw [← HIB.out] at qn8 q08 qc8 hb8
      clear qn9 q09 qc9 hb9 qp q0 qc qn
      go_wp2_with fail
      rw [HIB.out] at qn8 q08 qc8 hb8 ⊢
      refine ⟨⟨⟨b + 1, by omega, ⟨hb8, q08, qc8, qn8⟩, exFrame (by kernel_rfl)⟩⟩, ?_⟩
      show 729 - (intOf (.int .i64 ((b : Int) + 1))).toNat < 729 - (intOf (.int .i64 (b : Int))).toNat
      simp [intOf]
      omega
    have gd_b : decide ((1 : Int) < (t.rates.length : Int)) = false := decide_eq_false (by omega)
    by_cases hq_b : Y = V
    · have gq_b : ((Y : Int) == (V : Int)) = true := by rw [beq_iff_eq]; omega
      have HQ_b := Lib.hid hq_b
      clear hq_b
      have f_b : (decide (1 < t.rates.length) || decide (Y = V)) = true := by rw [decide_eq_true HQ_b.out, Bool.or_true]
      have H_B := Lib.hid f_b
      clear f_b
      go_wp2_with fail
      refine ⟨inEx X3, ?_⟩
      repeat (refine mix_quiet rfl ?_; go_big_quiet_step (fail); refine wpQuiet_nil ?_)
      refine mix_nil (r := [_]) rfl ?_
      clear a0 a1 a2 a3 l0 q02 z1 lpc
      have HYES : Hid (∀ i, (if i = b ∧ (canI t k a && stB t a b) = true then true else nxtI t k a b i) = if i = b then true else nxtI t k a b i) := Lib.hid (fun i => by
        have h : (canI t k a && stB t a b) = true := by rw [HCA.out, HST.out]; rw [decide_eq_true hl0, decide_eq_true hl1, decide_eq_true hl2, HRW.out]; rw [H_A.out, H_B.out]; rfl
        rw [h]
        simp)
      have hb9 := ex_trans hbl X3
      have q09 := q0.below X3 q0.lt
      have qc9 := VArr.below qc X3
      have qn9 := VArr.below qn X3
      have qp := TabAt.put qn9 hlb
      have qn8 : TabAt (V2.setCell ⟨pn, b, none⟩ (.bool true)) pn (nxtI t k a (b + 1)) := qp.ext fun i hi => by
        rw [nxt_step, HYES.out]
      have z8 : V2.cell? ⟨pn, U * 81 + V * 9 + O, none⟩ = some (.bool (nxtI t k a b b)) := by rw [HIB.out]; exact qn9.cell hlb
      have f8 : V2.frozen? ⟨pn, U * 81 + V * 9 + O, none⟩ = false := qn9.frozen _
      have lpn := qn9.lt
      have q08 := q09.far (p := ⟨pn, b, none⟩) (by show w.heap.size ≠ pn; omega) (.bool true)
      have qc8 := VArr.fr qc9 (Fr.set (R := fun x => x = pn) V2 pn b (.bool true) rfl) (by show ¬ w.heap.size + 1 = pn; omega)
      have hb8 := ex_set hb9 (p := ⟨pn, b, none⟩) (by show w.heap.size ≤ pn; omega) (.bool true)
      rw [← HIB.out] at qn8 q08 qc8 hb8
      clear qn9 q09 qc9 hb9 qp q0 qc qn
      go_wp2_with fail
      rw [HIB.out] at qn8 q08 qc8 hb8 ⊢
      refine ⟨⟨⟨b + 1, by omega, ⟨hb8, q08, qc8, qn8⟩, exFrame (by kernel_rfl)⟩⟩, ?_⟩
      show 729 - (intOf (.int .i64 ((b : Int) + 1))).toNat < 729 - (intOf (.int .i64 (b : Int))).toNat
      simp [intOf]
      omega
    · have gq_b : ((Y : Int) == (V : Int)) = false := by rw [beq_eq_false_iff_ne]; omega
      have HQ_b := Lib.hid hq_b
      clear hq_b
      go_wp2_with fail
      refine ⟨inEx X3, ?_⟩
      repeat (refine mix_quiet rfl ?_; go_big_quiet_step (fail); refine wpQuiet_nil ?_)
      refine mix_nil (r := [_]) rfl ?_
      clear a0 a1 a2 a3 l0 q02 z1 lpc
      have HNO : Hid ((canI t k a && stB t a b) = false) := Lib.hid (by rw [HST.out]; rw [decide_eq_false hg_b, decide_eq_false HQ_b.out]; simp)
      have hb9 := ex_trans hbl X3
      have q09 := q0.below X3 q0.lt
      have qc9 := VArr.below qc X3
      have qn9 := VArr.below qn X3
      have qn8 : TabAt V2 pn (nxtI t k a (b + 1)) := qn9.ext fun i hi => by rw [nxt_step, if_neg (fun h => by rw [HNO.out] at h; cases h.2)]
      clear qn9 q0 qc qn
      go_wp2_with fail
      refine ⟨⟨⟨b + 1, by omega, ⟨hb9, q09, qc9, qn8⟩, exFrame (by kernel_rfl)⟩⟩, ?_⟩
      show 729 - (intOf (.int .i64 ((b : Int) + 1))).toNat < 729 - (intOf (.int .i64 (b : Int))).toNat
      simp [intOf]
      omega
  · have gq_a : ((Z : Int) == (O : Int)) = false := by rw [beq_eq_false_iff_ne]; omega
    have HQ_a := Lib.hid hq_a
    clear hq_a
    go_wp2_with fail
    refine ⟨inEx X3, ?_⟩
    repeat (refine mix_quiet rfl ?_; go_big_quiet_step (fail); refine wpQuiet_nil ?_)
    refine mix_nil (r := [_]) rfl ?_
    clear a0 a1 a2 a3 l0 q02 z1 lpc
    have HNO : Hid ((canI t k a && stB t a b) = false) := Lib.hid (by rw [HST.out]; rw [decide_eq_false hg_a, decide_eq_false HQ_a.out]; simp)
    have hb9 := ex_trans hbl X3
    have q09 := q0.below X3 q0.lt
    have qc9 := VArr.below qc X3
    have qn9 := VArr.below qn X3
    have qn8 : TabAt V2 pn (nxtI t k a (b + 1)) := qn9.ext fun i hi => by rw [nxt_step, if_neg (fun h => by rw [HNO.out] at h; cases h.2)]
    clear qn9 q0 qc qn
    go_wp2_with fail
    refine ⟨⟨⟨b + 1, by omega, ⟨hb9, q09, qc9, qn8⟩, exFrame (by kernel_rfl)⟩⟩, ?_⟩
    show 729 - (intOf (.int .i64 ((b : Int) + 1))).toNat < 729 - (intOf (.int .i64 (b : Int))).toNat
    simp [intOf]
    omega
end Go.Proofs.Ythihdiilokdidaa
end

section
namespace Go.Proofs.Ythihdiilokdidaa
open Go.RowKit
attribute [local go_sem] Ex.cell? Ex.frozen?

theorem prove_many {t : Tm} {L : List (List Int)} {many : Int} : proveR t L many = (proveR t L (L.length : Int) && decide ((L.length : Int) ≤ many)) := by
  rw [Bool.eq_iff_iff, Bool.and_eq_true, proveR_iff, proveR_iff, decide_eq_true_eq]
  exact ⟨fun h => ⟨⟨h.ok, Int.le_refl _, h.six, h.row, h.sum⟩, h.le⟩, fun ⟨h, h2⟩ => ⟨h.ok, h2, h.six, h.row, h.sum⟩⟩
theorem prove_ck {t : Tm} {L : List (List Int)} {many : Int} (h : ckTm t ≠ 0) : proveR t L many = false := prove_no fun hr => h (ckTm_iff.2 hr.ok)
set_option maxRecDepth 100000 in
set_option maxHeartbeats 6400000 in
theorem RostersLaw_any (t : Tm) (Ar Ah : Option Addr) (cr ch : Nat) (w : World) (htm : TmIn w w.heap.size t Ar Ah) (L : List (List Int)) (AR : Option Addr) (cR : Nat) (rR : Nat → Option Addr) (rcR : Nat → Nat) (hL : LisIn w w.heap.size AR L rR rcR) (m2 : Int) :
    Calls Try.prog 4 #[.agg #[.slice Ar t.rates.length cr, .slice Ah t.hours.length ch, .int .i64 t.limit, .int .i64 t.most], .slice AR L.length cR, .int .i64 m2] w fun e w' => e = .returned (.bool true) ∧ Below w.heap.size w w' := by
  have hb1 := ex_alloc (Below.refl w.heap.size w) (.cells #[.slice Ar t.rates.length cr, .slice Ah t.hours.length ch, .int .i64 t.limit, .int .i64 t.most] 55)
  have q0 : Blk (w.alloc (.cells #[.slice Ar t.rates.length cr, .slice Ah t.hours.length ch, .int .i64 t.limit, .int .i64 t.most] 55)) w.heap.size 55 #[.slice Ar t.rates.length cr, .slice Ah t.hours.length ch, .int .i64 t.limit, .int .i64 t.most] := Blk.new _ _ _
  replace htm := htm.go hb1
  replace hL := hL.go hb1
  go_enter Try.func4, Try.ntmps4
  go_upto_region 1 with fail
  obtain ⟨pq0, hpq0⟩ : ∃ p, w.heap.size = p := ⟨_, rfl⟩
  rw [hpq0] at q0 ⊢
  clear hpq0
  generalize w.alloc (.cells #[.slice Ar t.rates.length cr, .slice Ah t.hours.length ch, .int .i64 t.limit, .int .i64 t.most] 55) = V at *
  have a0 : V.cell? ⟨pq0, 0, none⟩ = some (.slice Ar t.rates.length cr) := q0.cell 0
  have a1 : V.cell? ⟨pq0, 1, none⟩ = some (.slice Ah t.hours.length ch) := q0.cell 1
  have a2 : V.cell? ⟨pq0, 2, none⟩ = some (.int .i64 t.limit) := q0.cell 2
  have a3 : V.cell? ⟨pq0, 3, none⟩ = some (.int .i64 t.most) := q0.cell 3
  have la := q0.lt
  by_cases g6 : 6 < t.rates.length
  · have g6' : (6 : Int) < (t.rates.length : Int) := by omega
    go_wp2_with fail
    refine (awake_any V).mono ?_
    rintro e Wz ⟨rfl, hz⟩
    go_wp2
    go_ret
    exact ⟨rfl, ex_trans hb1 hz⟩
  have g6' : ¬ (6 : Int) < (t.rates.length : Int) := by omega
  by_cases g9 : 9 < t.hours.length
  · have g9' : (9 : Int) < (t.hours.length : Int) := by omega
    go_wp2_with fail
    refine (awake_any V).mono ?_
    rintro e Wz ⟨rfl, hz⟩
    go_wp2
    go_ret
    exact ⟨rfl, ex_trans hb1 hz⟩
  have g9' : ¬ (9 : Int) < (t.hours.length : Int) := by omega
  go_wp2_with fail
  refine (short_any AR cR L rR rcR V hL).mono ?_
  rintro e V2 ⟨rfl, hV2⟩
  replace htm := htm.go hV2
  replace hL := hL.go hV2
  replace q0 := q0.below hV2 q0.lt
  have B_V2 := ex_trans hb1 hV2
  clear a0 a1 a2 a3 la
  have a0 : V2.cell? ⟨pq0, 0, none⟩ = some (.slice Ar t.rates.length cr) := q0.cell 0
  have a1 : V2.cell? ⟨pq0, 1, none⟩ = some (.slice Ah t.hours.length ch) := q0.cell 1
  have a2 : V2.cell? ⟨pq0, 2, none⟩ = some (.int .i64 t.limit) := q0.cell 2
  have a3 : V2.cell? ⟨pq0, 3, none⟩ = some (.int .i64 t.most) := q0.cell 3
  have la := q0.lt
  cases hsh : shortB L
  · clear hsh
    go_wp2_with fail
    refine (awake_any V2).mono ?_
    rintro e Wz ⟨rfl, hz⟩
    go_wp2
    go_ret
    exact ⟨rfl, ex_trans B_V2 hz⟩
  have HSH := Lib.hid (shortB_iff.1 hsh)
  clear hsh
  have HSM : Hid (t.rates.length ≤ 1000 ∧ t.hours.length ≤ 1000) := Lib.hid (by omega)
  have HSL : Hid (L.length ≤ 1000 ∧ ∀ k, k < L.length → (gL L k).length ≤ 1000) := Lib.hid ⟨by have := HSH.out.1; omega, fun k hk => by have := HSH.out.2 k hk; omega⟩
  go_wp2_with fail
  refine (Team_any t Ar Ah cr ch V2 htm HSM.out).mono ?_
  rintro e V3 ⟨⟨⟨Ar1, Ah1, cr1, ch1, rfl, ht1⟩⟩, hV3⟩
  replace htm := htm.go hV3
  replace hL := hL.go hV3
  replace q0 := q0.below hV3 q0.lt
  have B_V3 := ex_trans B_V2 hV3
  clear a0 a1 a2 a3 la
  have a0 : V3.cell? ⟨pq0, 0, none⟩ = some (.slice Ar t.rates.length cr) := q0.cell 0
  have a1 : V3.cell? ⟨pq0, 1, none⟩ = some (.slice Ah t.hours.length ch) := q0.cell 1
  have a2 : V3.cell? ⟨pq0, 2, none⟩ = some (.int .i64 t.limit) := q0.cell 2
  have a3 : V3.cell? ⟨pq0, 3, none⟩ = some (.int .i64 t.most) := q0.cell 3
  have la := q0.lt
  go_wp2_with fail
  refine (checkTm_any t Ar1 Ah1 cr1 ch1 V3 ht1 HSM.out).mono ?_
  rintro e V4 ⟨rfl, hV4⟩
  replace htm := htm.go hV4
  replace hL := hL.go hV4
  replace q0 := q0.below hV4 q0.lt
  replace ht1 := ht1.go hV4
  have B_V4 := ex_trans B_V3 hV4
  clear ht1
  clear a0 a1 a2 a3 la
  have a0 : V4.cell? ⟨pq0, 0, none⟩ = some (.slice Ar t.rates.length cr) := q0.cell 0
  have a1 : V4.cell? ⟨pq0, 1, none⟩ = some (.slice Ah t.hours.length ch) := q0.cell 1
  have a2 : V4.cell? ⟨pq0, 2, none⟩ = some (.int .i64 t.limit) := q0.cell 2
  have a3 : V4.cell? ⟨pq0, 3, none⟩ = some (.int .i64 t.most) := q0.cell 3
  have la := q0.lt
  go_wp2_with fail
  refine (Team_any t Ar Ah cr ch V4 htm HSM.out).mono ?_
  rintro e V5 ⟨⟨⟨Ar2, Ah2, cr2, ch2, rfl, ht2⟩⟩, hV5⟩
  replace htm := htm.go hV5
  replace hL := hL.go hV5
  replace q0 := q0.below hV5 q0.lt
  have B_V5 := ex_trans B_V4 hV5
  clear a0 a1 a2 a3 la
  have a0 : V5.cell? ⟨pq0, 0, none⟩ = some (.slice Ar t.rates.length cr) := q0.cell 0
  have a1 : V5.cell? ⟨pq0, 1, none⟩ = some (.slice Ah t.hours.length ch) := q0.cell 1
  have a2 : V5.cell? ⟨pq0, 2, none⟩ = some (.int .i64 t.limit) := q0.cell 2
  have a3 : V5.cell? ⟨pq0, 3, none⟩ = some (.int .i64 t.most) := q0.cell 3
  have la := q0.lt
  go_wp2_with fail
  refine (Roster_any t Ar2 Ah2 cr2 ch2 V5 ht2 HSM.out).mono ?_
  rintro e V6 ⟨⟨⟨Ax, nx, cx, rfl, hyes, hno⟩⟩, hV6⟩
  replace htm := htm.go hV6
  replace hL := hL.go hV6
  replace q0 := q0.below hV6 q0.lt
  replace ht2 := ht2.go hV6
  have B_V6 := ex_trans B_V5 hV6
  clear ht2
  clear a0 a1 a2 a3 la
  have a0 : V6.cell? ⟨pq0, 0, none⟩ = some (.slice Ar t.rates.length cr) := q0.cell 0
  have a1 : V6.cell? ⟨pq0, 1, none⟩ = some (.slice Ah t.hours.length ch) := q0.cell 1
  have a2 : V6.cell? ⟨pq0, 2, none⟩ = some (.int .i64 t.limit) := q0.cell 2
  have a3 : V6.cell? ⟨pq0, 3, none⟩ = some (.int .i64 t.most) := q0.cell 3
  have la := q0.lt
  obtain ⟨ec, hec⟩ : ∃ x, roE t = x := ⟨_, rfl⟩
  rw [hec]
  have HEC := Lib.hid hec
  rw [hec] at hyes hno
  clear hec
  by_cases hck : ckTm t = 0
  rotate_left
  · have HCK := Lib.hid hck
    have he : ec = ckTm t := HEC.out.symm.trans (by unfold roE; rw [if_neg hck])
    subst he
    obtain ⟨rfl, rfl⟩ := hno hck
    have e0 : (ckTm t == 0) = false := by simp [hck]
    have e1 : (ckTm t != 0) = true := by simp [hck]
    clear hyes hno hck
    obtain ⟨cc, hcc⟩ : ∃ x, ckTm t = x := ⟨_, rfl⟩
    have HCC := Lib.hid hcc
    rw [hcc] at e0 e1 ⊢
    clear hcc
    go_wp2_with fail
    refine (Team_any t Ar Ah cr ch V6 htm HSM.out).mono ?_
    rintro e V7 ⟨⟨⟨Ar3, Ah3, cr3, ch3, rfl, ht3⟩⟩, hV7⟩
    replace htm := htm.go hV7
    replace hL := hL.go hV7
    replace q0 := q0.below hV7 q0.lt
    have B_V7 := ex_trans B_V6 hV7
    clear a0 a1 a2 a3 la
    have a0 : V7.cell? ⟨pq0, 0, none⟩ = some (.slice Ar t.rates.length cr) := q0.cell 0
    have a1 : V7.cell? ⟨pq0, 1, none⟩ = some (.slice Ah t.hours.length ch) := q0.cell 1
    have a2 : V7.cell? ⟨pq0, 2, none⟩ = some (.int .i64 t.limit) := q0.cell 2
    have a3 : V7.cell? ⟨pq0, 3, none⟩ = some (.int .i64 t.most) := q0.cell 3
    have la := q0.lt
    go_wp2_with fail
    refine (rows_any AR cR L rR rcR V7 HSL.out.1 HSL.out.2 hL).mono ?_
    rintro e V8 ⟨⟨AX3, cX3, X3, rfl, hio3, hix3⟩, hV8⟩
    replace htm := htm.go hV8
    replace hL := hL.go hV8
    replace q0 := q0.below hV8 q0.lt
    replace ht3 := ht3.go hV8
    have B_V8 := ex_trans B_V7 hV8
    obtain ⟨A9, c9, rX3, rcX3, e9, hlx3⟩ := IOwn.lis hio3 hix3
    injection e9 with e91 e90 e92
    subst e91 e92
    clear e90 hio3 hix3
    clear a0 a1 a2 a3 la
    have a0 : V8.cell? ⟨pq0, 0, none⟩ = some (.slice Ar t.rates.length cr) := q0.cell 0
    have a1 : V8.cell? ⟨pq0, 1, none⟩ = some (.slice Ah t.hours.length ch) := q0.cell 1
    have a2 : V8.cell? ⟨pq0, 2, none⟩ = some (.int .i64 t.limit) := q0.cell 2
    have a3 : V8.cell? ⟨pq0, 3, none⟩ = some (.int .i64 t.most) := q0.cell 3
    have la := q0.lt
    go_wp2_with fail
    refine (ProveR_any t Ar3 Ah3 cr3 ch3 V8 ht3 HSM.out L AX3 cX3 rX3 rcX3 hlx3 HSL.out m2).mono ?_
    rintro e V9 ⟨rfl, hV9⟩
    replace htm := htm.go hV9
    replace hL := hL.go hV9
    replace q0 := q0.below hV9 q0.lt
    replace ht3 := ht3.go hV9
    replace hlx3 := hlx3.go hV9
    have B_V9 := ex_trans B_V8 hV9
    clear ht3 hlx3
    clear a0 a1 a2 a3 la
    have a0 : V9.cell? ⟨pq0, 0, none⟩ = some (.slice Ar t.rates.length cr) := q0.cell 0
    have a1 : V9.cell? ⟨pq0, 1, none⟩ = some (.slice Ah t.hours.length ch) := q0.cell 1
    have a2 : V9.cell? ⟨pq0, 2, none⟩ = some (.int .i64 t.limit) := q0.cell 2
    have a3 : V9.cell? ⟨pq0, 3, none⟩ = some (.int .i64 t.most) := q0.cell 3
    have la := q0.lt
    go_wp2_with fail
    refine (TeamFault_ref t Ar Ah cr ch V9 htm).mono ?_
    rintro e V10 ⟨rfl, hV10⟩
    replace htm := htm.go hV10
    replace hL := hL.go hV10
    replace q0 := q0.below hV10 q0.lt
    have B_V10 := ex_trans B_V9 hV10
    clear a0 a1 a2 a3 la
    have a0 : V10.cell? ⟨pq0, 0, none⟩ = some (.slice Ar t.rates.length cr) := q0.cell 0
    have a1 : V10.cell? ⟨pq0, 1, none⟩ = some (.slice Ah t.hours.length ch) := q0.cell 1
    have a2 : V10.cell? ⟨pq0, 2, none⟩ = some (.int .i64 t.limit) := q0.cell 2
    have a3 : V10.cell? ⟨pq0, 3, none⟩ = some (.int .i64 t.most) := q0.cell 3
    have la := q0.lt
    rw [prove_ck HCK.out, HCC.out]
    go_wp2_with fail
    refine (awake_any V10).mono ?_
    rintro e Wz ⟨rfl, hz⟩
    go_wp2
    go_ret
    exact ⟨rfl, ex_trans B_V10 hz⟩
  have HT := Lib.hid (ckTm_iff.1 hck)
  have HCK := Lib.hid hck
  rw [hck]
  clear hck
  rcases roE_of HT.out with ⟨h6, hr⟩ | ⟨h6, hr⟩
  · have he : ec = 0 := HEC.out.symm.trans hr
    subst he
    obtain ⟨Ls, rAx, rcx, hn, hn2, hch, hmat⟩ := hyes rfl
    have HLs := Lib.hid hn
    have HN2 := Lib.hid hn2
    rw [HLs.out] at hmat
    have hlis := MatIn.lis HT.out.len.2.1 hmat
    have HCH := Lib.hid hch
    have hx6 : nx ≤ 6 := by omega
    have HFW : Hid (fewR t = (nx : Int)) := Lib.hid (by unfold fewR; rw [if_pos h6, hn2])
    clear hyes hno hn hn2 hch hmat hr h6
    go_wp2_with fail
    refine (Team_any t Ar Ah cr ch V6 htm HSM.out).mono ?_
    rintro e V11 ⟨⟨⟨Ar3, Ah3, cr3, ch3, rfl, ht3⟩⟩, hV11⟩
    replace htm := htm.go hV11
    replace hL := hL.go hV11
    replace q0 := q0.below hV11 q0.lt
    replace hlis := hlis.go hV11
    have B_V11 := ex_trans B_V6 hV11
    clear a0 a1 a2 a3 la
    have a0 : V11.cell? ⟨pq0, 0, none⟩ = some (.slice Ar t.rates.length cr) := q0.cell 0
    have a1 : V11.cell? ⟨pq0, 1, none⟩ = some (.slice Ah t.hours.length ch) := q0.cell 1
    have a2 : V11.cell? ⟨pq0, 2, none⟩ = some (.int .i64 t.limit) := q0.cell 2
    have a3 : V11.cell? ⟨pq0, 3, none⟩ = some (.int .i64 t.most) := q0.cell 3
    have la := q0.lt
    go_wp2_with fail
    refine (rows_any AR cR L rR rcR V11 HSL.out.1 HSL.out.2 hL).mono ?_
    rintro e V12 ⟨⟨AX3, cX3, X3, rfl, hio3, hix3⟩, hV12⟩
    replace htm := htm.go hV12
    replace hL := hL.go hV12
    replace q0 := q0.below hV12 q0.lt
    replace hlis := hlis.go hV12
    replace ht3 := ht3.go hV12
    have B_V12 := ex_trans B_V11 hV12
    obtain ⟨A9, c9, rX3, rcX3, e9, hlx3⟩ := IOwn.lis hio3 hix3
    injection e9 with e91 e90 e92
    subst e91 e92
    clear e90 hio3 hix3
    clear a0 a1 a2 a3 la
    have a0 : V12.cell? ⟨pq0, 0, none⟩ = some (.slice Ar t.rates.length cr) := q0.cell 0
    have a1 : V12.cell? ⟨pq0, 1, none⟩ = some (.slice Ah t.hours.length ch) := q0.cell 1
    have a2 : V12.cell? ⟨pq0, 2, none⟩ = some (.int .i64 t.limit) := q0.cell 2
    have a3 : V12.cell? ⟨pq0, 3, none⟩ = some (.int .i64 t.most) := q0.cell 3
    have la := q0.lt
    go_wp2_with fail
    refine (ProveR_any t Ar3 Ah3 cr3 ch3 V12 ht3 HSM.out L AX3 cX3 rX3 rcX3 hlx3 HSL.out m2).mono ?_
    rintro e V13 ⟨rfl, hV13⟩
    replace htm := htm.go hV13
    replace hL := hL.go hV13
    replace q0 := q0.below hV13 q0.lt
    replace hlis := hlis.go hV13
    replace ht3 := ht3.go hV13
    replace hlx3 := hlx3.go hV13
    have B_V13 := ex_trans B_V12 hV13
    clear ht3 hlx3
    clear a0 a1 a2 a3 la
    have a0 : V13.cell? ⟨pq0, 0, none⟩ = some (.slice Ar t.rates.length cr) := q0.cell 0
    have a1 : V13.cell? ⟨pq0, 1, none⟩ = some (.slice Ah t.hours.length ch) := q0.cell 1
    have a2 : V13.cell? ⟨pq0, 2, none⟩ = some (.int .i64 t.limit) := q0.cell 2
    have a3 : V13.cell? ⟨pq0, 3, none⟩ = some (.int .i64 t.most) := q0.cell 3
    have la := q0.lt
    go_wp2_with fail
    refine (TeamFault_ref t Ar Ah cr ch V13 htm).mono ?_
    rintro e V14 ⟨rfl, hV14⟩
    replace htm := htm.go hV14
    replace hL := hL.go hV14
    replace q0 := q0.below hV14 q0.lt
    replace hlis := hlis.go hV14
    have B_V14 := ex_trans B_V13 hV14
    clear a0 a1 a2 a3 la
    have a0 : V14.cell? ⟨pq0, 0, none⟩ = some (.slice Ar t.rates.length cr) := q0.cell 0
    have a1 : V14.cell? ⟨pq0, 1, none⟩ = some (.slice Ah t.hours.length ch) := q0.cell 1
    have a2 : V14.cell? ⟨pq0, 2, none⟩ = some (.int .i64 t.limit) := q0.cell 2
    have a3 : V14.cell? ⟨pq0, 3, none⟩ = some (.int .i64 t.most) := q0.cell 3
    have la := q0.lt
    rw [HCK.out, prove_many]
    go_wp2_with fail
    refine (IsRoster_ref t Ar Ah cr ch V14 htm HT.out L AR cR rR rcR hL HSL.out).mono ?_
    rintro e V15 ⟨rfl, hV15⟩
    replace htm := htm.go hV15
    replace hL := hL.go hV15
    replace q0 := q0.below hV15 q0.lt
    replace hlis := hlis.go hV15
    have B_V15 := ex_trans B_V14 hV15
    clear a0 a1 a2 a3 la
    have a0 : V15.cell? ⟨pq0, 0, none⟩ = some (.slice Ar t.rates.length cr) := q0.cell 0
    have a1 : V15.cell? ⟨pq0, 1, none⟩ = some (.slice Ah t.hours.length ch) := q0.cell 1
    have a2 : V15.cell? ⟨pq0, 2, none⟩ = some (.int .i64 t.limit) := q0.cell 2
    have a3 : V15.cell? ⟨pq0, 3, none⟩ = some (.int .i64 t.most) := q0.cell 3
    have la := q0.lt
    obtain ⟨pb, hpb⟩ : ∃ x, proveR t L (L.length : Int) = x := ⟨_, rfl⟩
    rw [hpb]
    clear hpb
    cases pb
    · rw [Bool.false_and]
      go_wp2_with fail
      refine (Fewest_ref t Ar Ah cr ch V15 htm HT.out).mono ?_
      rintro e V16 ⟨rfl, hV16⟩
      replace htm := htm.go hV16
      replace hL := hL.go hV16
      replace q0 := q0.below hV16 q0.lt
      replace hlis := hlis.go hV16
      have B_V16 := ex_trans B_V15 hV16
      clear a0 a1 a2 a3 la
      have a0 : V16.cell? ⟨pq0, 0, none⟩ = some (.slice Ar t.rates.length cr) := q0.cell 0
      have a1 : V16.cell? ⟨pq0, 1, none⟩ = some (.slice Ah t.hours.length ch) := q0.cell 1
      have a2 : V16.cell? ⟨pq0, 2, none⟩ = some (.int .i64 t.limit) := q0.cell 2
      have a3 : V16.cell? ⟨pq0, 3, none⟩ = some (.int .i64 t.most) := q0.cell 3
      have la := q0.lt
      rw [HFW.out]
      have hnn : ¬ (nx : Int) < 0 := by omega
      have e5 : ((nx : Int) == (nx : Int)) = true := by simp
      have hrl := rosL_len t Ls
      have HIR := IsRoster_ref t Ar Ah cr ch V16 htm HT.out (rosL t Ls) Ax cx rAx rcx hlis ⟨by rw [rosL_len, ← HLs.out]; omega, rosL_rows HT.out.len.2.1⟩
      rw [rosL_len, ← HLs.out, chain_prove HT.out HCH.out (by rw [← HLs.out]; exact hx6) (by rw [← HLs.out]; exact Int.le_refl _)] at HIR
      clear hrl
      go_wp2_with fail
      refine HIR.mono ?_
      rintro e V17 ⟨rfl, hV17⟩
      clear HIR
      replace htm := htm.go hV17
      replace hL := hL.go hV17
      replace q0 := q0.below hV17 q0.lt
      replace hlis := hlis.go hV17
      have B_V17 := ex_trans B_V16 hV17
      go_wp2_with fail
      refine (awake_any V17).mono ?_
      rintro e Wz ⟨rfl, hz⟩
      go_wp2
      go_ret
      exact ⟨rfl, ex_trans B_V17 hz⟩
    rw [Bool.true_and]
    by_cases hlm : (L.length : Int) ≤ m2
    · rw [decide_eq_true hlm]
      go_wp2_with fail
      refine (Fewest_ref t Ar Ah cr ch V15 htm HT.out).mono ?_
      rintro e V18 ⟨rfl, hV18⟩
      replace htm := htm.go hV18
      replace hL := hL.go hV18
      replace q0 := q0.below hV18 q0.lt
      replace hlis := hlis.go hV18
      have B_V18 := ex_trans B_V15 hV18
      clear a0 a1 a2 a3 la
      have a0 : V18.cell? ⟨pq0, 0, none⟩ = some (.slice Ar t.rates.length cr) := q0.cell 0
      have a1 : V18.cell? ⟨pq0, 1, none⟩ = some (.slice Ah t.hours.length ch) := q0.cell 1
      have a2 : V18.cell? ⟨pq0, 2, none⟩ = some (.int .i64 t.limit) := q0.cell 2
      have a3 : V18.cell? ⟨pq0, 3, none⟩ = some (.int .i64 t.most) := q0.cell 3
      have la := q0.lt
      rw [HFW.out]
      have hnn : ¬ (nx : Int) < 0 := by omega
      have e5 : ((nx : Int) == (nx : Int)) = true := by simp
      have hrl := rosL_len t Ls
      have HIR := IsRoster_ref t Ar Ah cr ch V18 htm HT.out (rosL t Ls) Ax cx rAx rcx hlis ⟨by rw [rosL_len, ← HLs.out]; omega, rosL_rows HT.out.len.2.1⟩
      rw [rosL_len, ← HLs.out, chain_prove HT.out HCH.out (by rw [← HLs.out]; exact hx6) (by rw [← HLs.out]; exact Int.le_refl _)] at HIR
      clear hrl
      go_wp2_with fail
      refine HIR.mono ?_
      rintro e V19 ⟨rfl, hV19⟩
      clear HIR
      replace htm := htm.go hV19
      replace hL := hL.go hV19
      replace q0 := q0.below hV19 q0.lt
      replace hlis := hlis.go hV19
      have B_V19 := ex_trans B_V18 hV19
      go_wp2_with fail
      refine (awake_any V19).mono ?_
      rintro e Wz ⟨rfl, hz⟩
      go_wp2
      go_ret
      exact ⟨rfl, ex_trans B_V19 hz⟩
    · rw [decide_eq_false hlm]
      have hlm2 : m2 < (L.length : Int) := by omega
      go_wp2_with fail
      refine (Fewest_ref t Ar Ah cr ch V15 htm HT.out).mono ?_
      rintro e V20 ⟨rfl, hV20⟩
      replace htm := htm.go hV20
      replace hL := hL.go hV20
      replace q0 := q0.below hV20 q0.lt
      replace hlis := hlis.go hV20
      have B_V20 := ex_trans B_V15 hV20
      clear a0 a1 a2 a3 la
      have a0 : V20.cell? ⟨pq0, 0, none⟩ = some (.slice Ar t.rates.length cr) := q0.cell 0
      have a1 : V20.cell? ⟨pq0, 1, none⟩ = some (.slice Ah t.hours.length ch) := q0.cell 1
      have a2 : V20.cell? ⟨pq0, 2, none⟩ = some (.int .i64 t.limit) := q0.cell 2
      have a3 : V20.cell? ⟨pq0, 3, none⟩ = some (.int .i64 t.most) := q0.cell 3
      have la := q0.lt
      rw [HFW.out]
      have hnn : ¬ (nx : Int) < 0 := by omega
      have e5 : ((nx : Int) == (nx : Int)) = true := by simp
      have hrl := rosL_len t Ls
      have HIR := IsRoster_ref t Ar Ah cr ch V20 htm HT.out (rosL t Ls) Ax cx rAx rcx hlis ⟨by rw [rosL_len, ← HLs.out]; omega, rosL_rows HT.out.len.2.1⟩
      rw [rosL_len, ← HLs.out, chain_prove HT.out HCH.out (by rw [← HLs.out]; exact hx6) (by rw [← HLs.out]; exact Int.le_refl _)] at HIR
      clear hrl
      go_wp2_with fail
      refine HIR.mono ?_
      rintro e V21 ⟨rfl, hV21⟩
      clear HIR
      replace htm := htm.go hV21
      replace hL := hL.go hV21
      replace q0 := q0.below hV21 q0.lt
      replace hlis := hlis.go hV21
      have B_V21 := ex_trans B_V20 hV21
      go_wp2_with fail
      refine (awake_any V21).mono ?_
      rintro e Wz ⟨rfl, hz⟩
      go_wp2
      go_ret
      exact ⟨rfl, ex_trans B_V21 hz⟩
  · have he : ec = 10 := HEC.out.symm.trans hr
    subst he
    obtain ⟨rfl, rfl⟩ := hno (by decide)
    have HFW : Hid (fewR t = -1) := Lib.hid (by unfold fewR; rw [if_neg h6])
    clear hyes hno hr h6
    go_wp2_with fail
    refine (Team_any t Ar Ah cr ch V6 htm HSM.out).mono ?_
    rintro e V22 ⟨⟨⟨Ar3, Ah3, cr3, ch3, rfl, ht3⟩⟩, hV22⟩
    replace htm := htm.go hV22
    replace hL := hL.go hV22
    replace q0 := q0.below hV22 q0.lt
    have B_V22 := ex_trans B_V6 hV22
    clear a0 a1 a2 a3 la
    have a0 : V22.cell? ⟨pq0, 0, none⟩ = some (.slice Ar t.rates.length cr) := q0.cell 0
    have a1 : V22.cell? ⟨pq0, 1, none⟩ = some (.slice Ah t.hours.length ch) := q0.cell 1
    have a2 : V22.cell? ⟨pq0, 2, none⟩ = some (.int .i64 t.limit) := q0.cell 2
    have a3 : V22.cell? ⟨pq0, 3, none⟩ = some (.int .i64 t.most) := q0.cell 3
    have la := q0.lt
    go_wp2_with fail
    refine (rows_any AR cR L rR rcR V22 HSL.out.1 HSL.out.2 hL).mono ?_
    rintro e V23 ⟨⟨AX3, cX3, X3, rfl, hio3, hix3⟩, hV23⟩
    replace htm := htm.go hV23
    replace hL := hL.go hV23
    replace q0 := q0.below hV23 q0.lt
    replace ht3 := ht3.go hV23
    have B_V23 := ex_trans B_V22 hV23
    obtain ⟨A9, c9, rX3, rcX3, e9, hlx3⟩ := IOwn.lis hio3 hix3
    injection e9 with e91 e90 e92
    subst e91 e92
    clear e90 hio3 hix3
    clear a0 a1 a2 a3 la
    have a0 : V23.cell? ⟨pq0, 0, none⟩ = some (.slice Ar t.rates.length cr) := q0.cell 0
    have a1 : V23.cell? ⟨pq0, 1, none⟩ = some (.slice Ah t.hours.length ch) := q0.cell 1
    have a2 : V23.cell? ⟨pq0, 2, none⟩ = some (.int .i64 t.limit) := q0.cell 2
    have a3 : V23.cell? ⟨pq0, 3, none⟩ = some (.int .i64 t.most) := q0.cell 3
    have la := q0.lt
    go_wp2_with fail
    refine (ProveR_any t Ar3 Ah3 cr3 ch3 V23 ht3 HSM.out L AX3 cX3 rX3 rcX3 hlx3 HSL.out m2).mono ?_
    rintro e V24 ⟨rfl, hV24⟩
    replace htm := htm.go hV24
    replace hL := hL.go hV24
    replace q0 := q0.below hV24 q0.lt
    replace ht3 := ht3.go hV24
    replace hlx3 := hlx3.go hV24
    have B_V24 := ex_trans B_V23 hV24
    clear ht3 hlx3
    clear a0 a1 a2 a3 la
    have a0 : V24.cell? ⟨pq0, 0, none⟩ = some (.slice Ar t.rates.length cr) := q0.cell 0
    have a1 : V24.cell? ⟨pq0, 1, none⟩ = some (.slice Ah t.hours.length ch) := q0.cell 1
    have a2 : V24.cell? ⟨pq0, 2, none⟩ = some (.int .i64 t.limit) := q0.cell 2
    have a3 : V24.cell? ⟨pq0, 3, none⟩ = some (.int .i64 t.most) := q0.cell 3
    have la := q0.lt
    go_wp2_with fail
    refine (TeamFault_ref t Ar Ah cr ch V24 htm).mono ?_
    rintro e V25 ⟨rfl, hV25⟩
    replace htm := htm.go hV25
    replace hL := hL.go hV25
    replace q0 := q0.below hV25 q0.lt
    have B_V25 := ex_trans B_V24 hV25
    clear a0 a1 a2 a3 la
    have a0 : V25.cell? ⟨pq0, 0, none⟩ = some (.slice Ar t.rates.length cr) := q0.cell 0
    have a1 : V25.cell? ⟨pq0, 1, none⟩ = some (.slice Ah t.hours.length ch) := q0.cell 1
    have a2 : V25.cell? ⟨pq0, 2, none⟩ = some (.int .i64 t.limit) := q0.cell 2
    have a3 : V25.cell? ⟨pq0, 3, none⟩ = some (.int .i64 t.most) := q0.cell 3
    have la := q0.lt
    rw [HCK.out, prove_many]
    go_wp2_with fail
    refine (IsRoster_ref t Ar Ah cr ch V25 htm HT.out L AR cR rR rcR hL HSL.out).mono ?_
    rintro e V26 ⟨rfl, hV26⟩
    replace htm := htm.go hV26
    replace hL := hL.go hV26
    replace q0 := q0.below hV26 q0.lt
    have B_V26 := ex_trans B_V25 hV26
    clear a0 a1 a2 a3 la
    have a0 : V26.cell? ⟨pq0, 0, none⟩ = some (.slice Ar t.rates.length cr) := q0.cell 0
    have a1 : V26.cell? ⟨pq0, 1, none⟩ = some (.slice Ah t.hours.length ch) := q0.cell 1
    have a2 : V26.cell? ⟨pq0, 2, none⟩ = some (.int .i64 t.limit) := q0.cell 2
    have a3 : V26.cell? ⟨pq0, 3, none⟩ = some (.int .i64 t.most) := q0.cell 3
    have la := q0.lt
    obtain ⟨pb, hpb⟩ : ∃ x, proveR t L (L.length : Int) = x := ⟨_, rfl⟩
    rw [hpb]
    clear hpb
    cases pb
    · rw [Bool.false_and]
      go_wp2_with fail
      refine (Fewest_ref t Ar Ah cr ch V26 htm HT.out).mono ?_
      rintro e V27 ⟨rfl, hV27⟩
      replace htm := htm.go hV27
      replace hL := hL.go hV27
      replace q0 := q0.below hV27 q0.lt
      have B_V27 := ex_trans B_V26 hV27
      clear a0 a1 a2 a3 la
      have a0 : V27.cell? ⟨pq0, 0, none⟩ = some (.slice Ar t.rates.length cr) := q0.cell 0
      have a1 : V27.cell? ⟨pq0, 1, none⟩ = some (.slice Ah t.hours.length ch) := q0.cell 1
      have a2 : V27.cell? ⟨pq0, 2, none⟩ = some (.int .i64 t.limit) := q0.cell 2
      have a3 : V27.cell? ⟨pq0, 3, none⟩ = some (.int .i64 t.most) := q0.cell 3
      have la := q0.lt
      rw [HFW.out]
      go_wp2_with fail
      refine (awake_any V27).mono ?_
      rintro e Wz ⟨rfl, hz⟩
      go_wp2
      go_ret
      exact ⟨rfl, ex_trans B_V27 hz⟩
    rw [Bool.true_and]
    by_cases hlm : (L.length : Int) ≤ m2
    · rw [decide_eq_true hlm]
      go_wp2_with fail
      refine (Fewest_ref t Ar Ah cr ch V26 htm HT.out).mono ?_
      rintro e V28 ⟨rfl, hV28⟩
      replace htm := htm.go hV28
      replace hL := hL.go hV28
      replace q0 := q0.below hV28 q0.lt
      have B_V28 := ex_trans B_V26 hV28
      clear a0 a1 a2 a3 la
      have a0 : V28.cell? ⟨pq0, 0, none⟩ = some (.slice Ar t.rates.length cr) := q0.cell 0
      have a1 : V28.cell? ⟨pq0, 1, none⟩ = some (.slice Ah t.hours.length ch) := q0.cell 1
      have a2 : V28.cell? ⟨pq0, 2, none⟩ = some (.int .i64 t.limit) := q0.cell 2
      have a3 : V28.cell? ⟨pq0, 3, none⟩ = some (.int .i64 t.most) := q0.cell 3
      have la := q0.lt
      rw [HFW.out]
      go_wp2_with fail
      refine (awake_any V28).mono ?_
      rintro e Wz ⟨rfl, hz⟩
      go_wp2
      go_ret
      exact ⟨rfl, ex_trans B_V28 hz⟩
    · rw [decide_eq_false hlm]
      have hlm2 : m2 < (L.length : Int) := by omega
      go_wp2_with fail
      refine (Fewest_ref t Ar Ah cr ch V26 htm HT.out).mono ?_
      rintro e V29 ⟨rfl, hV29⟩
      replace htm := htm.go hV29
      replace hL := hL.go hV29
      replace q0 := q0.below hV29 q0.lt
      have B_V29 := ex_trans B_V26 hV29
      clear a0 a1 a2 a3 la
      have a0 : V29.cell? ⟨pq0, 0, none⟩ = some (.slice Ar t.rates.length cr) := q0.cell 0
      have a1 : V29.cell? ⟨pq0, 1, none⟩ = some (.slice Ah t.hours.length ch) := q0.cell 1
      have a2 : V29.cell? ⟨pq0, 2, none⟩ = some (.int .i64 t.limit) := q0.cell 2
      have a3 : V29.cell? ⟨pq0, 3, none⟩ = some (.int .i64 t.most) := q0.cell 3
      have la := q0.lt
      rw [HFW.out]
      go_wp2_with fail
      refine (awake_any V29).mono ?_
      rintro e Wz ⟨rfl, hz⟩
      go_wp2
      go_ret
      exact ⟨rfl, ex_trans B_V29 hz⟩
end Go.Proofs.Ythihdiilokdidaa
end
