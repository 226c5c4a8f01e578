/- Maps by what is at each key: any key may be laid anew. · Maps whose keys are told apart once: a range over one. · Mixed regions in the body of a range over a function. · A tree of orders in the body of a range over a function. · Stem: Play (walk). · The law GlassEnds (walk). -/
import Derived.Test.YtkaogjhnogkcdaaK13
import Derived.Test.YtkaogjhnogkcdaaK6
import Derived.Test.YtkaogjhnogkcdaaK12
import Derived.Test.YtkaogjhnogkcdaaK11
import Derived.Test.YtkaogjhnogkcdaaK10
set_option linter.unusedVariables false
set_option linter.unusedSimpArgs false
set_option linter.unusedSectionVars false
section
namespace Go.Proofs.Ytkaogjhnogkcdaa
open Go.RowKit
structure KeyFd {α : Type} [DecidableEq α] (t : TypeId) (kV : α → Value) : Prop where
 find : ∀ {β : Type} (vV : β → Value) (s : α) (L : List (α × β)) (w : World), (Instr.findKey t (kV s) (mkE kV vV L).toList).run Try.prog w = .ok ((mpAt s L 0).map fun x => (x.1, vV x.2)) w
 check : ∀ (em : Bool) (s : α) (w : World), (Instr.checkKey em 10000 t (kV s)).run Try.prog w = .ok () w
 stays : ∀ (s : α) (w : World), (Instr.keyThatStays (kV s) (kV s)).run Try.prog w = .ok (kV s) w
theorem KeyFd.of {α : Type} [DecidableEq α] {t : TypeId} {kV : α → Value} (h : KeyOk t kV) (hs : ∀ s w, (Instr.keyThatStays (kV s) (kV s)).run Try.prog w = .ok (kV s) w) : KeyFd t kV := ⟨fun _ s L w => mp_find h s L w, h.check, hs⟩
section
variable {β : Type} {vV : β → Value}
def keyI (n : Int) : Value := .int .i64 n
end
section
variable {α β : Type} [DecidableEq α] {t : TypeId} {kV : α → Value} {vV : β → Value}
def MpIs (kV : α → Value) (vV : β → Value) (W : World) (b : Nat) (F : α → Option β) : Prop := ∃ L, IsMp kV vV W b L ∧ ∀ s, mpGet s L = F s
theorem MpIs.lt {W : World} {b : Nat} {F : α → Option β} (h : MpIs kV vV W b F) : b < W.heap.size := h.choose_spec.1.lt
theorem MpIs.of_block {W W' : World} {b : Nat} {F : α → Option β} (h : MpIs kV vV W b F) (hb : W'.heap[b]? = W.heap[b]?) : MpIs kV vV W' b F := by
 obtain ⟨L, h1, h2⟩ := h
 exact ⟨L, h1.of_block hb, h2⟩
theorem MpIs.below {W W' : World} {b : Nat} {F : α → Option β} (h : MpIs kV vV W b F) (hb : Below W.heap.size W W') : MpIs kV vV W' b F := h.of_block (hb.block b h.lt)
theorem MpIs.fr {R : Nat → Prop} {W W' : World} {b : Nat} {F : α → Option β} (h : MpIs kV vV W b F) (hf : Fr R W W') (hn : ¬ R b) : MpIs kV vV W' b F := h.of_block (hf.block b h.lt hn)
theorem MpIs.new (W : World) {g : Nat} (hg : W.heap.size = g) : MpIs kV vV (W.alloc (.map #[] 0)) g (fun _ => none) := ⟨[], IsMp.new W hg, fun _ => rfl⟩
theorem MpIs.congr {W : World} {b : Nat} {F F' : α → Option β} (h : MpIs kV vV W b F) (e : ∀ s, F s = F' s) : MpIs kV vV W b F' := by
 obtain ⟨L, h1, h2⟩ := h
 exact ⟨L, h1, fun s => (h2 s).trans (e s)⟩
theorem MpIs.at_ {mt et : TypeId} (hm : Try.prog.underlying mt = some (.map t et)) (hk : KeyFd t kV) {W : World} {b : Nat} {F : α → Option β} (h : MpIs kV vV W b F) (s : α) {v : β} (hs : F s = some v) :
  (Instr.lookup mt (.map (some b)) (kV s) false).run Try.prog W = .ok (vV v) W := by
 obtain ⟨L, h1, h2⟩ := h
 unfold Instr.lookup
 simp only [Sem.run_bind, run_underlying hm, Result.andThen_ok, mpGetObj h1, hk.check, hk.find, Sem.run_pure]
 obtain ⟨i, hi⟩ := mpGet_some ((h2 s).trans hs)
 rw [hi]
 simp
theorem MpIs.at2 {mt et : TypeId} (hm : Try.prog.underlying mt = some (.map t et)) {i0 : TypeInfo} {z : Value} (hi : Try.prog.info? et = some i0) (hz : i0.zero = some z) (hk : KeyFd t kV) {W : World} {b : Nat} {F : α → Option β} (h : MpIs kV vV W b F) (s : α) :
  (Instr.lookup mt (.map (some b)) (kV s) true).run Try.prog W = .ok (match F s with | some v => .tuple #[vV v, .bool true] | none => .tuple #[z, .bool false]) W := by
 obtain ⟨L, h1, h2⟩ := h
 unfold Instr.lookup
 simp only [Sem.run_bind, run_underlying hm, Result.andThen_ok, mpGetObj h1, hk.check, hk.find, Sem.run_pure]
 rw [← h2 s]
 cases hg : mpGet s L with
 | none =>
  rw [mpGet_none hg]
  simp [go_sem, zeroValue, typeInfo, hi, hz]
 | some v =>
  obtain ⟨i, hi⟩ := mpGet_some hg
  rw [hi]
  simp
theorem mpAt_at {s : α} {v : β} : ∀ {L : List (α × β)} {k i : Nat}, mpAt s L k = some (i, v) → k ≤ i ∧ L[i - k]? = some (s, v)
 | [], _, _, h => by cases h
 | p :: L, k, i, h => by
  rw [mpAt] at h
  split at h
  ·
   rename_i e
   simp only [Option.some.injEq, Prod.mk.injEq] at h
   obtain ⟨rfl, rfl⟩ := h
   exact ⟨Nat.le_refl _, by simp [← e]⟩
  ·
   obtain ⟨h1, h2⟩ := mpAt_at h
   refine ⟨by omega, ?_⟩
   rw [show i - k = (i - (k + 1)) + 1 by omega]
   simpa using h2
theorem mpGet_set {s : α} {v u : β} : ∀ {L : List (α × β)} {k i : Nat}, mpAt s L k = some (i, u) → ∀ x, mpGet x (L.set (i - k) (s, v)) = if x = s then some v else mpGet x L
 | [], _, _, h, _ => by cases h
 | p :: L, k, i, h, x => by
  rw [mpAt] at h
  split at h
  ·
   rename_i e
   simp only [Option.some.injEq, Prod.mk.injEq] at h
   obtain ⟨rfl, rfl⟩ := h
   rw [show k - k = 0 by omega, List.set_cons_zero, mpGet_cons, mpGet_cons]
   by_cases hx : x = s
   ·
    rw [if_pos hx.symm, if_pos hx]
   ·
    rw [if_neg (fun e => hx e.symm), if_neg hx, if_neg (fun e2 => hx (by rw [← e2, e]))]
  ·
   rename_i hne
   obtain ⟨h1, _⟩ := mpAt_at h
   rw [show i - k = (i - (k + 1)) + 1 by omega, List.set_cons_succ, mpGet_cons, mpGet_cons, mpGet_set h x]
   by_cases hx : p.1 = x
   ·
    rw [if_pos hx, if_pos hx, if_neg (fun e => hne (hx.trans e))]
   ·
    rw [if_neg hx, if_neg hx]
theorem mpGet_push {s x : α} {v : β} : ∀ {L : List (α × β)}, mpGet s L = none → mpGet x (L ++ [(s, v)]) = if x = s then some v else mpGet x L
 | [], _ => by
  rw [List.nil_append, mpGet_cons]
  by_cases h : x = s
  ·
   rw [if_pos h.symm, if_pos h]
  ·
   rw [if_neg (fun e => h e.symm), if_neg h]
 | p :: L, hn => by
  rw [mpGet_cons] at hn
  split at hn
  ·
   cases hn
  ·
   rename_i hne
   rw [List.cons_append, mpGet_cons, mpGet_cons, mpGet_push hn]
   by_cases hx : p.1 = x
   ·
    rw [if_pos hx, if_pos hx, if_neg (fun e => hne (hx.trans e))]
   ·
    rw [if_neg hx, if_neg hx]
theorem mkE_set (L : List (α × β)) (i : Nat) (s : α) (v : β) : (mkE kV vV L).modify i (fun e => { e with key := kV s, val := vV v }) = mkE kV vV (L.set i (s, v)) := by
 refine Array.ext (by simp [mkE]) (fun j h1 h2 => ?_)
 rw [Array.getElem_modify]
 simp only [mkE, List.getElem_toArray, List.getElem_map, List.getElem_zipIdx, Nat.zero_add]
 rw [List.getElem_set]
 split <;> rfl
theorem MpIs.put {mt et : TypeId} (hm : Try.prog.underlying mt = some (.map t et)) (hk : KeyFd t kV) {W : World} {b : Nat} {F : α → Option β} (h : MpIs kV vV W b F) (s : α) (v : β) :
  ∃ o, (Instr.mapUpdate mt (.map (some b)) (kV s) (vV v)).run Try.prog W = .ok () (W.putObj b o) ∧ MpIs kV vV (W.putObj b o) b (fun x => if x = s then some v else F x) := by
 obtain ⟨L, h1, h2⟩ := h
 cases hg : mpGet s L with
 | none =>
  refine ⟨.map (mkE kV vV (L ++ [(s, v)])) (L ++ [(s, v)]).length, ?_, L ++ [(s, v)], World.putObj_heap_same h1.lt, fun x => by rw [mpGet_push hg, h2]⟩
  unfold Instr.mapUpdate
  simp only [Sem.run_bind, run_underlying hm, Result.andThen_ok, mpGetObj h1, hk.check, hk.find, mpGet_none hg]
  simp only [Option.map_none]
  rw [mkE_push, mpSetObj _ h1]
  simp
 | some u =>
  obtain ⟨i, hi⟩ := mpGet_some hg
  obtain ⟨_, hL⟩ := mpAt_at hi
  have hset := mpGet_set (v := v) hi
  simp only [Nat.sub_zero] at hL hset
  refine ⟨.map (mkE kV vV (L.set i (s, v))) (L.set i (s, v)).length, ?_, L.set i (s, v), World.putObj_heap_same h1.lt, fun x => by rw [hset, h2]⟩
  unfold Instr.mapUpdate
  simp only [Sem.run_bind, run_underlying hm, Result.andThen_ok, mpGetObj h1, hk.check, hk.find, hi]
  simp only [Option.map_some]
  have hkey : (((mkE kV vV L)[i]?).map (·.key)).getD (kV s) = kV s := by
   have : (mkE kV vV L)[i]? = some { key := kV s, val := vV u, born := i } := by
    simp [mkE, List.getElem?_zipIdx, hL]
   rw [this]; rfl
  rw [hkey]
  simp only [Sem.run_bind, hk.stays, Result.andThen_ok]
  rw [mkE_set, mpSetObj _ h1]
  simp
theorem fr_putO (R : Nat → Prop) (W : World) (b : Nat) (o : Obj) (h : R b) : Fr R W (W.putObj b o) :=
 ⟨rfl, rfl, rfl, by simp, fun k _ hn => World.putObj_heap_other (fun e => hn (e ▸ h))⟩
end
end Go.Proofs.Ytkaogjhnogkcdaa
end

section
namespace Go.Proofs.Ytkaogjhnogkcdaa
open Go.RowKit
section
variable {α β : Type} [DecidableEq α] {t : TypeId} {kV : α → Value} {vV : β → Value}
def MpN (kV : α → Value) (vV : β → Value) (W : World) (b : Nat) (L : List (α × β)) (F : α → Option β) : Prop := IsMp kV vV W b L ∧ (L.map (·.1)).Nodup ∧ ∀ s, mpGet s L = F s
theorem MpN.is {W : World} {b : Nat} {L : List (α × β)} {F : α → Option β} (h : MpN kV vV W b L F) : MpIs kV vV W b F := ⟨L, h.1, h.2.2⟩
theorem MpN.new (W : World) {g : Nat} (hg : W.heap.size = g) : MpN kV vV (W.alloc (.map #[] 0)) g [] (fun _ => none) := ⟨IsMp.new W hg, by simp, fun _ => rfl⟩
theorem MpN.of_block {W W' : World} {b : Nat} {L : List (α × β)} {F : α → Option β} (h : MpN kV vV W b L F) (hb : W'.heap[b]? = W.heap[b]?) : MpN kV vV W' b L F := ⟨h.1.of_block hb, h.2⟩
theorem mpGet_nodup {s : α} {v : β} : ∀ {L : List (α × β)}, (L.map (·.1)).Nodup → (s, v) ∈ L → mpGet s L = some v
  | [], _, h => by cases h
  | p :: L, hn, h => by
    rw [List.map_cons, List.nodup_cons] at hn
    rw [mpGet_cons]
    rcases List.mem_cons.1 h with h | h
    · subst h; simp
    · rw [if_neg (fun e => hn.1 (by rw [e]; exact List.mem_map.2 ⟨_, h, rfl⟩))]
      exact mpGet_nodup hn.2 h
theorem MpN.mem {W : World} {b : Nat} {L : List (α × β)} {F : α → Option β} (h : MpN kV vV W b L F) {s : α} {v : β} : (s, v) ∈ L ↔ F s = some v := by
  rw [← h.2.2 s]
  exact ⟨mpGet_nodup h.2.1, mpGet_mem⟩
theorem mpGet_key {s : α} : ∀ {L : List (α × β)}, mpGet s L = none → s ∉ L.map (·.1)
  | [], _ => by simp
  | p :: L, h => by
    rw [mpGet_cons] at h
    split at h
    · cases h
    · rename_i hne
      rw [List.map_cons, List.mem_cons]
      rintro (e | e)
      · exact hne e.symm
      · exact mpGet_key h e
theorem MpN.put {mt et : TypeId} (hm : Try.prog.underlying mt = some (.map t et)) (hk : KeyFd t kV) {W : World} {b : Nat} {L : List (α × β)} {F : α → Option β} (h : MpN kV vV W b L F) (s : α) (v : β) :
    ∃ o L', (Instr.mapUpdate mt (.map (some b)) (kV s) (vV v)).run Try.prog W = .ok () (W.putObj b o) ∧ MpN kV vV (W.putObj b o) b L' (fun x => if x = s then some v else F x) := by
  obtain ⟨h1, hnd, h2⟩ := h
  cases hg : mpGet s L with
  | none =>
    refine ⟨.map (mkE kV vV (L ++ [(s, v)])) (L ++ [(s, v)]).length, L ++ [(s, v)], ?_, World.putObj_heap_same h1.lt, ?_, fun x => by rw [mpGet_push hg, h2]⟩
    · unfold Instr.mapUpdate
      simp only [Sem.run_bind, run_underlying hm, Result.andThen_ok, mpGetObj h1, hk.check, hk.find, mpGet_none hg]
      simp only [Option.map_none]
      rw [mkE_push, mpSetObj _ h1]
      simp
    · rw [List.map_append, List.nodup_append]
      refine ⟨hnd, by simp, fun a ha c hc => ?_⟩
      simp only [List.map_cons, List.map_nil, List.mem_singleton] at hc
      subst hc
      rintro rfl
      exact mpGet_key hg ha
  | some u =>
    obtain ⟨i, hi⟩ := mpGet_some hg
    obtain ⟨_, hL⟩ := mpAt_at hi
    have hset := mpGet_set (v := v) hi
    simp only [Nat.sub_zero] at hL hset
    refine ⟨.map (mkE kV vV (L.set i (s, v))) (L.set i (s, v)).length, L.set i (s, v), ?_, World.putObj_heap_same h1.lt, ?_, fun x => by rw [hset, h2]⟩
    · unfold Instr.mapUpdate
      simp only [Sem.run_bind, run_underlying hm, Result.andThen_ok, mpGetObj h1, hk.check, hk.find, hi]
      simp only [Option.map_some]
      have hkey : (((mkE kV vV L)[i]?).map (·.key)).getD (kV s) = kV s := by
        have : (mkE kV vV L)[i]? = some { key := kV s, val := vV u, born := i } := by
          simp [mkE, List.getElem?_zipIdx, hL]
        rw [this]; rfl
      rw [hkey]
      simp only [Sem.run_bind, hk.stays, Result.andThen_ok]
      rw [mkE_set, mpSetObj _ h1]
      simp
    · have : (L.set i (s, v)).map (·.1) = L.map (·.1) := by
        rw [List.map_set]
        refine List.ext_getElem? fun j => ?_
        rw [List.getElem?_set]
        split
        · rename_i e
          subst e
          split
          · simp [hL]
          · rename_i h'
            rw [List.getElem?_eq_none (by omega)]
        · rfl
      rw [this]; exact hnd

theorem run_range_mp {mt et : TypeId} (hm : Try.prog.underlying mt = some (.map t et)) {W : World} {b : Nat} {L : List (α × β)} (h : IsMp kV vV W b L) : (Instr.range mt (.map (some b))).run Try.prog W = .ok (.pointer (some ⟨W.heap.size, 0, none⟩)) (W.alloc (.mapIter (some b) L.length #[] L.length)) := by
  unfold Instr.range
  simp only [Sem.run_bind, run_underlying hm, Result.andThen_ok, mpGetObj h, Sem.run_pure, run_newObj_alloc]

def IterM (W : World) (r b : Nat) (n : Nat) (sn : List Nat) : Prop := W.heap[r]? = some (.mapIter (some b) n sn.toArray n) ∧ ∀ i ∈ sn, i < n
theorem IterM.lt {W : World} {r b n : Nat} {sn : List Nat} (h : IterM W r b n sn) : r < W.heap.size := (Array.getElem?_eq_some_iff.1 h.1).1
theorem IterM.of_block {W W' : World} {r b n : Nat} {sn : List Nat} (h : IterM W r b n sn) (hb : W'.heap[r]? = W.heap[r]?) : IterM W' r b n sn := ⟨hb.trans h.1, h.2⟩
theorem IterM.new (W : World) (b n : Nat) {r : Nat} (hr : W.heap.size = r) : IterM (W.alloc (.mapIter (some b) n #[] n)) r b n [] := by
  subst hr; exact ⟨World.alloc_heap_new W _, fun _ h => by cases h⟩
def leftM (n : Nat) (sn : List Nat) : Nat := ((List.range n).filter fun i => !sn.contains i).length
theorem leftM_lt {n : Nat} {sn : List Nat} {i : Nat} (hi : i < n) (hn : i ∉ sn) : leftM n (sn ++ [i]) < leftM n sn := by
  unfold leftM
  rw [← List.countP_eq_length_filter, ← List.countP_eq_length_filter]
  have h1 : (List.range n).countP (fun j => !(sn ++ [i]).contains j) + 1 ≤ (List.range n).countP (fun j => !sn.contains j) := by
    have hmem : i ∈ List.range n := List.mem_range.2 hi
    obtain ⟨a, b, hab⟩ := List.append_of_mem hmem
    rw [hab]
    simp only [List.countP_append, List.countP_cons]
    have m1 : ∀ l : List Nat, l.countP (fun j => !(sn ++ [i]).contains j) ≤ l.countP (fun j => !sn.contains j) := fun l => List.countP_mono_left fun j _ hj => by
      simp at hj ⊢; exact hj.1
    have q1 := m1 a
    have q2 := m1 b
    have e1 : (!(sn ++ [i]).contains i) = false := by simp
    have e2 : (!sn.contains i) = true := by simp [hn]
    simp only [e1, e2, if_true, Bool.false_eq_true, if_false]
    omega
  omega
theorem mkE_get {L : List (α × β)} {i : Nat} (hi : i < L.length) : (mkE kV vV L)[i]? = some { key := kV L[i].1, val := vV L[i].2, born := i } := by
  simp [mkE, List.getElem?_zipIdx, hi]

theorem next_mp {W : World} {r b : Nat} {L : List (α × β)} {sn : List Nat} (hm : IsMp kV vV W b L) (h : IterM W r b L.length sn) (ty : TypeId) :
    ((∀ i, i < L.length → i ∈ sn) ∧ (Instr.next (.pointer (some ⟨r, 0, none⟩)) false ty).run Try.prog W = .ok (.tuple #[.bool false]) W) ∨
    ∃ i, ∃ hi : i < L.length, i ∉ sn ∧ ∃ W1, IterM W1 r b L.length (sn ++ [i]) ∧ W.grownBy W1 (some r) ∧ W1.heap.size = W.heap.size ∧
      (Instr.next (.pointer (some ⟨r, 0, none⟩)) false ty).run Try.prog W = .ok (.tuple #[.bool true, kV L[i].1, vV L[i].2]) W1 ∧
      (Instr.entry (.pointer (some ⟨r, 0, none⟩))).run Try.prog W1 = .ok (.tuple #[kV L[i].1, vV L[i].2]) W1 := by
  have hborn : ∀ x ∈ (mkE kV vV L).toList, ∃ i, ∃ hi : i < L.length, x = { key := kV L[i].1, val := vV L[i].2, born := i } := by
    intro x hx
    obtain ⟨i, hi, e⟩ := List.getElem_of_mem hx
    have hi' : i < L.length := by simpa [mkE] using hi
    exact ⟨i, hi', by rw [← e]; simp [mkE]⟩
  rcases run_next_at (P := Try.prog) W ty r b L.length L.length sn.toArray (mkE kV vV L) L.length h.1 hm (fun x hx => by obtain ⟨i, hi, e⟩ := hborn x hx; rw [e]; exact hi) (Nat.le_refl _) with ⟨h0, hrun⟩ | ⟨e, he, w1, hw1, hrun⟩
  · left
    refine ⟨fun i hi => ?_, hrun⟩
    by_cases hc : i ∈ sn
    · exact hc
    · have : ({ key := kV L[i].1, val := vV L[i].2, born := i } : MapEntry) ∈ (leftOf (mkE kV vV L) sn.toArray).toList := by
        unfold leftOf
        simp only [Array.toList_filter, List.mem_filter]
        refine ⟨?_, by simpa using hc⟩
        have := mkE_get (kV := kV) (vV := vV) hi
        exact Array.mem_toList_iff.2 (Array.mem_of_getElem? this)
      have hl : (leftOf (mkE kV vV L) sn.toArray).toList.length = 0 := by simpa using h0
      rw [List.length_eq_zero_iff.1 hl] at this
      cases this
  · right
    have he' : e ∈ (mkE kV vV L).toList ∧ sn.contains e.born = false := by
      unfold leftOf at he
      simp only [Array.toList_filter, List.mem_filter] at he
      exact ⟨he.1, by simpa using he.2⟩
    obtain ⟨i, hi, hee⟩ := hborn e he'.1
    have hni : i ∉ sn := by have := he'.2; rw [hee] at this; simpa using this
    have hr1 : w1.heap[r]? = W.heap[r]? ∧ w1.heap = W.heap ∧ w1.os = W.os ∧ w1.tape = W.tape ∧ w1.output = W.output := by rcases hw1 with rfl | rfl <;> exact ⟨rfl, rfl, rfl, rfl, rfl⟩
    refine ⟨i, hi, hni, Go.ChangeMaps.setBlock w1 r (.mapIter (some b) L.length (sn.toArray.push e.born) L.length), ⟨?_, ?_⟩, ⟨?_, ?_, ?_, ?_, ?_⟩, ?_, ?_, ?_⟩
    · have hlt := h.lt
      subst hee
      simp [Go.ChangeMaps.setBlock, hr1.2.1, hlt]
    · intro j hj
      rcases List.mem_append.1 hj with hj | hj
      · exact h.2 j hj
      · rw [List.mem_singleton.1 hj]; exact hi
    · exact hr1.2.2.1
    · exact hr1.2.2.2.1
    · exact hr1.2.2.2.2
    · simp [Go.ChangeMaps.setBlock, hr1.2.1]
    · intro k hk hne
      have : r ≠ k := fun e => hne (by rw [e])
      simp [Go.ChangeMaps.setBlock, hr1.2.1, Array.getElem?_setIfInBounds, this]
    · simp [Go.ChangeMaps.setBlock, hr1.2.1]
    · rw [hrun, hee]
    · have hb1 : (Go.ChangeMaps.setBlock w1 r (.mapIter (some b) L.length (sn.toArray.push e.born) L.length)).heap[b]? = some (.map (mkE kV vV L) L.length) := by
        have hne : r ≠ b := fun e => by
          have h1 := h.1; rw [e] at h1
          have h2 : W.heap[b]? = some (.map (mkE kV vV L) L.length) := hm
          rw [h2] at h1; cases h1
        simp [Go.ChangeMaps.setBlock, hr1.2.1, Array.getElem?_setIfInBounds, hne]
        exact hm
      have hr2 : (Go.ChangeMaps.setBlock w1 r (.mapIter (some b) L.length (sn.toArray.push e.born) L.length)).heap[r]? = some (.mapIter (some b) L.length (sn.toArray.push e.born) L.length) := by
        have hlt := h.lt
        simp [Go.ChangeMaps.setBlock, hr1.2.1, hlt]
      have := run_entry_at (P := Try.prog) _ r b L.length sn.toArray (mkE kV vV L) L.length e hr2 hb1 he'.1 (by
        have : (mkE kV vV L).toList.map (·.born) = List.range L.length := by
          apply List.ext_getElem
          · simp [mkE]
          · intro j h1 h2; simp [mkE]
        rw [this]; exact List.nodup_range)
      rw [this, hee]
end
end Go.Proofs.Ytkaogjhnogkcdaa
end

section
namespace Go.Proofs.Ytkaogjhnogkcdaa
open Go.RowKit
end Go.Proofs.Ytkaogjhnogkcdaa
end

section
namespace Go.Proofs.Ytkaogjhnogkcdaa
open Go.RowKit
theorem wpIn_region_tq {P : Program} {Q : Exit → Act → World → Prop} {id l0 nn : Nat} {a : Act} {w : World} {l : List Oper} (n : Nat) (t : Tq) (S : World → Prop) (hm : P.follows .mixedOrders = true)
    (hB : (tqeB .any l.toArray n t && decide (t.len = n)) = true) (hnd : noDefer l = true) (hout : ¬ LetsOut Q) (hQ : ∀ d v c a w, Q (.panic c) (a.put d v) w → Q (.panic c) a w)
    (hS : S w.drew) (h : wqTree P l Q S n t a w.drew) : (Code.region id l.toArray true).wpIn (Fence.wide.inRound l0) nn P Q a w := by
  simp only [tqeB, Bool.and_eq_true, decide_eq_true_eq] at hB
  obtain ⟨⟨⟨⟨⟨hsel, hn⟩, hs⟩, hc⟩, hlex⟩, hlen⟩ := hB
  have hdl : (l.drop n).length = l.toArray.size - n := by simp
  have inv0 : HeadInv .any l.toArray n (Array.replicate l.toArray.size false) :=
    ⟨by simp, fun j oj _ hl => (by rw [getD_replicate_false] at hl; cases hl), fun t _ ht => getD_in (by simpa using ht) (getD_replicate_false _ _)⟩
  have H := tq_head (md := .any) (g := l.toArray.size - n) (T := fun a'' w'' => wpList P l.toArray Q (l.drop n) a'' w'') hsel hQ hs hc hn t _ a _ inv0 hlex hS h
  refine wpIn_region_any hm (wpAnyIn_of_wpAny hout (noDefer_spec hnd) _ _ _ _ ?_)
  have := wpAny_of_headH (g := l.toArray.size - n) (fun listed' a' w' hL => by
    have := wpAny_of_seq (md := .any) (l.drop n) n listed' a' w' (fun j => by simp [List.getElem?_drop]) (by rw [hdl]; exact hL.1) hL.2
    rwa [hdl] at this) _ _ _ _ H
  rw [hlen, show n + (l.toArray.size - n) = l.toArray.size by omega] at this
  exact this
theorem wpIn_region_ext_tq {P : Program} {Q : Exit → Act → World → Prop} {id l0 nn : Nat} {a : Act} {w : World} {l : List Oper} (n : Nat) (t : Tq) (hm : P.follows .mixedOrders = true)
    (hB : (tqeB .any l.toArray n t && decide (t.len = n)) = true) (hnd : noDefer l = true) (hout : ¬ LetsOut Q) (hQ : ∀ d v c a w, Q (.panic c) (a.put d v) w → Q (.panic c) a w)
    (h : wqTree P l Q (fun w' => ∃ x : Ex w, w' = x.W) n t a w.drew) : (Code.region id l.toArray true).wpIn (Fence.wide.inRound l0) nn P Q a w :=
  wpIn_region_tq n t _ hm hB hnd hout hQ (inEx (Below.refl w.heap.size w).drew) h
end Go.Proofs.Ytkaogjhnogkcdaa
end

section
namespace Go.Proofs.Ytkaogjhnogkcdaa
open Go.RowKit
attribute [local go_sem] Ex.cell? Ex.frozen?

def playE (t : Tb) (r : Rd) (x : Tx) : Int := if ckTube t ≠ 0 then ckTube t else if (rdOk 16 r && txOk t r x) = true then 0 else 2
def Tx.ki (x : Tx) : Ki := ⟨x.k, x.lag, x.sq⟩
def playW (r : Rd) (x : Tx) : Int := woP r x.ki x.air x.rate x.off - x.zero
def playV (t : Tb) (r : Rd) (x : Tx) : Int := if playE t r x = 0 then playW r x else 0
theorem play_ck {t : Tb} {r : Rd} {x : Tx} (h : ckTube t ≠ 0) : playE t r x = ckTube t ∧ playV t r x = 0 := by
 have e : playE t r x = ckTube t := if_pos h
 exact ⟨e, by unfold playV; rw [e, if_neg h]⟩
theorem play_no {t : Tb} {r : Rd} {x : Tx} (h : ckTube t = 0) (h2 : (rdOk 16 r && txOk t r x) = false) : playE t r x = 2 ∧ playV t r x = 0 := by
 have e : playE t r x = 2 := by unfold playE; rw [if_neg (by simp [h]), h2]; rfl
 exact ⟨e, by unfold playV; rw [e]; rfl⟩
theorem play_ok {t : Tb} {r : Rd} {x : Tx} (h : ckTube t = 0) (h2 : (rdOk 16 r && txOk t r x) = true) : playE t r x = 0 ∧ playV t r x = playW r x := by
 have e : playE t r x = 0 := by unfold playE; rw [if_neg (by simp [h]), h2]; rfl
 exact ⟨e, by unfold playV; rw [e]; rfl⟩
structure TxBd (t : Tb) (r : Rd) (x : Tx) : Prop where
 ki : KiIn t x.ki
 air : r.air.lo ≤ x.air ∧ x.air ≤ r.air.hi
 rate : r.rate.lo ≤ x.rate ∧ x.rate ≤ r.rate.hi
 off : -r.err ≤ x.off ∧ x.off ≤ r.err
 zero : -2000 ≤ x.zero ∧ x.zero ≤ 2000
theorem txOk_iff {t : Tb} {r : Rd} {x : Tx} : txOk t r x = true ↔ TxBd t r x := by
 unfold txOk
 simp only [Bool.and_eq_true, inB_iff]
 exact ⟨fun ⟨a, b, c, d, e, f, g⟩ => ⟨⟨a, b, c⟩, d, e, f, g⟩, fun h => ⟨h.ki.k, h.ki.lag, h.ki.sq, h.air, h.rate, h.off, h.zero⟩⟩
set_option maxRecDepth 100000 in
set_option maxHeartbeats 6400000 in
theorem Play_stem (t : Tb) (Ab Ad : Option Addr) (cb cd : Nat) (r : Rd) (x : Tx) (w : World) (hg : GlIn w w.heap.size t.g Ab Ad) (he : -9223372036854775808 < r.err) (he2 : r.err ≤ 9223372036854775807) :
  Calls Try.prog 13 #[.agg #[.int .i64 t.g.base, .slice Ab t.g.bands.length cb, .slice Ad t.g.depths.length cd, .int .i64 t.g.blo, .int .i64 t.g.bhi, .int .i64 t.k.lo, .int .i64 t.k.hi, .int .i64 t.lag.lo, .int .i64 t.lag.hi, .int .i64 t.sq.lo, .int .i64 t.sq.hi, .int .i64 t.term], .agg #[.int .i64 r.day, .int .i64 r.shown, .int .i64 r.err, .int .i64 r.bare, .int .i64 r.air.lo, .int .i64 r.air.hi, .int .i64 r.rate.lo, .int .i64 r.rate.hi, .int .i64 r.deep, .bool r.broken], .agg #[.int .i64 x.zero, .int .i64 x.k, .int .i64 x.lag, .int .i64 x.sq, .int .i64 x.air, .int .i64 x.rate, .int .i64 x.off]] w fun e w' => e = .returned (.tuple #[.int .i64 (playV t r x), .int .i64 (playE t r x)]) ∧ Below w.heap.size w w' := by
 by_cases hc : ckTube t = 0
 ·
  have HC := Lib.hid hc
  clear hc
  cases t0 : rdOk 16 r
  ·
   have HR := Lib.hid (play_no (r := r) (x := x) HC.out (by rw [t0]; rfl))
   have T0 := Lib.hid t0
   clear t0
   go_enter Try.func13, Try.ntmps13
   go_upto_region 1 with fail
   show Code.wp _ _ _ _ _
   refine box3 (K := fun V => Code.wp _ _ _ _ V) ?_
   intro V hb1 q1 q2 q3
   replace hg := hg.go hb1
   obtain ⟨pq1, hpq1⟩ : ∃ p, w.heap.size = p := ⟨_, rfl⟩
   obtain ⟨pq2, hpq2⟩ : ∃ p, w.heap.size + 1 = p := ⟨_, rfl⟩
   obtain ⟨pq3, hpq3⟩ : ∃ p, w.heap.size + 1 + 1 = p := ⟨_, rfl⟩
   rw [hpq3] at q3 ⊢
   rw [hpq2] at q2 ⊢
   rw [hpq1] at q1 ⊢
   have hp1 : w.heap.size ≤ pq1 := by omega
   have hp2 : w.heap.size ≤ pq2 := by omega
   have hp3 : w.heap.size ≤ pq3 := by omega
   clear hpq1 hpq2 hpq3
   go_wp2_with (refine pause_at 9 rfl ?_)
   refine Paused.mk ?_
   refine wpList_load_row rfl 32 _ rfl _ rfl 32 _ (0, 0) _ (q1) Try.underlying32 rfl (by kernel_rfl) ?_
   go_wp2_with fail
   refine (CheckTube_any t Ab Ad cb cd _ hg).mono ?_
   rintro e V1 ⟨rfl, hV1⟩
   replace q1 := q1.below hV1 q1.lt
   replace q2 := q2.below hV1 q2.lt
   replace q3 := q3.below hV1 q3.lt
   replace hg := hg.go hV1
   have B_V1 := ex_trans hb1 hV1
   rw [HC.out]
   go_wp2_with (refine pause_at 14 rfl ?_)
   refine Paused.mk ?_
   refine wpList_load_row rfl 37 _ rfl _ rfl 37 _ (0, 0) _ (q2) Try.underlying37 rfl (by kernel_rfl) ?_
   go_wp2_with fail
   refine (reading_any 16 r _ (by omega)).mono ?_
   rintro e V2 ⟨rfl, hV2⟩
   replace q1 := q1.below hV2 q1.lt
   replace q2 := q2.below hV2 q2.lt
   replace q3 := q3.below hV2 q3.lt
   replace hg := hg.go hV2
   have B_V2 := ex_trans B_V1 hV2
   rw [T0.out]
   go_wp2
   go_ret2
   rw [HR.out.1, HR.out.2]
   exact ⟨rfl, B_V2⟩
  ·
   cases t1 : inB x.k t.k.lo t.k.hi
   ·
    have HR := Lib.hid (play_no (r := r) (x := x) HC.out (by unfold txOk; rw [t0, t1]; rfl))
    have T0 := Lib.hid t0
    have T1 := Lib.hid t1
    clear t0 t1
    go_enter Try.func13, Try.ntmps13
    go_upto_region 1 with fail
    show Code.wp _ _ _ _ _
    refine box3 (K := fun V => Code.wp _ _ _ _ V) ?_
    intro V hb1 q1 q2 q3
    replace hg := hg.go hb1
    obtain ⟨pq1, hpq1⟩ : ∃ p, w.heap.size = p := ⟨_, rfl⟩
    obtain ⟨pq2, hpq2⟩ : ∃ p, w.heap.size + 1 = p := ⟨_, rfl⟩
    obtain ⟨pq3, hpq3⟩ : ∃ p, w.heap.size + 1 + 1 = p := ⟨_, rfl⟩
    rw [hpq3] at q3 ⊢
    rw [hpq2] at q2 ⊢
    rw [hpq1] at q1 ⊢
    have hp1 : w.heap.size ≤ pq1 := by omega
    have hp2 : w.heap.size ≤ pq2 := by omega
    have hp3 : w.heap.size ≤ pq3 := by omega
    clear hpq1 hpq2 hpq3
    go_wp2_with (refine pause_at 9 rfl ?_)
    refine Paused.mk ?_
    refine wpList_load_row rfl 32 _ rfl _ rfl 32 _ (0, 0) _ (q1) Try.underlying32 rfl (by kernel_rfl) ?_
    go_wp2_with fail
    refine (CheckTube_any t Ab Ad cb cd _ hg).mono ?_
    rintro e V3 ⟨rfl, hV3⟩
    replace q1 := q1.below hV3 q1.lt
    replace q2 := q2.below hV3 q2.lt
    replace q3 := q3.below hV3 q3.lt
    replace hg := hg.go hV3
    have B_V3 := ex_trans hb1 hV3
    rw [HC.out]
    go_wp2_with (refine pause_at 14 rfl ?_)
    refine Paused.mk ?_
    refine wpList_load_row rfl 37 _ rfl _ rfl 37 _ (0, 0) _ (q2) Try.underlying37 rfl (by kernel_rfl) ?_
    go_wp2_with fail
    refine (reading_any 16 r _ (by omega)).mono ?_
    rintro e V4 ⟨rfl, hV4⟩
    replace q1 := q1.below hV4 q1.lt
    replace q2 := q2.below hV4 q2.lt
    replace q3 := q3.below hV4 q3.lt
    replace hg := hg.go hV4
    have B_V4 := ex_trans B_V3 hV4
    rw [T0.out]
    have a5 : V4.cell? ⟨pq1, 5, none⟩ = some (.int .i64 t.k.lo) := q1.cell 5
    have a6 : V4.cell? ⟨pq1, 6, none⟩ = some (.int .i64 t.k.hi) := q1.cell 6
    have la := q1.lt
    have c1 : V4.cell? ⟨pq3, 1, none⟩ = some (.int .i64 x.k) := q3.cell 1
    have lc := q3.lt
    go_wp2_with fail
    refine (sm_has _ _ _ _).mono ?_
    rintro e V5 ⟨rfl, hV5⟩
    replace q1 := q1.below hV5 q1.lt
    replace q2 := q2.below hV5 q2.lt
    replace q3 := q3.below hV5 q3.lt
    replace hg := hg.go hV5
    have B_V5 := ex_trans B_V4 hV5
    clear a5 a6 la
    clear c1 lc
    rw [T1.out]
    go_wp2
    go_ret2
    rw [HR.out.1, HR.out.2]
    exact ⟨rfl, B_V5⟩
   ·
    cases t2 : inB x.lag t.lag.lo t.lag.hi
    ·
     have HR := Lib.hid (play_no (r := r) (x := x) HC.out (by unfold txOk; rw [t0, t1, t2]; rfl))
     have T0 := Lib.hid t0
     have T1 := Lib.hid t1
     have T2 := Lib.hid t2
     clear t0 t1 t2
     go_enter Try.func13, Try.ntmps13
     go_upto_region 1 with fail
     show Code.wp _ _ _ _ _
     refine box3 (K := fun V => Code.wp _ _ _ _ V) ?_
     intro V hb1 q1 q2 q3
     replace hg := hg.go hb1
     obtain ⟨pq1, hpq1⟩ : ∃ p, w.heap.size = p := ⟨_, rfl⟩
     obtain ⟨pq2, hpq2⟩ : ∃ p, w.heap.size + 1 = p := ⟨_, rfl⟩
     obtain ⟨pq3, hpq3⟩ : ∃ p, w.heap.size + 1 + 1 = p := ⟨_, rfl⟩
     rw [hpq3] at q3 ⊢
     rw [hpq2] at q2 ⊢
     rw [hpq1] at q1 ⊢
     have hp1 : w.heap.size ≤ pq1 := by omega
     have hp2 : w.heap.size ≤ pq2 := by omega
     have hp3 : w.heap.size ≤ pq3 := by omega
     clear hpq1 hpq2 hpq3
     go_wp2_with (refine pause_at 9 rfl ?_)
     refine Paused.mk ?_
     refine wpList_load_row rfl 32 _ rfl _ rfl 32 _ (0, 0) _ (q1) Try.underlying32 rfl (by kernel_rfl) ?_
     go_wp2_with fail
     refine (CheckTube_any t Ab Ad cb cd _ hg).mono ?_
     rintro e V6 ⟨rfl, hV6⟩
     replace q1 := q1.below hV6 q1.lt
     replace q2 := q2.below hV6 q2.lt
     replace q3 := q3.below hV6 q3.lt
     replace hg := hg.go hV6
     have B_V6 := ex_trans hb1 hV6
     rw [HC.out]
     go_wp2_with (refine pause_at 14 rfl ?_)
     refine Paused.mk ?_
     refine wpList_load_row rfl 37 _ rfl _ rfl 37 _ (0, 0) _ (q2) Try.underlying37 rfl (by kernel_rfl) ?_
     go_wp2_with fail
     refine (reading_any 16 r _ (by omega)).mono ?_
     rintro e V7 ⟨rfl, hV7⟩
     replace q1 := q1.below hV7 q1.lt
     replace q2 := q2.below hV7 q2.lt
     replace q3 := q3.below hV7 q3.lt
     replace hg := hg.go hV7
     have B_V7 := ex_trans B_V6 hV7
     rw [T0.out]
     have a5 : V7.cell? ⟨pq1, 5, none⟩ = some (.int .i64 t.k.lo) := q1.cell 5
     have a6 : V7.cell? ⟨pq1, 6, none⟩ = some (.int .i64 t.k.hi) := q1.cell 6
     have la := q1.lt
     have c1 : V7.cell? ⟨pq3, 1, none⟩ = some (.int .i64 x.k) := q3.cell 1
     have lc := q3.lt
     go_wp2_with fail
     refine (sm_has _ _ _ _).mono ?_
     rintro e V8 ⟨rfl, hV8⟩
     replace q1 := q1.below hV8 q1.lt
     replace q2 := q2.below hV8 q2.lt
     replace q3 := q3.below hV8 q3.lt
     replace hg := hg.go hV8
     have B_V8 := ex_trans B_V7 hV8
     clear a5 a6 la
     clear c1 lc
     rw [T1.out]
     have a7 : V8.cell? ⟨pq1, 7, none⟩ = some (.int .i64 t.lag.lo) := q1.cell 7
     have a8 : V8.cell? ⟨pq1, 8, none⟩ = some (.int .i64 t.lag.hi) := q1.cell 8
     have la := q1.lt
     have c2 : V8.cell? ⟨pq3, 2, none⟩ = some (.int .i64 x.lag) := q3.cell 2
     have lc := q3.lt
     go_wp2_with fail
     refine (sm_has _ _ _ _).mono ?_
     rintro e V9 ⟨rfl, hV9⟩
     replace q1 := q1.below hV9 q1.lt
     replace q2 := q2.below hV9 q2.lt
     replace q3 := q3.below hV9 q3.lt
     replace hg := hg.go hV9
     have B_V9 := ex_trans B_V8 hV9
     clear c2 lc
     clear a7 a8 la
     rw [T2.out]
     go_wp2
     go_ret2
     rw [HR.out.1, HR.out.2]
     exact ⟨rfl, B_V9⟩
    ·
     cases t3 : inB x.sq t.sq.lo t.sq.hi
     ·
      have HR := Lib.hid (play_no (r := r) (x := x) HC.out (by unfold txOk; rw [t0, t1, t2, t3]; rfl))
      have T0 := Lib.hid t0
      have T1 := Lib.hid t1
      have T2 := Lib.hid t2
      have T3 := Lib.hid t3
      clear t0 t1 t2 t3
      go_enter Try.func13, Try.ntmps13
      go_upto_region 1 with fail
      show Code.wp _ _ _ _ _
      refine box3 (K := fun V => Code.wp _ _ _ _ V) ?_
      intro V hb1 q1 q2 q3
      replace hg := hg.go hb1
      obtain ⟨pq1, hpq1⟩ : ∃ p, w.heap.size = p := ⟨_, rfl⟩
      obtain ⟨pq2, hpq2⟩ : ∃ p, w.heap.size + 1 = p := ⟨_, rfl⟩
      obtain ⟨pq3, hpq3⟩ : ∃ p, w.heap.size + 1 + 1 = p := ⟨_, rfl⟩
      rw [hpq3] at q3 ⊢
      rw [hpq2] at q2 ⊢
      rw [hpq1] at q1 ⊢
      have hp1 : w.heap.size ≤ pq1 := by omega
      have hp2 : w.heap.size ≤ pq2 := by omega
      have hp3 : w.heap.size ≤ pq3 := by omega
      clear hpq1 hpq2 hpq3
      go_wp2_with (refine pause_at 9 rfl ?_)
      refine Paused.mk ?_
      refine wpList_load_row rfl 32 _ rfl _ rfl 32 _ (0, 0) _ (q1) Try.underlying32 rfl (by kernel_rfl) ?_
      go_wp2_with fail
      refine (CheckTube_any t Ab Ad cb cd _ hg).mono ?_
      rintro e V10 ⟨rfl, hV10⟩
      replace q1 := q1.below hV10 q1.lt
      replace q2 := q2.below hV10 q2.lt
      replace q3 := q3.below hV10 q3.lt
      replace hg := hg.go hV10
      have B_V10 := ex_trans hb1 hV10
      rw [HC.out]
      go_wp2_with (refine pause_at 14 rfl ?_)
      refine Paused.mk ?_
      refine wpList_load_row rfl 37 _ rfl _ rfl 37 _ (0, 0) _ (q2) Try.underlying37 rfl (by kernel_rfl) ?_
      go_wp2_with fail
      refine (reading_any 16 r _ (by omega)).mono ?_
      rintro e V11 ⟨rfl, hV11⟩
      replace q1 := q1.below hV11 q1.lt
      replace q2 := q2.below hV11 q2.lt
      replace q3 := q3.below hV11 q3.lt
      replace hg := hg.go hV11
      have B_V11 := ex_trans B_V10 hV11
      rw [T0.out]
      have a5 : V11.cell? ⟨pq1, 5, none⟩ = some (.int .i64 t.k.lo) := q1.cell 5
      have a6 : V11.cell? ⟨pq1, 6, none⟩ = some (.int .i64 t.k.hi) := q1.cell 6
      have la := q1.lt
      have c1 : V11.cell? ⟨pq3, 1, none⟩ = some (.int .i64 x.k) := q3.cell 1
      have lc := q3.lt
      go_wp2_with fail
      refine (sm_has _ _ _ _).mono ?_
      rintro e V12 ⟨rfl, hV12⟩
      replace q1 := q1.below hV12 q1.lt
      replace q2 := q2.below hV12 q2.lt
      replace q3 := q3.below hV12 q3.lt
      replace hg := hg.go hV12
      have B_V12 := ex_trans B_V11 hV12
      clear a5 a6 la
      clear c1 lc
      rw [T1.out]
      have a7 : V12.cell? ⟨pq1, 7, none⟩ = some (.int .i64 t.lag.lo) := q1.cell 7
      have a8 : V12.cell? ⟨pq1, 8, none⟩ = some (.int .i64 t.lag.hi) := q1.cell 8
      have la := q1.lt
      have c2 : V12.cell? ⟨pq3, 2, none⟩ = some (.int .i64 x.lag) := q3.cell 2
      have lc := q3.lt
      go_wp2_with fail
      refine (sm_has _ _ _ _).mono ?_
      rintro e V13 ⟨rfl, hV13⟩
      replace q1 := q1.below hV13 q1.lt
      replace q2 := q2.below hV13 q2.lt
      replace q3 := q3.below hV13 q3.lt
      replace hg := hg.go hV13
      have B_V13 := ex_trans B_V12 hV13
      clear c2 lc
      clear a7 a8 la
      rw [T2.out]
      have a9 : V13.cell? ⟨pq1, 9, none⟩ = some (.int .i64 t.sq.lo) := q1.cell 9
      have a10 : V13.cell? ⟨pq1, 10, none⟩ = some (.int .i64 t.sq.hi) := q1.cell 10
      have la := q1.lt
      have c3 : V13.cell? ⟨pq3, 3, none⟩ = some (.int .i64 x.sq) := q3.cell 3
      have lc := q3.lt
      go_wp2_with fail
      refine (sm_has _ _ _ _).mono ?_
      rintro e V14 ⟨rfl, hV14⟩
      replace q1 := q1.below hV14 q1.lt
      replace q2 := q2.below hV14 q2.lt
      replace q3 := q3.below hV14 q3.lt
      replace hg := hg.go hV14
      have B_V14 := ex_trans B_V13 hV14
      clear a9 a10 la
      clear c3 lc
      rw [T3.out]
      go_wp2
      go_ret2
      rw [HR.out.1, HR.out.2]
      exact ⟨rfl, B_V14⟩
     ·
      cases t4 : inB x.air r.air.lo r.air.hi
      ·
       have HR := Lib.hid (play_no (r := r) (x := x) HC.out (by unfold txOk; rw [t0, t1, t2, t3, t4]; rfl))
       have T0 := Lib.hid t0
       have T1 := Lib.hid t1
       have T2 := Lib.hid t2
       have T3 := Lib.hid t3
       have T4 := Lib.hid t4
       clear t0 t1 t2 t3 t4
       go_enter Try.func13, Try.ntmps13
       go_upto_region 1 with fail
       show Code.wp _ _ _ _ _
       refine box3 (K := fun V => Code.wp _ _ _ _ V) ?_
       intro V hb1 q1 q2 q3
       replace hg := hg.go hb1
       obtain ⟨pq1, hpq1⟩ : ∃ p, w.heap.size = p := ⟨_, rfl⟩
       obtain ⟨pq2, hpq2⟩ : ∃ p, w.heap.size + 1 = p := ⟨_, rfl⟩
       obtain ⟨pq3, hpq3⟩ : ∃ p, w.heap.size + 1 + 1 = p := ⟨_, rfl⟩
       rw [hpq3] at q3 ⊢
       rw [hpq2] at q2 ⊢
       rw [hpq1] at q1 ⊢
       have hp1 : w.heap.size ≤ pq1 := by omega
       have hp2 : w.heap.size ≤ pq2 := by omega
       have hp3 : w.heap.size ≤ pq3 := by omega
       clear hpq1 hpq2 hpq3
       go_wp2_with (refine pause_at 9 rfl ?_)
       refine Paused.mk ?_
       refine wpList_load_row rfl 32 _ rfl _ rfl 32 _ (0, 0) _ (q1) Try.underlying32 rfl (by kernel_rfl) ?_
       go_wp2_with fail
       refine (CheckTube_any t Ab Ad cb cd _ hg).mono ?_
       rintro e V15 ⟨rfl, hV15⟩
       replace q1 := q1.below hV15 q1.lt
       replace q2 := q2.below hV15 q2.lt
       replace q3 := q3.below hV15 q3.lt
       replace hg := hg.go hV15
       have B_V15 := ex_trans hb1 hV15
       rw [HC.out]
       go_wp2_with (refine pause_at 14 rfl ?_)
       refine Paused.mk ?_
       refine wpList_load_row rfl 37 _ rfl _ rfl 37 _ (0, 0) _ (q2) Try.underlying37 rfl (by kernel_rfl) ?_
       go_wp2_with fail
       refine (reading_any 16 r _ (by omega)).mono ?_
       rintro e V16 ⟨rfl, hV16⟩
       replace q1 := q1.below hV16 q1.lt
       replace q2 := q2.below hV16 q2.lt
       replace q3 := q3.below hV16 q3.lt
       replace hg := hg.go hV16
       have B_V16 := ex_trans B_V15 hV16
       rw [T0.out]
       have a5 : V16.cell? ⟨pq1, 5, none⟩ = some (.int .i64 t.k.lo) := q1.cell 5
       have a6 : V16.cell? ⟨pq1, 6, none⟩ = some (.int .i64 t.k.hi) := q1.cell 6
       have la := q1.lt
       have c1 : V16.cell? ⟨pq3, 1, none⟩ = some (.int .i64 x.k) := q3.cell 1
       have lc := q3.lt
       go_wp2_with fail
       refine (sm_has _ _ _ _).mono ?_
       rintro e V17 ⟨rfl, hV17⟩
       replace q1 := q1.below hV17 q1.lt
       replace q2 := q2.below hV17 q2.lt
       replace q3 := q3.below hV17 q3.lt
       replace hg := hg.go hV17
       have B_V17 := ex_trans B_V16 hV17
       clear a5 a6 la
       clear c1 lc
       rw [T1.out]
       have a7 : V17.cell? ⟨pq1, 7, none⟩ = some (.int .i64 t.lag.lo) := q1.cell 7
       have a8 : V17.cell? ⟨pq1, 8, none⟩ = some (.int .i64 t.lag.hi) := q1.cell 8
       have la := q1.lt
       have c2 : V17.cell? ⟨pq3, 2, none⟩ = some (.int .i64 x.lag) := q3.cell 2
       have lc := q3.lt
       go_wp2_with fail
       refine (sm_has _ _ _ _).mono ?_
       rintro e V18 ⟨rfl, hV18⟩
       replace q1 := q1.below hV18 q1.lt
       replace q2 := q2.below hV18 q2.lt
       replace q3 := q3.below hV18 q3.lt
       replace hg := hg.go hV18
       have B_V18 := ex_trans B_V17 hV18
       clear c2 lc
       clear a7 a8 la
       rw [T2.out]
       have a9 : V18.cell? ⟨pq1, 9, none⟩ = some (.int .i64 t.sq.lo) := q1.cell 9
       have a10 : V18.cell? ⟨pq1, 10, none⟩ = some (.int .i64 t.sq.hi) := q1.cell 10
       have la := q1.lt
       have c3 : V18.cell? ⟨pq3, 3, none⟩ = some (.int .i64 x.sq) := q3.cell 3
       have lc := q3.lt
       go_wp2_with fail
       refine (sm_has _ _ _ _).mono ?_
       rintro e V19 ⟨rfl, hV19⟩
       replace q1 := q1.below hV19 q1.lt
       replace q2 := q2.below hV19 q2.lt
       replace q3 := q3.below hV19 q3.lt
       replace hg := hg.go hV19
       have B_V19 := ex_trans B_V18 hV19
       clear a9 a10 la
       clear c3 lc
       rw [T3.out]
       have b4 : V19.cell? ⟨pq2, 4, none⟩ = some (.int .i64 r.air.lo) := q2.cell 4
       have b5 : V19.cell? ⟨pq2, 5, none⟩ = some (.int .i64 r.air.hi) := q2.cell 5
       have lb := q2.lt
       have c4 : V19.cell? ⟨pq3, 4, none⟩ = some (.int .i64 x.air) := q3.cell 4
       have lc := q3.lt
       go_wp2_with fail
       refine (sm_has _ _ _ _).mono ?_
       rintro e V20 ⟨rfl, hV20⟩
       replace q1 := q1.below hV20 q1.lt
       replace q2 := q2.below hV20 q2.lt
       replace q3 := q3.below hV20 q3.lt
       replace hg := hg.go hV20
       have B_V20 := ex_trans B_V19 hV20
       clear b4 b5 lb
       clear c4 lc
       rw [T4.out]
       go_wp2
       go_ret2
       rw [HR.out.1, HR.out.2]
       exact ⟨rfl, B_V20⟩
      ·
       cases t5 : inB x.rate r.rate.lo r.rate.hi
       ·
        have HR := Lib.hid (play_no (r := r) (x := x) HC.out (by unfold txOk; rw [t0, t1, t2, t3, t4, t5]; rfl))
        have T0 := Lib.hid t0
        have T1 := Lib.hid t1
        have T2 := Lib.hid t2
        have T3 := Lib.hid t3
        have T4 := Lib.hid t4
        have T5 := Lib.hid t5
        clear t0 t1 t2 t3 t4 t5
        go_enter Try.func13, Try.ntmps13
        go_upto_region 1 with fail
        show Code.wp _ _ _ _ _
        refine box3 (K := fun V => Code.wp _ _ _ _ V) ?_
        intro V hb1 q1 q2 q3
        replace hg := hg.go hb1
        obtain ⟨pq1, hpq1⟩ : ∃ p, w.heap.size = p := ⟨_, rfl⟩
        obtain ⟨pq2, hpq2⟩ : ∃ p, w.heap.size + 1 = p := ⟨_, rfl⟩
        obtain ⟨pq3, hpq3⟩ : ∃ p, w.heap.size + 1 + 1 = p := ⟨_, rfl⟩
        rw [hpq3] at q3 ⊢
        rw [hpq2] at q2 ⊢
        rw [hpq1] at q1 ⊢
        have hp1 : w.heap.size ≤ pq1 := by omega
        have hp2 : w.heap.size ≤ pq2 := by omega
        have hp3 : w.heap.size ≤ pq3 := by omega
        clear hpq1 hpq2 hpq3
        go_wp2_with (refine pause_at 9 rfl ?_)
        refine Paused.mk ?_
        refine wpList_load_row rfl 32 _ rfl _ rfl 32 _ (0, 0) _ (q1) Try.underlying32 rfl (by kernel_rfl) ?_
        go_wp2_with fail
        refine (CheckTube_any t Ab Ad cb cd _ hg).mono ?_
        rintro e V21 ⟨rfl, hV21⟩
        replace q1 := q1.below hV21 q1.lt
        replace q2 := q2.below hV21 q2.lt
        replace q3 := q3.below hV21 q3.lt
        replace hg := hg.go hV21
        have B_V21 := ex_trans hb1 hV21
        rw [HC.out]
        go_wp2_with (refine pause_at 14 rfl ?_)
        refine Paused.mk ?_
        refine wpList_load_row rfl 37 _ rfl _ rfl 37 _ (0, 0) _ (q2) Try.underlying37 rfl (by kernel_rfl) ?_
        go_wp2_with fail
        refine (reading_any 16 r _ (by omega)).mono ?_
        rintro e V22 ⟨rfl, hV22⟩
        replace q1 := q1.below hV22 q1.lt
        replace q2 := q2.below hV22 q2.lt
        replace q3 := q3.below hV22 q3.lt
        replace hg := hg.go hV22
        have B_V22 := ex_trans B_V21 hV22
        rw [T0.out]
        have a5 : V22.cell? ⟨pq1, 5, none⟩ = some (.int .i64 t.k.lo) := q1.cell 5
        have a6 : V22.cell? ⟨pq1, 6, none⟩ = some (.int .i64 t.k.hi) := q1.cell 6
        have la := q1.lt
        have c1 : V22.cell? ⟨pq3, 1, none⟩ = some (.int .i64 x.k) := q3.cell 1
        have lc := q3.lt
        go_wp2_with fail
        refine (sm_has _ _ _ _).mono ?_
        rintro e V23 ⟨rfl, hV23⟩
        replace q1 := q1.below hV23 q1.lt
        replace q2 := q2.below hV23 q2.lt
        replace q3 := q3.below hV23 q3.lt
        replace hg := hg.go hV23
        have B_V23 := ex_trans B_V22 hV23
        clear a5 a6 la
        clear c1 lc
        rw [T1.out]
        have a7 : V23.cell? ⟨pq1, 7, none⟩ = some (.int .i64 t.lag.lo) := q1.cell 7
        have a8 : V23.cell? ⟨pq1, 8, none⟩ = some (.int .i64 t.lag.hi) := q1.cell 8
        have la := q1.lt
        have c2 : V23.cell? ⟨pq3, 2, none⟩ = some (.int .i64 x.lag) := q3.cell 2
        have lc := q3.lt
        go_wp2_with fail
        refine (sm_has _ _ _ _).mono ?_
        rintro e V24 ⟨rfl, hV24⟩
        replace q1 := q1.below hV24 q1.lt
        replace q2 := q2.below hV24 q2.lt
        replace q3 := q3.below hV24 q3.lt
        replace hg := hg.go hV24
        have B_V24 := ex_trans B_V23 hV24
        clear c2 lc
        clear a7 a8 la
        rw [T2.out]
        have a9 : V24.cell? ⟨pq1, 9, none⟩ = some (.int .i64 t.sq.lo) := q1.cell 9
        have a10 : V24.cell? ⟨pq1, 10, none⟩ = some (.int .i64 t.sq.hi) := q1.cell 10
        have la := q1.lt
        have c3 : V24.cell? ⟨pq3, 3, none⟩ = some (.int .i64 x.sq) := q3.cell 3
        have lc := q3.lt
        go_wp2_with fail
        refine (sm_has _ _ _ _).mono ?_
        rintro e V25 ⟨rfl, hV25⟩
        replace q1 := q1.below hV25 q1.lt
        replace q2 := q2.below hV25 q2.lt
        replace q3 := q3.below hV25 q3.lt
        replace hg := hg.go hV25
        have B_V25 := ex_trans B_V24 hV25
        clear a9 a10 la
        clear c3 lc
        rw [T3.out]
        have b4 : V25.cell? ⟨pq2, 4, none⟩ = some (.int .i64 r.air.lo) := q2.cell 4
        have b5 : V25.cell? ⟨pq2, 5, none⟩ = some (.int .i64 r.air.hi) := q2.cell 5
        have lb := q2.lt
        have c4 : V25.cell? ⟨pq3, 4, none⟩ = some (.int .i64 x.air) := q3.cell 4
        have lc := q3.lt
        go_wp2_with fail
        refine (sm_has _ _ _ _).mono ?_
        rintro e V26 ⟨rfl, hV26⟩
        replace q1 := q1.below hV26 q1.lt
        replace q2 := q2.below hV26 q2.lt
        replace q3 := q3.below hV26 q3.lt
        replace hg := hg.go hV26
        have B_V26 := ex_trans B_V25 hV26
        clear b4 b5 lb
        clear c4 lc
        rw [T4.out]
        have b6 : V26.cell? ⟨pq2, 6, none⟩ = some (.int .i64 r.rate.lo) := q2.cell 6
        have b7 : V26.cell? ⟨pq2, 7, none⟩ = some (.int .i64 r.rate.hi) := q2.cell 7
        have lb := q2.lt
        have c5 : V26.cell? ⟨pq3, 5, none⟩ = some (.int .i64 x.rate) := q3.cell 5
        have lc := q3.lt
        go_wp2_with fail
        refine (sm_has _ _ _ _).mono ?_
        rintro e V27 ⟨rfl, hV27⟩
        replace q1 := q1.below hV27 q1.lt
        replace q2 := q2.below hV27 q2.lt
        replace q3 := q3.below hV27 q3.lt
        replace hg := hg.go hV27
        have B_V27 := ex_trans B_V26 hV27
        clear c5 lc
        clear b6 b7 lb
        rw [T5.out]
        go_wp2
        go_ret2
        rw [HR.out.1, HR.out.2]
        exact ⟨rfl, B_V27⟩
       ·
        cases t6 : inB x.off (-r.err) r.err
        ·
         have HR := Lib.hid (play_no (r := r) (x := x) HC.out (by unfold txOk; rw [t0, t1, t2, t3, t4, t5, t6]; rfl))
         have T0 := Lib.hid t0
         have T1 := Lib.hid t1
         have T2 := Lib.hid t2
         have T3 := Lib.hid t3
         have T4 := Lib.hid t4
         have T5 := Lib.hid t5
         have T6 := Lib.hid t6
         clear t0 t1 t2 t3 t4 t5 t6
         go_enter Try.func13, Try.ntmps13
         go_upto_region 1 with fail
         show Code.wp _ _ _ _ _
         refine box3 (K := fun V => Code.wp _ _ _ _ V) ?_
         intro V hb1 q1 q2 q3
         replace hg := hg.go hb1
         obtain ⟨pq1, hpq1⟩ : ∃ p, w.heap.size = p := ⟨_, rfl⟩
         obtain ⟨pq2, hpq2⟩ : ∃ p, w.heap.size + 1 = p := ⟨_, rfl⟩
         obtain ⟨pq3, hpq3⟩ : ∃ p, w.heap.size + 1 + 1 = p := ⟨_, rfl⟩
         rw [hpq3] at q3 ⊢
         rw [hpq2] at q2 ⊢
         rw [hpq1] at q1 ⊢
         have hp1 : w.heap.size ≤ pq1 := by omega
         have hp2 : w.heap.size ≤ pq2 := by omega
         have hp3 : w.heap.size ≤ pq3 := by omega
         clear hpq1 hpq2 hpq3
         go_wp2_with (refine pause_at 9 rfl ?_)
         refine Paused.mk ?_
         refine wpList_load_row rfl 32 _ rfl _ rfl 32 _ (0, 0) _ (q1) Try.underlying32 rfl (by kernel_rfl) ?_
         go_wp2_with fail
         refine (CheckTube_any t Ab Ad cb cd _ hg).mono ?_
         rintro e V28 ⟨rfl, hV28⟩
         replace q1 := q1.below hV28 q1.lt
         replace q2 := q2.below hV28 q2.lt
         replace q3 := q3.below hV28 q3.lt
         replace hg := hg.go hV28
         have B_V28 := ex_trans hb1 hV28
         rw [HC.out]
         go_wp2_with (refine pause_at 14 rfl ?_)
         refine Paused.mk ?_
         refine wpList_load_row rfl 37 _ rfl _ rfl 37 _ (0, 0) _ (q2) Try.underlying37 rfl (by kernel_rfl) ?_
         go_wp2_with fail
         refine (reading_any 16 r _ (by omega)).mono ?_
         rintro e V29 ⟨rfl, hV29⟩
         replace q1 := q1.below hV29 q1.lt
         replace q2 := q2.below hV29 q2.lt
         replace q3 := q3.below hV29 q3.lt
         replace hg := hg.go hV29
         have B_V29 := ex_trans B_V28 hV29
         rw [T0.out]
         have a5 : V29.cell? ⟨pq1, 5, none⟩ = some (.int .i64 t.k.lo) := q1.cell 5
         have a6 : V29.cell? ⟨pq1, 6, none⟩ = some (.int .i64 t.k.hi) := q1.cell 6
         have la := q1.lt
         have c1 : V29.cell? ⟨pq3, 1, none⟩ = some (.int .i64 x.k) := q3.cell 1
         have lc := q3.lt
         go_wp2_with fail
         refine (sm_has _ _ _ _).mono ?_
         rintro e V30 ⟨rfl, hV30⟩
         replace q1 := q1.below hV30 q1.lt
         replace q2 := q2.below hV30 q2.lt
         replace q3 := q3.below hV30 q3.lt
         replace hg := hg.go hV30
         have B_V30 := ex_trans B_V29 hV30
         clear a5 a6 la
         clear c1 lc
         rw [T1.out]
         have a7 : V30.cell? ⟨pq1, 7, none⟩ = some (.int .i64 t.lag.lo) := q1.cell 7
         have a8 : V30.cell? ⟨pq1, 8, none⟩ = some (.int .i64 t.lag.hi) := q1.cell 8
         have la := q1.lt
         have c2 : V30.cell? ⟨pq3, 2, none⟩ = some (.int .i64 x.lag) := q3.cell 2
         have lc := q3.lt
         go_wp2_with fail
         refine (sm_has _ _ _ _).mono ?_
         rintro e V31 ⟨rfl, hV31⟩
         replace q1 := q1.below hV31 q1.lt
         replace q2 := q2.below hV31 q2.lt
         replace q3 := q3.below hV31 q3.lt
         replace hg := hg.go hV31
         have B_V31 := ex_trans B_V30 hV31
         clear c2 lc
         clear a7 a8 la
         rw [T2.out]
         have a9 : V31.cell? ⟨pq1, 9, none⟩ = some (.int .i64 t.sq.lo) := q1.cell 9
         have a10 : V31.cell? ⟨pq1, 10, none⟩ = some (.int .i64 t.sq.hi) := q1.cell 10
         have la := q1.lt
         have c3 : V31.cell? ⟨pq3, 3, none⟩ = some (.int .i64 x.sq) := q3.cell 3
         have lc := q3.lt
         go_wp2_with fail
         refine (sm_has _ _ _ _).mono ?_
         rintro e V32 ⟨rfl, hV32⟩
         replace q1 := q1.below hV32 q1.lt
         replace q2 := q2.below hV32 q2.lt
         replace q3 := q3.below hV32 q3.lt
         replace hg := hg.go hV32
         have B_V32 := ex_trans B_V31 hV32
         clear a9 a10 la
         clear c3 lc
         rw [T3.out]
         have b4 : V32.cell? ⟨pq2, 4, none⟩ = some (.int .i64 r.air.lo) := q2.cell 4
         have b5 : V32.cell? ⟨pq2, 5, none⟩ = some (.int .i64 r.air.hi) := q2.cell 5
         have lb := q2.lt
         have c4 : V32.cell? ⟨pq3, 4, none⟩ = some (.int .i64 x.air) := q3.cell 4
         have lc := q3.lt
         go_wp2_with fail
         refine (sm_has _ _ _ _).mono ?_
         rintro e V33 ⟨rfl, hV33⟩
         replace q1 := q1.below hV33 q1.lt
         replace q2 := q2.below hV33 q2.lt
         replace q3 := q3.below hV33 q3.lt
         replace hg := hg.go hV33
         have B_V33 := ex_trans B_V32 hV33
         clear b4 b5 lb
         clear c4 lc
         rw [T4.out]
         have b6 : V33.cell? ⟨pq2, 6, none⟩ = some (.int .i64 r.rate.lo) := q2.cell 6
         have b7 : V33.cell? ⟨pq2, 7, none⟩ = some (.int .i64 r.rate.hi) := q2.cell 7
         have lb := q2.lt
         have c5 : V33.cell? ⟨pq3, 5, none⟩ = some (.int .i64 x.rate) := q3.cell 5
         have lc := q3.lt
         go_wp2_with fail
         refine (sm_has _ _ _ _).mono ?_
         rintro e V34 ⟨rfl, hV34⟩
         replace q1 := q1.below hV34 q1.lt
         replace q2 := q2.below hV34 q2.lt
         replace q3 := q3.below hV34 q3.lt
         replace hg := hg.go hV34
         have B_V34 := ex_trans B_V33 hV34
         clear c5 lc
         clear b6 b7 lb
         rw [T5.out]
         have b2 : V34.cell? ⟨pq2, 2, none⟩ = some (.int .i64 r.err) := q2.cell 2
         have lb := q2.lt
         have c6 : V34.cell? ⟨pq3, 6, none⟩ = some (.int .i64 x.off) := q3.cell 6
         have lc := q3.lt
         go_wp2_with fail
         refine (sm_within _ _ _ _).mono ?_
         rintro e w' ⟨rfl, rfl⟩
         clear b2 lb
         clear c6 lc
         rw [T6.out]
         go_wp2
         go_ret2
         rw [HR.out.1, HR.out.2]
         exact ⟨rfl, B_V34⟩
        ·
         cases t7 : inB x.zero (-2000) 2000
         ·
          have HR := Lib.hid (play_no (r := r) (x := x) HC.out (by unfold txOk; rw [t0, t1, t2, t3, t4, t5, t6, t7]; rfl))
          have T0 := Lib.hid t0
          have T1 := Lib.hid t1
          have T2 := Lib.hid t2
          have T3 := Lib.hid t3
          have T4 := Lib.hid t4
          have T5 := Lib.hid t5
          have T6 := Lib.hid t6
          have T7 := Lib.hid t7
          clear t0 t1 t2 t3 t4 t5 t6 t7
          go_enter Try.func13, Try.ntmps13
          go_upto_region 1 with fail
          show Code.wp _ _ _ _ _
          refine box3 (K := fun V => Code.wp _ _ _ _ V) ?_
          intro V hb1 q1 q2 q3
          replace hg := hg.go hb1
          obtain ⟨pq1, hpq1⟩ : ∃ p, w.heap.size = p := ⟨_, rfl⟩
          obtain ⟨pq2, hpq2⟩ : ∃ p, w.heap.size + 1 = p := ⟨_, rfl⟩
          obtain ⟨pq3, hpq3⟩ : ∃ p, w.heap.size + 1 + 1 = p := ⟨_, rfl⟩
          rw [hpq3] at q3 ⊢
          rw [hpq2] at q2 ⊢
          rw [hpq1] at q1 ⊢
          have hp1 : w.heap.size ≤ pq1 := by omega
          have hp2 : w.heap.size ≤ pq2 := by omega
          have hp3 : w.heap.size ≤ pq3 := by omega
          clear hpq1 hpq2 hpq3
          go_wp2_with (refine pause_at 9 rfl ?_)
          refine Paused.mk ?_
          refine wpList_load_row rfl 32 _ rfl _ rfl 32 _ (0, 0) _ (q1) Try.underlying32 rfl (by kernel_rfl) ?_
          go_wp2_with fail
          refine (CheckTube_any t Ab Ad cb cd _ hg).mono ?_
          rintro e V35 ⟨rfl, hV35⟩
          replace q1 := q1.below hV35 q1.lt
          replace q2 := q2.below hV35 q2.lt
          replace q3 := q3.below hV35 q3.lt
          replace hg := hg.go hV35
          have B_V35 := ex_trans hb1 hV35
          rw [HC.out]
          go_wp2_with (refine pause_at 14 rfl ?_)
          refine Paused.mk ?_
          refine wpList_load_row rfl 37 _ rfl _ rfl 37 _ (0, 0) _ (q2) Try.underlying37 rfl (by kernel_rfl) ?_
          go_wp2_with fail
          refine (reading_any 16 r _ (by omega)).mono ?_
          rintro e V36 ⟨rfl, hV36⟩
          replace q1 := q1.below hV36 q1.lt
          replace q2 := q2.below hV36 q2.lt
          replace q3 := q3.below hV36 q3.lt
          replace hg := hg.go hV36
          have B_V36 := ex_trans B_V35 hV36
          rw [T0.out]
          have a5 : V36.cell? ⟨pq1, 5, none⟩ = some (.int .i64 t.k.lo) := q1.cell 5
          have a6 : V36.cell? ⟨pq1, 6, none⟩ = some (.int .i64 t.k.hi) := q1.cell 6
          have la := q1.lt
          have c1 : V36.cell? ⟨pq3, 1, none⟩ = some (.int .i64 x.k) := q3.cell 1
          have lc := q3.lt
          go_wp2_with fail
          refine (sm_has _ _ _ _).mono ?_
          rintro e V37 ⟨rfl, hV37⟩
          replace q1 := q1.below hV37 q1.lt
          replace q2 := q2.below hV37 q2.lt
          replace q3 := q3.below hV37 q3.lt
          replace hg := hg.go hV37
          have B_V37 := ex_trans B_V36 hV37
          clear a5 a6 la
          clear c1 lc
          rw [T1.out]
          have a7 : V37.cell? ⟨pq1, 7, none⟩ = some (.int .i64 t.lag.lo) := q1.cell 7
          have a8 : V37.cell? ⟨pq1, 8, none⟩ = some (.int .i64 t.lag.hi) := q1.cell 8
          have la := q1.lt
          have c2 : V37.cell? ⟨pq3, 2, none⟩ = some (.int .i64 x.lag) := q3.cell 2
          have lc := q3.lt
          go_wp2_with fail
          refine (sm_has _ _ _ _).mono ?_
          rintro e V38 ⟨rfl, hV38⟩
          replace q1 := q1.below hV38 q1.lt
          replace q2 := q2.below hV38 q2.lt
          replace q3 := q3.below hV38 q3.lt
          replace hg := hg.go hV38
          have B_V38 := ex_trans B_V37 hV38
          clear c2 lc
          clear a7 a8 la
          rw [T2.out]
          have a9 : V38.cell? ⟨pq1, 9, none⟩ = some (.int .i64 t.sq.lo) := q1.cell 9
          have a10 : V38.cell? ⟨pq1, 10, none⟩ = some (.int .i64 t.sq.hi) := q1.cell 10
          have la := q1.lt
          have c3 : V38.cell? ⟨pq3, 3, none⟩ = some (.int .i64 x.sq) := q3.cell 3
          have lc := q3.lt
          go_wp2_with fail
          refine (sm_has _ _ _ _).mono ?_
          rintro e V39 ⟨rfl, hV39⟩
          replace q1 := q1.below hV39 q1.lt
          replace q2 := q2.below hV39 q2.lt
          replace q3 := q3.below hV39 q3.lt
          replace hg := hg.go hV39
          have B_V39 := ex_trans B_V38 hV39
          clear a9 a10 la
          clear c3 lc
          rw [T3.out]
          have b4 : V39.cell? ⟨pq2, 4, none⟩ = some (.int .i64 r.air.lo) := q2.cell 4
          have b5 : V39.cell? ⟨pq2, 5, none⟩ = some (.int .i64 r.air.hi) := q2.cell 5
          have lb := q2.lt
          have c4 : V39.cell? ⟨pq3, 4, none⟩ = some (.int .i64 x.air) := q3.cell 4
          have lc := q3.lt
          go_wp2_with fail
          refine (sm_has _ _ _ _).mono ?_
          rintro e V40 ⟨rfl, hV40⟩
          replace q1 := q1.below hV40 q1.lt
          replace q2 := q2.below hV40 q2.lt
          replace q3 := q3.below hV40 q3.lt
          replace hg := hg.go hV40
          have B_V40 := ex_trans B_V39 hV40
          clear b4 b5 lb
          clear c4 lc
          rw [T4.out]
          have b6 : V40.cell? ⟨pq2, 6, none⟩ = some (.int .i64 r.rate.lo) := q2.cell 6
          have b7 : V40.cell? ⟨pq2, 7, none⟩ = some (.int .i64 r.rate.hi) := q2.cell 7
          have lb := q2.lt
          have c5 : V40.cell? ⟨pq3, 5, none⟩ = some (.int .i64 x.rate) := q3.cell 5
          have lc := q3.lt
          go_wp2_with fail
          refine (sm_has _ _ _ _).mono ?_
          rintro e V41 ⟨rfl, hV41⟩
          replace q1 := q1.below hV41 q1.lt
          replace q2 := q2.below hV41 q2.lt
          replace q3 := q3.below hV41 q3.lt
          replace hg := hg.go hV41
          have B_V41 := ex_trans B_V40 hV41
          clear c5 lc
          clear b6 b7 lb
          rw [T5.out]
          have b2 : V41.cell? ⟨pq2, 2, none⟩ = some (.int .i64 r.err) := q2.cell 2
          have lb := q2.lt
          have c6 : V41.cell? ⟨pq3, 6, none⟩ = some (.int .i64 x.off) := q3.cell 6
          have lc := q3.lt
          go_wp2_with fail
          refine (sm_within _ _ _ _).mono ?_
          rintro e w' ⟨rfl, rfl⟩
          clear b2 lb
          clear c6 lc
          rw [T6.out]
          have c0 : V41.cell? ⟨pq3, 0, none⟩ = some (.int .i64 x.zero) := q3.cell 0
          have lc := q3.lt
          go_wp2_with fail
          refine (sm_within _ _ _ _).mono ?_
          rintro e w' ⟨rfl, rfl⟩
          clear c0 lc
          rw [T7.out]
          go_wp2
          go_ret2
          rw [HR.out.1, HR.out.2]
          exact ⟨rfl, B_V41⟩
         ·
          have HT : Hid ((rdOk 16 r && txOk t r x) = true) := Lib.hid (by unfold txOk; rw [t0, t1, t2, t3, t4, t5, t6, t7]; rfl)
          have HR := Lib.hid (play_ok HC.out HT.out)
          have HRD := Lib.hid (rdOk_iff.1 t0).2
          have T0 := Lib.hid t0
          have T1 := Lib.hid t1
          have T2 := Lib.hid t2
          have T3 := Lib.hid t3
          have T4 := Lib.hid t4
          have T5 := Lib.hid t5
          have T6 := Lib.hid t6
          have T7 := Lib.hid t7
          clear t0 t1 t2 t3 t4 t5 t6 t7
          go_enter Try.func13, Try.ntmps13
          go_upto_region 1 with fail
          show Code.wp _ _ _ _ _
          refine box3 (K := fun V => Code.wp _ _ _ _ V) ?_
          intro V hb1 q1 q2 q3
          replace hg := hg.go hb1
          obtain ⟨pq1, hpq1⟩ : ∃ p, w.heap.size = p := ⟨_, rfl⟩
          obtain ⟨pq2, hpq2⟩ : ∃ p, w.heap.size + 1 = p := ⟨_, rfl⟩
          obtain ⟨pq3, hpq3⟩ : ∃ p, w.heap.size + 1 + 1 = p := ⟨_, rfl⟩
          rw [hpq3] at q3 ⊢
          rw [hpq2] at q2 ⊢
          rw [hpq1] at q1 ⊢
          have hp1 : w.heap.size ≤ pq1 := by omega
          have hp2 : w.heap.size ≤ pq2 := by omega
          have hp3 : w.heap.size ≤ pq3 := by omega
          clear hpq1 hpq2 hpq3
          go_wp2_with (refine pause_at 9 rfl ?_)
          refine Paused.mk ?_
          refine wpList_load_row rfl 32 _ rfl _ rfl 32 _ (0, 0) _ (q1) Try.underlying32 rfl (by kernel_rfl) ?_
          go_wp2_with fail
          refine (CheckTube_any t Ab Ad cb cd _ hg).mono ?_
          rintro e V42 ⟨rfl, hV42⟩
          replace q1 := q1.below hV42 q1.lt
          replace q2 := q2.below hV42 q2.lt
          replace q3 := q3.below hV42 q3.lt
          replace hg := hg.go hV42
          have B_V42 := ex_trans hb1 hV42
          rw [HC.out]
          go_wp2_with (refine pause_at 14 rfl ?_)
          refine Paused.mk ?_
          refine wpList_load_row rfl 37 _ rfl _ rfl 37 _ (0, 0) _ (q2) Try.underlying37 rfl (by kernel_rfl) ?_
          go_wp2_with fail
          refine (reading_any 16 r _ (by omega)).mono ?_
          rintro e V43 ⟨rfl, hV43⟩
          replace q1 := q1.below hV43 q1.lt
          replace q2 := q2.below hV43 q2.lt
          replace q3 := q3.below hV43 q3.lt
          replace hg := hg.go hV43
          have B_V43 := ex_trans B_V42 hV43
          rw [T0.out]
          have a5 : V43.cell? ⟨pq1, 5, none⟩ = some (.int .i64 t.k.lo) := q1.cell 5
          have a6 : V43.cell? ⟨pq1, 6, none⟩ = some (.int .i64 t.k.hi) := q1.cell 6
          have la := q1.lt
          have c1 : V43.cell? ⟨pq3, 1, none⟩ = some (.int .i64 x.k) := q3.cell 1
          have lc := q3.lt
          go_wp2_with fail
          refine (sm_has _ _ _ _).mono ?_
          rintro e V44 ⟨rfl, hV44⟩
          replace q1 := q1.below hV44 q1.lt
          replace q2 := q2.below hV44 q2.lt
          replace q3 := q3.below hV44 q3.lt
          replace hg := hg.go hV44
          have B_V44 := ex_trans B_V43 hV44
          clear a5 a6 la
          clear c1 lc
          rw [T1.out]
          have a7 : V44.cell? ⟨pq1, 7, none⟩ = some (.int .i64 t.lag.lo) := q1.cell 7
          have a8 : V44.cell? ⟨pq1, 8, none⟩ = some (.int .i64 t.lag.hi) := q1.cell 8
          have la := q1.lt
          have c2 : V44.cell? ⟨pq3, 2, none⟩ = some (.int .i64 x.lag) := q3.cell 2
          have lc := q3.lt
          go_wp2_with fail
          refine (sm_has _ _ _ _).mono ?_
          rintro e V45 ⟨rfl, hV45⟩
          replace q1 := q1.below hV45 q1.lt
          replace q2 := q2.below hV45 q2.lt
          replace q3 := q3.below hV45 q3.lt
          replace hg := hg.go hV45
          have B_V45 := ex_trans B_V44 hV45
          clear c2 lc
          clear a7 a8 la
          rw [T2.out]
          have a9 : V45.cell? ⟨pq1, 9, none⟩ = some (.int .i64 t.sq.lo) := q1.cell 9
          have a10 : V45.cell? ⟨pq1, 10, none⟩ = some (.int .i64 t.sq.hi) := q1.cell 10
          have la := q1.lt
          have c3 : V45.cell? ⟨pq3, 3, none⟩ = some (.int .i64 x.sq) := q3.cell 3
          have lc := q3.lt
          go_wp2_with fail
          refine (sm_has _ _ _ _).mono ?_
          rintro e V46 ⟨rfl, hV46⟩
          replace q1 := q1.below hV46 q1.lt
          replace q2 := q2.below hV46 q2.lt
          replace q3 := q3.below hV46 q3.lt
          replace hg := hg.go hV46
          have B_V46 := ex_trans B_V45 hV46
          clear a9 a10 la
          clear c3 lc
          rw [T3.out]
          have b4 : V46.cell? ⟨pq2, 4, none⟩ = some (.int .i64 r.air.lo) := q2.cell 4
          have b5 : V46.cell? ⟨pq2, 5, none⟩ = some (.int .i64 r.air.hi) := q2.cell 5
          have lb := q2.lt
          have c4 : V46.cell? ⟨pq3, 4, none⟩ = some (.int .i64 x.air) := q3.cell 4
          have lc := q3.lt
          go_wp2_with fail
          refine (sm_has _ _ _ _).mono ?_
          rintro e V47 ⟨rfl, hV47⟩
          replace q1 := q1.below hV47 q1.lt
          replace q2 := q2.below hV47 q2.lt
          replace q3 := q3.below hV47 q3.lt
          replace hg := hg.go hV47
          have B_V47 := ex_trans B_V46 hV47
          clear b4 b5 lb
          clear c4 lc
          rw [T4.out]
          have b6 : V47.cell? ⟨pq2, 6, none⟩ = some (.int .i64 r.rate.lo) := q2.cell 6
          have b7 : V47.cell? ⟨pq2, 7, none⟩ = some (.int .i64 r.rate.hi) := q2.cell 7
          have lb := q2.lt
          have c5 : V47.cell? ⟨pq3, 5, none⟩ = some (.int .i64 x.rate) := q3.cell 5
          have lc := q3.lt
          go_wp2_with fail
          refine (sm_has _ _ _ _).mono ?_
          rintro e V48 ⟨rfl, hV48⟩
          replace q1 := q1.below hV48 q1.lt
          replace q2 := q2.below hV48 q2.lt
          replace q3 := q3.below hV48 q3.lt
          replace hg := hg.go hV48
          have B_V48 := ex_trans B_V47 hV48
          clear c5 lc
          clear b6 b7 lb
          rw [T5.out]
          have b2 : V48.cell? ⟨pq2, 2, none⟩ = some (.int .i64 r.err) := q2.cell 2
          have lb := q2.lt
          have c6 : V48.cell? ⟨pq3, 6, none⟩ = some (.int .i64 x.off) := q3.cell 6
          have lc := q3.lt
          go_wp2_with fail
          refine (sm_within _ _ _ _).mono ?_
          rintro e w' ⟨rfl, rfl⟩
          clear b2 lb
          clear c6 lc
          rw [T6.out]
          have c0 : V48.cell? ⟨pq3, 0, none⟩ = some (.int .i64 x.zero) := q3.cell 0
          have lc := q3.lt
          go_wp2_with fail
          refine (sm_within _ _ _ _).mono ?_
          rintro e w' ⟨rfl, rfl⟩
          clear c0 lc
          rw [T7.out]
          have ht := ck_bd HC.out
          have hx := txOk_iff.1 (by have h := HT.out; rw [Bool.and_eq_true] at h; exact h.2)
          have hq := hx.ki.bd ht
          have ha : -100 ≤ x.air ∧ x.air ≤ 100 := by have := hx.air; have := HRD.out.air; omega
          have hra : -20 ≤ x.rate ∧ x.rate ≤ 20 := by have := hx.rate; have := HRD.out.rate; omega
          have ho : -20 ≤ x.off ∧ x.off ≤ 20 := by have := hx.off; have := HRD.out.err; omega
          have hwb := woP_bd hq HRD.out ha hra ho
          have hz := hx.zero
          clear ht hx
          have c0 : V48.cell? ⟨pq3, 0, none⟩ = some (.int .i64 x.zero) := q3.cell 0
          have c1 : V48.cell? ⟨pq3, 1, none⟩ = some (.int .i64 x.k) := q3.cell 1
          have c2 : V48.cell? ⟨pq3, 2, none⟩ = some (.int .i64 x.lag) := q3.cell 2
          have c3 : V48.cell? ⟨pq3, 3, none⟩ = some (.int .i64 x.sq) := q3.cell 3
          have c4 : V48.cell? ⟨pq3, 4, none⟩ = some (.int .i64 x.air) := q3.cell 4
          have c5 : V48.cell? ⟨pq3, 5, none⟩ = some (.int .i64 x.rate) := q3.cell 5
          have c6 : V48.cell? ⟨pq3, 6, none⟩ = some (.int .i64 x.off) := q3.cell 6
          have lc := q3.lt
          go_wp2_with fail
          refine wp_region_ext (by kernel_rfl) (by kernel_rfl) ?_
          refine wpQuiet_load_row rfl 32 _ rfl _ rfl 32 _ (0, 0) _ q1.ex Try.underlying32 rfl (by kernel_rfl) ?_
          simp only [Act.put, List.setIfInBounds_toArray, List.set_cons_zero, List.set_cons_succ]
          refine wpQuiet_load_row rfl 37 _ rfl _ rfl 37 _ (0, 0) _ q2.ex Try.underlying37 rfl (by kernel_rfl) ?_
          simp only [Act.put, List.setIfInBounds_toArray, List.set_cons_zero, List.set_cons_succ]
          repeat (go_big_quiet_step ((go_at_call 30; exact Calls.ext_of (without_any t Ab Ad cb cd r x.ki _ _ _ _ HRD.out hq ha hra ho))))
          refine wpQuiet_nil ?_; intro _ hw'; obtain ⟨X, rfl⟩ := hw'
          go_wp2
          go_ret2
          rw [HR.out.1, HR.out.2]
          exact ⟨rfl, ex_trans B_V48 X.h⟩
 ·
  have HR := Lib.hid (play_ck (r := r) (x := x) hc)
  have e1 : (ckTube t != 0) = true := by simp [hc]
  clear hc
  go_enter Try.func13, Try.ntmps13
  go_upto_region 1 with fail
  show Code.wp _ _ _ _ _
  refine box3 (K := fun V => Code.wp _ _ _ _ V) ?_
  intro V hb1 q1 q2 q3
  replace hg := hg.go hb1
  obtain ⟨pq1, hpq1⟩ : ∃ p, w.heap.size = p := ⟨_, rfl⟩
  obtain ⟨pq2, hpq2⟩ : ∃ p, w.heap.size + 1 = p := ⟨_, rfl⟩
  obtain ⟨pq3, hpq3⟩ : ∃ p, w.heap.size + 1 + 1 = p := ⟨_, rfl⟩
  rw [hpq3] at q3 ⊢
  rw [hpq2] at q2 ⊢
  rw [hpq1] at q1 ⊢
  have hp1 : w.heap.size ≤ pq1 := by omega
  have hp2 : w.heap.size ≤ pq2 := by omega
  have hp3 : w.heap.size ≤ pq3 := by omega
  clear hpq1 hpq2 hpq3
  go_wp2_with (refine pause_at 9 rfl ?_)
  refine Paused.mk ?_
  refine wpList_load_row rfl 32 _ rfl _ rfl 32 _ (0, 0) _ (q1) Try.underlying32 rfl (by kernel_rfl) ?_
  go_wp2_with fail
  refine (CheckTube_any t Ab Ad cb cd _ hg).mono ?_
  rintro e V49 ⟨rfl, hV49⟩
  replace q1 := q1.below hV49 q1.lt
  replace q2 := q2.below hV49 q2.lt
  replace q3 := q3.below hV49 q3.lt
  replace hg := hg.go hV49
  have B_V49 := ex_trans hb1 hV49
  go_wp2
  go_ret2
  rw [HR.out.1, HR.out.2]
  exact ⟨rfl, B_V49⟩

end Go.Proofs.Ytkaogjhnogkcdaa
end

section
namespace Go.Proofs.Ytkaogjhnogkcdaa
open Go.RowKit
attribute [local go_sem] Ex.cell? Ex.frozen? Gx.cell?

theorem ice_row (a b c : Int) (j : Nat) (hj : j < 3) : (#[.int .i64 a, .int .i64 b, .int .i64 c] : Array Value)[j]? = some (fC [⟨a, b, c⟩] 0 j) := by
 match j, hj with
 | 0, _ => rfl
 | 1, _ => rfl
 | 2, _ => rfl
end Go.Proofs.Ytkaogjhnogkcdaa
end
