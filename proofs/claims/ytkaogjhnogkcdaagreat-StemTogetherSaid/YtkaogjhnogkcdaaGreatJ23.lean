/- Maps whose keys are told apart once: a range over one. · Mixed regions in the body of a range over a function. · A tree of orders in the body of a range over a function. · The law GlassMore (plain): one ice more, or read no worse. · The law GlassEnds (walk). -/
import Derived.Test.YtkaogjhnogkcdaaGreatJ22
import Derived.Test.YtkaogjhnogkcdaaGreatJ6
import Derived.Test.YtkaogjhnogkcdaaGreatJ13
import Derived.Test.YtkaogjhnogkcdaaGreatJ12
import Derived.Test.YtkaogjhnogkcdaaGreatJ11
import Derived.Test.YtkaogjhnogkcdaaGreatJ10
set_option linter.unusedVariables false
set_option linter.unusedSimpArgs false
set_option linter.unusedSectionVars false
section
namespace Go.Proofs.YtkaogjhnogkcdaaGreat
open Go.RowKit
section
variable {α β : Type} [DecidableEq α] {t : TypeId} {kV : α → Value} {vV : β → Value}
def MpN (kV : α → Value) (vV : β → Value) (W : World) (b : Nat) (L : List (α × β)) (F : α → Option β) : Prop := IsMp kV vV W b L ∧ (L.map (·.1)).Nodup ∧ ∀ s, mpGet s L = F s
theorem MpN.is {W : World} {b : Nat} {L : List (α × β)} {F : α → Option β} (h : MpN kV vV W b L F) : MpIs kV vV W b F := ⟨L, h.1, h.2.2⟩
theorem MpN.new (W : World) {g : Nat} (hg : W.heap.size = g) : MpN kV vV (W.alloc (.map #[] 0)) g [] (fun _ => none) := ⟨IsMp.new W hg, by simp, fun _ => rfl⟩
theorem MpN.of_block {W W' : World} {b : Nat} {L : List (α × β)} {F : α → Option β} (h : MpN kV vV W b L F) (hb : W'.heap[b]? = W.heap[b]?) : MpN kV vV W' b L F := ⟨h.1.of_block hb, h.2⟩
theorem mpGet_nodup {s : α} {v : β} : ∀ {L : List (α × β)}, (L.map (·.1)).Nodup → (s, v) ∈ L → mpGet s L = some v
  | [], _, h => by cases h
  | p :: L, hn, h => by
    rw [List.map_cons, List.nodup_cons] at hn
    rw [mpGet_cons]
    rcases List.mem_cons.1 h with h | h
    · subst h; simp
    · rw [if_neg (fun e => hn.1 (by rw [e]; exact List.mem_map.2 ⟨_, h, rfl⟩))]
      exact mpGet_nodup hn.2 h
theorem MpN.mem {W : World} {b : Nat} {L : List (α × β)} {F : α → Option β} (h : MpN kV vV W b L F) {s : α} {v : β} : (s, v) ∈ L ↔ F s = some v := by
  rw [← h.2.2 s]
  exact ⟨mpGet_nodup h.2.1, mpGet_mem⟩
theorem mpGet_key {s : α} : ∀ {L : List (α × β)}, mpGet s L = none → s ∉ L.map (·.1)
  | [], _ => by simp
  | p :: L, h => by
    rw [mpGet_cons] at h
    split at h
    · cases h
    · rename_i hne
      rw [List.map_cons, List.mem_cons]
      rintro (e | e)
      · exact hne e.symm
      · exact mpGet_key h e
theorem MpN.put {mt et : TypeId} (hm : Tryz.prog.underlying mt = some (.map t et)) (hk : KeyFd t kV) {W : World} {b : Nat} {L : List (α × β)} {F : α → Option β} (h : MpN kV vV W b L F) (s : α) (v : β) :
    ∃ o L', (Instr.mapUpdate mt (.map (some b)) (kV s) (vV v)).run Tryz.prog W = .ok () (W.putObj b o) ∧ MpN kV vV (W.putObj b o) b L' (fun x => if x = s then some v else F x) := by
  obtain ⟨h1, hnd, h2⟩ := h
  cases hg : mpGet s L with
  | none =>
    refine ⟨.map (mkE kV vV (L ++ [(s, v)])) (L ++ [(s, v)]).length, L ++ [(s, v)], ?_, World.putObj_heap_same h1.lt, ?_, fun x => by rw [mpGet_push hg, h2]⟩
    · unfold Instr.mapUpdate
      simp only [Sem.run_bind, run_underlying hm, Result.andThen_ok, mpGetObj h1, hk.check, hk.find, mpGet_none hg]
      simp only [Option.map_none]
      rw [mkE_push, mpSetObj _ h1]
      simp
    · rw [List.map_append, List.nodup_append]
      refine ⟨hnd, by simp, fun a ha c hc => ?_⟩
      simp only [List.map_cons, List.map_nil, List.mem_singleton] at hc
      subst hc
      rintro rfl
      exact mpGet_key hg ha
  | some u =>
    obtain ⟨i, hi⟩ := mpGet_some hg
    obtain ⟨_, hL⟩ := mpAt_at hi
    have hset := mpGet_set (v := v) hi
    simp only [Nat.sub_zero] at hL hset
    refine ⟨.map (mkE kV vV (L.set i (s, v))) (L.set i (s, v)).length, L.set i (s, v), ?_, World.putObj_heap_same h1.lt, ?_, fun x => by rw [hset, h2]⟩
    · unfold Instr.mapUpdate
      simp only [Sem.run_bind, run_underlying hm, Result.andThen_ok, mpGetObj h1, hk.check, hk.find, hi]
      simp only [Option.map_some]
      have hkey : (((mkE kV vV L)[i]?).map (·.key)).getD (kV s) = kV s := by
        have : (mkE kV vV L)[i]? = some { key := kV s, val := vV u, born := i } := by
          simp [mkE, List.getElem?_zipIdx, hL]
        rw [this]; rfl
      rw [hkey]
      simp only [Sem.run_bind, hk.stays, Result.andThen_ok]
      rw [mkE_set, mpSetObj _ h1]
      simp
    · have : (L.set i (s, v)).map (·.1) = L.map (·.1) := by
        rw [List.map_set]
        refine List.ext_getElem? fun j => ?_
        rw [List.getElem?_set]
        split
        · rename_i e
          subst e
          split
          · simp [hL]
          · rename_i h'
            rw [List.getElem?_eq_none (by omega)]
        · rfl
      rw [this]; exact hnd

theorem run_range_mp {mt et : TypeId} (hm : Tryz.prog.underlying mt = some (.map t et)) {W : World} {b : Nat} {L : List (α × β)} (h : IsMp kV vV W b L) : (Instr.range mt (.map (some b))).run Tryz.prog W = .ok (.pointer (some ⟨W.heap.size, 0, none⟩)) (W.alloc (.mapIter (some b) L.length #[] L.length)) := by
  unfold Instr.range
  simp only [Sem.run_bind, run_underlying hm, Result.andThen_ok, mpGetObj h, Sem.run_pure, run_newObj_alloc]

def IterM (W : World) (r b : Nat) (n : Nat) (sn : List Nat) : Prop := W.heap[r]? = some (.mapIter (some b) n sn.toArray n) ∧ ∀ i ∈ sn, i < n
theorem IterM.lt {W : World} {r b n : Nat} {sn : List Nat} (h : IterM W r b n sn) : r < W.heap.size := (Array.getElem?_eq_some_iff.1 h.1).1
theorem IterM.of_block {W W' : World} {r b n : Nat} {sn : List Nat} (h : IterM W r b n sn) (hb : W'.heap[r]? = W.heap[r]?) : IterM W' r b n sn := ⟨hb.trans h.1, h.2⟩
theorem IterM.new (W : World) (b n : Nat) {r : Nat} (hr : W.heap.size = r) : IterM (W.alloc (.mapIter (some b) n #[] n)) r b n [] := by
  subst hr; exact ⟨World.alloc_heap_new W _, fun _ h => by cases h⟩
def leftM (n : Nat) (sn : List Nat) : Nat := ((List.range n).filter fun i => !sn.contains i).length
theorem leftM_lt {n : Nat} {sn : List Nat} {i : Nat} (hi : i < n) (hn : i ∉ sn) : leftM n (sn ++ [i]) < leftM n sn := by
  unfold leftM
  rw [← List.countP_eq_length_filter, ← List.countP_eq_length_filter]
  have h1 : (List.range n).countP (fun j => !(sn ++ [i]).contains j) + 1 ≤ (List.range n).countP (fun j => !sn.contains j) := by
    have hmem : i ∈ List.range n := List.mem_range.2 hi
    obtain ⟨a, b, hab⟩ := List.append_of_mem hmem
    rw [hab]
    simp only [List.countP_append, List.countP_cons]
    have m1 : ∀ l : List Nat, l.countP (fun j => !(sn ++ [i]).contains j) ≤ l.countP (fun j => !sn.contains j) := fun l => List.countP_mono_left fun j _ hj => by
      simp at hj ⊢; exact hj.1
    have q1 := m1 a
    have q2 := m1 b
    have e1 : (!(sn ++ [i]).contains i) = false := by simp
    have e2 : (!sn.contains i) = true := by simp [hn]
    simp only [e1, e2, if_true, Bool.false_eq_true, if_false]
    omega
  omega
theorem mkE_get {L : List (α × β)} {i : Nat} (hi : i < L.length) : (mkE kV vV L)[i]? = some { key := kV L[i].1, val := vV L[i].2, born := i } := by
  simp [mkE, List.getElem?_zipIdx, hi]

theorem next_mp {W : World} {r b : Nat} {L : List (α × β)} {sn : List Nat} (hm : IsMp kV vV W b L) (h : IterM W r b L.length sn) (ty : TypeId) :
    ((∀ i, i < L.length → i ∈ sn) ∧ (Instr.next (.pointer (some ⟨r, 0, none⟩)) false ty).run Tryz.prog W = .ok (.tuple #[.bool false]) W) ∨
    ∃ i, ∃ hi : i < L.length, i ∉ sn ∧ ∃ W1, IterM W1 r b L.length (sn ++ [i]) ∧ W.grownBy W1 (some r) ∧ W1.heap.size = W.heap.size ∧
      (Instr.next (.pointer (some ⟨r, 0, none⟩)) false ty).run Tryz.prog W = .ok (.tuple #[.bool true, kV L[i].1, vV L[i].2]) W1 ∧
      (Instr.entry (.pointer (some ⟨r, 0, none⟩))).run Tryz.prog W1 = .ok (.tuple #[kV L[i].1, vV L[i].2]) W1 := by
  have hborn : ∀ x ∈ (mkE kV vV L).toList, ∃ i, ∃ hi : i < L.length, x = { key := kV L[i].1, val := vV L[i].2, born := i } := by
    intro x hx
    obtain ⟨i, hi, e⟩ := List.getElem_of_mem hx
    have hi' : i < L.length := by simpa [mkE] using hi
    exact ⟨i, hi', by rw [← e]; simp [mkE]⟩
  rcases run_next_at (P := Tryz.prog) W ty r b L.length L.length sn.toArray (mkE kV vV L) L.length h.1 hm (fun x hx => by obtain ⟨i, hi, e⟩ := hborn x hx; rw [e]; exact hi) (Nat.le_refl _) with ⟨h0, hrun⟩ | ⟨e, he, w1, hw1, hrun⟩
  · left
    refine ⟨fun i hi => ?_, hrun⟩
    by_cases hc : i ∈ sn
    · exact hc
    · have : ({ key := kV L[i].1, val := vV L[i].2, born := i } : MapEntry) ∈ (leftOf (mkE kV vV L) sn.toArray).toList := by
        unfold leftOf
        simp only [Array.toList_filter, List.mem_filter]
        refine ⟨?_, by simpa using hc⟩
        have := mkE_get (kV := kV) (vV := vV) hi
        exact Array.mem_toList_iff.2 (Array.mem_of_getElem? this)
      have hl : (leftOf (mkE kV vV L) sn.toArray).toList.length = 0 := by simpa using h0
      rw [List.length_eq_zero_iff.1 hl] at this
      cases this
  · right
    have he' : e ∈ (mkE kV vV L).toList ∧ sn.contains e.born = false := by
      unfold leftOf at he
      simp only [Array.toList_filter, List.mem_filter] at he
      exact ⟨he.1, by simpa using he.2⟩
    obtain ⟨i, hi, hee⟩ := hborn e he'.1
    have hni : i ∉ sn := by have := he'.2; rw [hee] at this; simpa using this
    have hr1 : w1.heap[r]? = W.heap[r]? ∧ w1.heap = W.heap ∧ w1.os = W.os ∧ w1.tape = W.tape ∧ w1.output = W.output := by rcases hw1 with rfl | rfl <;> exact ⟨rfl, rfl, rfl, rfl, rfl⟩
    refine ⟨i, hi, hni, Go.ChangeMaps.setBlock w1 r (.mapIter (some b) L.length (sn.toArray.push e.born) L.length), ⟨?_, ?_⟩, ⟨?_, ?_, ?_, ?_, ?_⟩, ?_, ?_, ?_⟩
    · have hlt := h.lt
      subst hee
      simp [Go.ChangeMaps.setBlock, hr1.2.1, hlt]
    · intro j hj
      rcases List.mem_append.1 hj with hj | hj
      · exact h.2 j hj
      · rw [List.mem_singleton.1 hj]; exact hi
    · exact hr1.2.2.1
    · exact hr1.2.2.2.1
    · exact hr1.2.2.2.2
    · simp [Go.ChangeMaps.setBlock, hr1.2.1]
    · intro k hk hne
      have : r ≠ k := fun e => hne (by rw [e])
      simp [Go.ChangeMaps.setBlock, hr1.2.1, Array.getElem?_setIfInBounds, this]
    · simp [Go.ChangeMaps.setBlock, hr1.2.1]
    · rw [hrun, hee]
    · have hb1 : (Go.ChangeMaps.setBlock w1 r (.mapIter (some b) L.length (sn.toArray.push e.born) L.length)).heap[b]? = some (.map (mkE kV vV L) L.length) := by
        have hne : r ≠ b := fun e => by
          have h1 := h.1; rw [e] at h1
          have h2 : W.heap[b]? = some (.map (mkE kV vV L) L.length) := hm
          rw [h2] at h1; cases h1
        simp [Go.ChangeMaps.setBlock, hr1.2.1, Array.getElem?_setIfInBounds, hne]
        exact hm
      have hr2 : (Go.ChangeMaps.setBlock w1 r (.mapIter (some b) L.length (sn.toArray.push e.born) L.length)).heap[r]? = some (.mapIter (some b) L.length (sn.toArray.push e.born) L.length) := by
        have hlt := h.lt
        simp [Go.ChangeMaps.setBlock, hr1.2.1, hlt]
      have := run_entry_at (P := Tryz.prog) _ r b L.length sn.toArray (mkE kV vV L) L.length e hr2 hb1 he'.1 (by
        have : (mkE kV vV L).toList.map (·.born) = List.range L.length := by
          apply List.ext_getElem
          · simp [mkE]
          · intro j h1 h2; simp [mkE]
        rw [this]; exact List.nodup_range)
      rw [this, hee]
end
end Go.Proofs.YtkaogjhnogkcdaaGreat
end

section
namespace Go.Proofs.YtkaogjhnogkcdaaGreat
open Go.RowKit
end Go.Proofs.YtkaogjhnogkcdaaGreat
end

section
namespace Go.Proofs.YtkaogjhnogkcdaaGreat
open Go.RowKit
theorem wpIn_region_tq {P : Program} {Q : Exit → Act → World → Prop} {id l0 nn : Nat} {a : Act} {w : World} {l : List Oper} (n : Nat) (t : Tq) (S : World → Prop) (hm : P.follows .mixedOrders = true)
    (hB : (tqeB .any l.toArray n t && decide (t.len = n)) = true) (hnd : noDefer l = true) (hout : ¬ LetsOut Q) (hQ : ∀ d v c a w, Q (.panic c) (a.put d v) w → Q (.panic c) a w)
    (hS : S w.drew) (h : wqTree P l Q S n t a w.drew) : (Code.region id l.toArray true).wpIn (Fence.wide.inRound l0) nn P Q a w := by
  simp only [tqeB, Bool.and_eq_true, decide_eq_true_eq] at hB
  obtain ⟨⟨⟨⟨⟨hsel, hn⟩, hs⟩, hc⟩, hlex⟩, hlen⟩ := hB
  have hdl : (l.drop n).length = l.toArray.size - n := by simp
  have inv0 : HeadInv .any l.toArray n (Array.replicate l.toArray.size false) :=
    ⟨by simp, fun j oj _ hl => (by rw [getD_replicate_false] at hl; cases hl), fun t _ ht => getD_in (by simpa using ht) (getD_replicate_false _ _)⟩
  have H := tq_head (md := .any) (g := l.toArray.size - n) (T := fun a'' w'' => wpList P l.toArray Q (l.drop n) a'' w'') hsel hQ hs hc hn t _ a _ inv0 hlex hS h
  refine wpIn_region_any hm (wpAnyIn_of_wpAny hout (noDefer_spec hnd) _ _ _ _ ?_)
  have := wpAny_of_headH (g := l.toArray.size - n) (fun listed' a' w' hL => by
    have := wpAny_of_seq (md := .any) (l.drop n) n listed' a' w' (fun j => by simp [List.getElem?_drop]) (by rw [hdl]; exact hL.1) hL.2
    rwa [hdl] at this) _ _ _ _ H
  rw [hlen, show n + (l.toArray.size - n) = l.toArray.size by omega] at this
  exact this
theorem wpIn_region_ext_tq {P : Program} {Q : Exit → Act → World → Prop} {id l0 nn : Nat} {a : Act} {w : World} {l : List Oper} (n : Nat) (t : Tq) (hm : P.follows .mixedOrders = true)
    (hB : (tqeB .any l.toArray n t && decide (t.len = n)) = true) (hnd : noDefer l = true) (hout : ¬ LetsOut Q) (hQ : ∀ d v c a w, Q (.panic c) (a.put d v) w → Q (.panic c) a w)
    (h : wqTree P l Q (fun w' => ∃ x : Ex w, w' = x.W) n t a w.drew) : (Code.region id l.toArray true).wpIn (Fence.wide.inRound l0) nn P Q a w :=
  wpIn_region_tq n t _ hm hB hnd hout hQ (inEx (Below.refl w.heap.size w).drew) h
end Go.Proofs.YtkaogjhnogkcdaaGreat
end

section
namespace Go.Proofs.YtkaogjhnogkcdaaGreat
open Go.RowKit

def Finer (l x : List Ic) : Prop := l.length ≤ x.length ∧ ∀ j, j < l.length → (gC x j).day = (gC l j).day ∧ (gC x j).zero = (gC l j).zero ∧ (gC x j).err ≤ (gC l j).err
section
variable {g : Gl} {h : List Rg} {l x : List Ic}
theorem Finer.fits (hf : Finer l x) {o : Nat → Bool} {d z : Int} (hx : fitsB x o d z = true) : fitsB l o d z = true := by
 unfold fitsB at hx ⊢
 rw [allTo_iff] at hx ⊢
 intro k hk
 have h1 := hx k (by have := hf.1; omega)
 obtain ⟨e1, e2, e3⟩ := hf.2 k hk
 unfold fitOk at h1 ⊢
 rw [e1, e2] at h1
 revert h1
 cases hday : ((gC l k).day == d)
 ·
  simp
 ·
  cases o k
  ·
   simp only [Bool.true_and, Bool.not_false, Bool.not_not]
   rw [inB_iff, inB_iff]
   omega
  ·
   simp
theorem Finer.agree (hok : Ok g h) (hf : Finer l x) {o : Nat → Bool} (hx : agreeB g h x o = true) : agreeB g h l o = true := by
 obtain ⟨σ, p, f⟩ := (agree_iff hok).1 hx
 exact (agree_iff hok).2 ⟨σ, p, fun d hd => hf.fits (f d hd)⟩
theorem gC_take' {k j : Nat} (hj : j < k) : gC (l.take k) j = gC l j := by simp [gC, List.getElem?_take, hj]
theorem Finer.take (hf : Finer l x) (k : Nat) : Finer (l.take k) (x.take k) := by
 refine ⟨by rw [List.length_take, List.length_take]; have := hf.1; omega, fun j hj => ?_⟩
 rw [List.length_take] at hj
 rw [gC_take' (by omega), gC_take' (by omega)]
 exact hf.2 j (by omega)
theorem Finer.pre (k : Nat) : Finer (l.take k) l := by
 refine ⟨by rw [List.length_take]; omega, fun j hj => ?_⟩
 rw [List.length_take] at hj
 rw [gC_take' (by omega)]
 exact ⟨rfl, rfl, Int.le_refl _⟩
def MoreIs (n n' nl : Nat) (ev ev' s k t k' : Int) (r m : List Int) (zs zs' : List Rg) : Prop :=
 (ev = 0 ∧ ev' = 0 ∧ s = 7 ∧ t = 7 ∧ r = [] ∧ m = [] ∧ n = n' ∧ ∀ d, d < n → (gR zs d).lo ≤ (gR zs' d).lo ∧ (gR zs' d).hi ≤ (gR zs d).hi) ∨
 (ev = 0 ∧ ev' = 9 ∧ s = 7 ∧ t = 0 ∧ r = [] ∧ 0 < m.length ∧ m.length ≤ nl + 1) ∨
 (ev = 9 ∧ ev' = 9 ∧ s = 0 ∧ t = 0 ∧ k' ≤ k ∧ 0 < r.length ∧ r.length ≤ m.length ∧ m.length ≤ nl + 1)
end
end Go.Proofs.YtkaogjhnogkcdaaGreat
end

section
namespace Go.Proofs.YtkaogjhnogkcdaaGreat
open Go.RowKit
attribute [local go_sem] Ex.cell? Ex.frozen? Gx.cell?

end Go.Proofs.YtkaogjhnogkcdaaGreat
end
