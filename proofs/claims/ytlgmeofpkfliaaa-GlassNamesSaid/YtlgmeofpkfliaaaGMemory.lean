/- A region that draws its order, gone through as a tree with forks of two and of three (after XMT). · The law GlassMemory (plain): what a heat leaves. · The law GlassMemory (walk). · The row GlassMemory: a heat that sinks no deeper than the sink that is left changes no zero; a deeper one lets it be forgotten. -/
import Derived.WalkKit
import Derived.ProofKit
import Derived.OpenShut
import Derived.Test.YtlgmeofpkfliaaaGj
import Derived.Test.YtlgmeofpkfliaaaGLonger
import Derived.Test.YtlgmeofpkfliaaaGh
import Derived.Test.YtlgmeofpkfliaaaRows
import Derived.Test.YtlgmeofpkfliaaaGi
set_option linter.unusedVariables false
set_option linter.unusedSimpArgs false
set_option linter.unusedSectionVars false
section
namespace Go.Proofs.Ytlgmeofpkfliaaa
open Go.RowKit
/-- the order in which a region's operations are gone through. -/
inductive Tq where
  | done : Tq
  | quiet : Nat → Tq → Tq
  | loud : Nat → Tq → Tq
  | fork : Nat → Tq → Nat → Tq → Tq
  | fork3 : Nat → Tq → Nat → Tq → Nat → Tq → Tq
def Tq.len : Tq → Nat
  | .done => 0
  | .quiet _ t => t.len + 1
  | .loud _ t => t.len + 1
  | .fork _ t _ _ => t.len + 1
  | .fork3 _ t _ _ _ _ => t.len + 1
section
variable {P : Program} {ops : Array Oper} {md : Region.Mode} {S : World → Prop} {Q : Exit → Act → World → Prop}

def wqTr (P : Program) (ops : Array Oper) (Q : Exit → Act → World → Prop) (S : World → Prop) (T : Act → World → Prop) : Tq → Act → World → Prop
  | .done, a, w => T a w
  | .quiet k t, a, w => ∀ o, ops[k]? = some o → wpQuiet P ops S (fun a' => wqTr P ops Q S T t a' w) [o] a
  | .loud k t, a, w => wpOne P ops Q k (fun a' w' => S w' ∧ wqTr P ops Q S T t a' w') a w
  | .fork i t j u, a, w => wpOne P ops Q i (fun a' w' => S w' ∧ wqTr P ops Q S T t a' w') a w ∧ wpOne P ops Q j (fun a' w' => S w' ∧ wqTr P ops Q S T u a' w') a w
  | .fork3 i t j u k v, a, w => wpOne P ops Q i (fun a' w' => S w' ∧ wqTr P ops Q S T t a' w') a w ∧ wpOne P ops Q j (fun a' w' => S w' ∧ wqTr P ops Q S T u a' w') a w ∧ wpOne P ops Q k (fun a' w' => S w' ∧ wqTr P ops Q S T v a' w') a w

def tqB (md : Region.Mode) (ops : Array Oper) (n g : Nat) : Tq → Array Bool → Bool
  | .done, listed => Region.seqB md ops g n listed
  | .quiet k t, listed => decide (k < n) && ((Region.ready md ops listed).contains k && Region.free md ops listed k && (match ops[k]? with | some o => mute o.op | none => false)) && tqB md ops n g t (listed.setIfInBounds k true)
  | .loud k t, listed => decide (k < n) && decide (Region.ready md ops listed = [k]) && tqB md ops n g t (listed.setIfInBounds k true)
  | .fork i t j u, listed => decide (Region.ready md ops listed = [i, j]) && decide (i < n) && decide (j < n) && decide (t.len = u.len) && tqB md ops n g t (listed.setIfInBounds i true) && tqB md ops n g u (listed.setIfInBounds j true)
  | .fork3 i t j u k v, listed => decide (Region.ready md ops listed = [i, j, k]) && decide (i < n) && decide (j < n) && decide (k < n) && decide (t.len = u.len) && decide (t.len = v.len) && tqB md ops n g t (listed.setIfInBounds i true) && tqB md ops n g u (listed.setIfInBounds j true) && tqB md ops n g v (listed.setIfInBounds k true)

def tqeB (md : Region.Mode) (ops : Array Oper) (n : Nat) (t : Tq) : Bool :=
  Region.noSelect ops && decide (n < ops.size) && Region.sinkB md ops n && Region.chainB md ops n && tqB md ops n (ops.size - n) t (Array.replicate ops.size false)

theorem tq_head {n g : Nat} {T : Act → World → Prop} (hsel : Region.noSelect ops = true) (hQ : ∀ d v c a w, Q (.panic c) (a.put d v) w → Q (.panic c) a w)
    (hs : Region.sinkB md ops n = true) (hc : Region.chainB md ops n = true) (hn : n < ops.size) :
    ∀ (t : Tq) (listed : Array Bool) (a : Act) (w : World), HeadInv md ops n listed → tqB md ops n g t listed = true → S w →
      wqTr P ops Q S T t a w → wpAnyLH P md ops Q S n (fun listed' a' w' => Region.seqB md ops g n listed' = true ∧ T a' w') t.len listed a w
  | .done, listed, a, w, _, hB, _, h => ⟨hB, h⟩
  | .fork i t j u, listed, a, w, inv, hB, hS, h => by
    simp only [tqB, Bool.and_eq_true, decide_eq_true_eq] at hB
    obtain ⟨⟨⟨⟨⟨hr, hi⟩, hj⟩, hl⟩, hA⟩, hBB⟩ := hB
    refine ⟨by rw [hr]; simp, fun k hk => ?_⟩
    rw [hr] at hk
    rcases List.mem_cons.1 hk with rfl | hk
    · exact ⟨hi, wpOp_mono (fun a' w' h' => ⟨h'.1, tq_head hsel hQ hs hc hn t _ a' w' (inv.set (by rw [hr]; simp) hi) hA h'.1 h'.2⟩) (wpOp_one hn hi h.1)⟩
    · obtain rfl := List.mem_singleton.1 hk
      refine ⟨hj, wpOp_mono (fun a' w' h' => ⟨h'.1, ?_⟩) (wpOp_one hn hj h.2)⟩
      rw [hl]
      exact tq_head hsel hQ hs hc hn u _ a' w' (inv.set (by rw [hr]; simp) hj) hBB h'.1 h'.2
  | .fork3 i t j u l v, listed, a, w, inv, hB, hS, h => by
    simp only [tqB, Bool.and_eq_true, decide_eq_true_eq] at hB
    obtain ⟨⟨⟨⟨⟨⟨⟨⟨hr, hi⟩, hj⟩, hl⟩, hl1⟩, hl2⟩, hA⟩, hBB⟩, hC⟩ := hB
    refine ⟨by rw [hr]; simp, fun k hk => ?_⟩
    rw [hr] at hk
    rcases List.mem_cons.1 hk with rfl | hk
    · exact ⟨hi, wpOp_mono (fun a' w' h' => ⟨h'.1, tq_head hsel hQ hs hc hn t _ a' w' (inv.set (by rw [hr]; simp) hi) hA h'.1 h'.2⟩) (wpOp_one hn hi h.1)⟩
    · rcases List.mem_cons.1 hk with rfl | hk
      · refine ⟨hj, wpOp_mono (fun a' w' h' => ⟨h'.1, ?_⟩) (wpOp_one hn hj h.2.1)⟩
        show wpAnyLH P md ops Q S n _ t.len _ _ _
        rw [hl1]
        exact tq_head hsel hQ hs hc hn u _ a' w' (inv.set (by rw [hr]; simp) hj) hBB h'.1 h'.2
      · obtain rfl := List.mem_singleton.1 hk
        refine ⟨hl, wpOp_mono (fun a' w' h' => ⟨h'.1, ?_⟩) (wpOp_one hn hl h.2.2)⟩
        show wpAnyLH P md ops Q S n _ t.len _ _ _
        rw [hl2]
        exact tq_head hsel hQ hs hc hn v _ a' w' (inv.set (by rw [hr]; simp) hl) hC h'.1 h'.2
  | .loud k t, listed, a, w, inv, hB, hS, h => by
    simp only [tqB, Bool.and_eq_true, decide_eq_true_eq] at hB
    obtain ⟨⟨hk, hr⟩, hB'⟩ := hB
    have h' : wpOne P ops Q k (fun a' w' => S w' ∧ wqTr P ops Q S T t a' w') a w := h
    refine ⟨by rw [hr]; simp, fun x hx => ?_⟩
    rw [hr] at hx
    have hik : x = k := by simpa using hx
    subst hik
    exact ⟨hk, wpOp_mono (fun a' w' h' => ⟨h'.1, tq_head hsel hQ hs hc hn t _ a' w' (inv.set (by rw [hr]; simp) hk) hB' h'.1 h'.2⟩) (wpOp_one hn hk h')⟩
  | .quiet k t, listed, a, w, inv, hB, hS, h => by
    simp only [tqB, Bool.and_eq_true, decide_eq_true_eq] at hB
    obtain ⟨⟨hk, ⟨hr, hf⟩, hm⟩, hB'⟩ := hB
    obtain ⟨o, hk0⟩ : ∃ o, ops[k]? = some o := ⟨ops[k]'(by omega), by simp [show k < ops.size by omega]⟩
    simp only [hk0] at hm
    have h' : wpQuiet P ops S (fun a' => wqTr P ops Q S T t a' w) [o] a := h o hk0
    have hr' : k ∈ Region.ready md ops listed := by simpa using hr
    have hst : qOp P ops S k (wpQuiet P ops S (fun a' => wqTr P ops Q S T t a' w) []) a := by unfold qOp; simp only [hk0]; exact h'
    obtain ⟨v, hy, hK⟩ := yieldsIn_of_qOp hk0 hst
    exact wpAnyLH_first hk0 (Region.noSelect_spec hsel) (hQ _ _) hs hc hn hk (fun listed' a' w' hL => seqB_ready hL.1) t.len listed a w inv (Region.free_spec hk0 hf) hr' (mute_if hm hy) hS
      (tq_head hsel hQ hs hc hn t _ _ w (inv.set hr' hk) hB' hS hK)

/-- what is left of the region: a tree. -/
def wqTree (P : Program) (l : List Oper) (Q : Exit → Act → World → Prop) (S : World → Prop) (n : Nat) (t : Tq) (a : Act) (w : World) : Prop :=
  wqTr P l.toArray Q S (fun a'' w'' => wpList P l.toArray Q (l.drop n) a'' w'') t a w
theorem tq_done {l r : List Oper} {n : Nat} {a : Act} {w : World} (hr : l.drop n = r) (h : wpList P l.toArray Q r a w) : wqTree P l Q S n .done a w := by subst hr; exact h
theorem tq_loud {l : List Oper} {n k : Nat} {t : Tq} {o : Oper} {a : Act} {w : World} (ho : l[k]? = some o)
    (h : wpList P l.toArray (fun e a' w' => match e with | .normal => S w' ∧ wqTree P l Q S n t a' w' | e => Q e a' w') [o] a w) : wqTree P l Q S n (.loud k t) a w := by
  show wpOne P l.toArray Q k _ a w
  intro o' ho'
  have : o' = o := by rw [List.getElem?_toArray, ho] at ho'; exact (Option.some.inj ho').symm
  subst this
  exact h
theorem tq_quiet {l : List Oper} {n k : Nat} {t : Tq} {o : Oper} {a : Act} {w : World} (ho : l[k]? = some o)
    (h : wpQuiet P l.toArray S (fun a' => wqTree P l Q S n t a' w) [o] a) : wqTree P l Q S n (.quiet k t) a w := by
  intro o' ho'
  have : o' = o := by rw [List.getElem?_toArray, ho] at ho'; exact (Option.some.inj ho').symm
  subst this
  exact h
theorem tq_fork {l : List Oper} {n i j : Nat} {t u : Tq} {oi oj : Oper} {a : Act} {w : World} (hi : l[i]? = some oi) (hj : l[j]? = some oj)
    (h1 : wpList P l.toArray (fun e a' w' => match e with | .normal => S w' ∧ wqTree P l Q S n t a' w' | e => Q e a' w') [oi] a w)
    (h2 : wpList P l.toArray (fun e a' w' => match e with | .normal => S w' ∧ wqTree P l Q S n u a' w' | e => Q e a' w') [oj] a w) : wqTree P l Q S n (.fork i t j u) a w := by
  refine ⟨fun o' ho' => ?_, fun o' ho' => ?_⟩
  · have : o' = oi := by rw [List.getElem?_toArray, hi] at ho'; exact (Option.some.inj ho').symm
    subst this
    exact h1
  · have : o' = oj := by rw [List.getElem?_toArray, hj] at ho'; exact (Option.some.inj ho').symm
    subst this
    exact h2
theorem tq_fork3 {l : List Oper} {n i j k : Nat} {t u v : Tq} {oi oj ok : Oper} {a : Act} {w : World} (hi : l[i]? = some oi) (hj : l[j]? = some oj) (hk : l[k]? = some ok)
    (h1 : wpList P l.toArray (fun e a' w' => match e with | .normal => S w' ∧ wqTree P l Q S n t a' w' | e => Q e a' w') [oi] a w)
    (h2 : wpList P l.toArray (fun e a' w' => match e with | .normal => S w' ∧ wqTree P l Q S n u a' w' | e => Q e a' w') [oj] a w)
    (h3 : wpList P l.toArray (fun e a' w' => match e with | .normal => S w' ∧ wqTree P l Q S n v a' w' | e => Q e a' w') [ok] a w) : wqTree P l Q S n (.fork3 i t j u k v) a w := by
  refine ⟨fun o' ho' => ?_, fun o' ho' => ?_, fun o' ho' => ?_⟩
  · have : o' = oi := by rw [List.getElem?_toArray, hi] at ho'; exact (Option.some.inj ho').symm
    subst this
    exact h1
  · have : o' = oj := by rw [List.getElem?_toArray, hj] at ho'; exact (Option.some.inj ho').symm
    subst this
    exact h2
  · have : o' = ok := by rw [List.getElem?_toArray, hk] at ho'; exact (Option.some.inj ho').symm
    subst this
    exact h3
theorem wp_region_tq {id : Nat} {a : Act} {w : World} {l : List Oper} (n : Nat) (t : Tq) (S : World → Prop) (hm : P.follows .mixedOrders = true)
    (hB : (tqeB .any l.toArray n t && decide (t.len = n)) = true) (hQ : ∀ d v c a w, Q (.panic c) (a.put d v) w → Q (.panic c) a w)
    (hS : S w.drew) (h : wqTree P l Q S n t a w.drew) : (Code.region id l.toArray true).wp P Q a w := by
  simp only [tqeB, Bool.and_eq_true, decide_eq_true_eq] at hB
  obtain ⟨⟨⟨⟨⟨hsel, hn⟩, hs⟩, hc⟩, hlex⟩, hlen⟩ := hB
  have hdl : (l.drop n).length = l.toArray.size - n := by simp
  have inv0 : HeadInv .any l.toArray n (Array.replicate l.toArray.size false) :=
    ⟨by simp, fun j oj _ hl => (by rw [getD_replicate_false] at hl; cases hl), fun t _ ht => getD_in (by simpa using ht) (getD_replicate_false _ _)⟩
  have H := tq_head (md := .any) (g := l.toArray.size - n) (T := fun a'' w'' => wpList P l.toArray Q (l.drop n) a'' w'') hsel hQ hs hc hn t _ a _ inv0 hlex hS h
  refine wp_region_any hm ?_
  have := wpAny_of_headH (g := l.toArray.size - n) (fun listed' a' w' hL => by
    have := wpAny_of_seq (md := .any) (l.drop n) n listed' a' w' (fun j => by simp [List.getElem?_drop]) (by rw [hdl]; exact hL.1) hL.2
    rwa [hdl] at this) _ _ _ _ H
  rw [hlen, show n + (l.toArray.size - n) = l.toArray.size by omega] at this
  exact this
theorem wp_region_ext_tq {id : Nat} {a : Act} {w : World} {l : List Oper} (n : Nat) (t : Tq) (hm : P.follows .mixedOrders = true)
    (hB : (tqeB .any l.toArray n t && decide (t.len = n)) = true) (hQ : ∀ d v c a w, Q (.panic c) (a.put d v) w → Q (.panic c) a w)
    (h : wqTree P l Q (fun w' => ∃ x : Ex w, w' = x.W) n t a w.drew) : (Code.region id l.toArray true).wp P Q a w :=
  wp_region_tq n t _ hm hB hQ (inEx (Below.refl w.heap.size w).drew) h
end
end Go.Proofs.Ytlgmeofpkfliaaa
end

section
namespace Go.Proofs.Ytlgmeofpkfliaaa
open Go.RowKit

/-- any heats. -/
def wideH (n : Nat) : List Rg := List.replicate n ⟨0, 500⟩
theorem wideH_len {n : Nat} : (wideH n).length = n := by simp [wideH]
theorem wideH_at {n d : Nat} (hd : d < n) : gR (wideH n) d = ⟨0, 500⟩ := by simp [wideH, gR, hd]
/-- the heats with one forgotten; with all ahead of it forgotten. -/
def coldT (t : List Int) (d : Nat) : List Int := t.set d 0
def noneT (t : List Int) : Nat → List Int
  | 0 => t
  | k + 1 => (noneT t k).set k 0
theorem noneT_len {t : List Int} : ∀ {k : Nat}, (noneT t k).length = t.length
  | 0 => rfl
  | k + 1 => by rw [noneT, List.length_set, noneT_len]
theorem coldT_len {t : List Int} {d : Nat} : (coldT t d).length = t.length := by rw [coldT, List.length_set]
theorem gI_set {t : List Int} {d j : Nat} {x : Int} (hj : j < t.length) : gI (t.set d x) j = if d = j then x else gI t j := by
  simp only [gI, List.getD_eq_getElem?_getD, List.getElem?_set]
  by_cases h : d = j
  · subst h; simp [hj]
  · simp [h]
theorem coldT_at {t : List Int} {d j : Nat} (hj : j < t.length) : gI (coldT t d) j = if d = j then 0 else gI t j := gI_set hj
theorem noneT_at {t : List Int} {j : Nat} (hj : j < t.length) : ∀ {d : Nat}, gI (noneT t d) j = if j < d then 0 else gI t j
  | 0 => by simp [noneT]
  | d + 1 => by
    rw [noneT, gI_set (by rw [noneT_len]; exact hj), noneT_at hj]
    by_cases h1 : d = j
    · subst h1; simp
    · rw [if_neg h1]
      by_cases h2 : j < d
      · rw [if_pos h2, if_pos (by omega)]
      · rw [if_neg h2, if_neg (by omega)]
section
variable {g : Gl} {h : List Rg} {t1 t2 t3 : List Int}
theorem wide_lived (h1 : lived g h = 0) : lived g (wideH h.length) = 0 := by
  unfold lived at h1 ⊢
  split at h1
  · rename_i h2; exact absurd h1 h2
  · rename_i h2
    rw [if_neg h2, wideH_len]
    split at h1
    · cases h1
    · rename_i h3
      rw [if_neg h3]
      split at h1
      · cases h1
      · rename_i h4
        rw [if_neg]
        rintro (h5 | h5)
        · exact h4 (.inl h5)
        · have : allTo (heatOk (wideH h.length)) h.length = true := by
            rw [allTo_iff]
            intro k hk
            unfold heatOk
            rw [wideH_at hk]
            rfl
          rw [this] at h5; cases h5
theorem wide_truth (hok : Ok g h) (ht : truthB g h t1 t2 t3 = true) {t : List Int} (hl : t.length = h.length) (hb : ∀ d, d < h.length → gI t d = gI t1 d ∨ gI t d = 0) : truthB g (wideH h.length) t t2 t3 = true := by
  obtain ⟨⟨e1, e2, e3⟩, hd⟩ := truthB_iff.1 ht
  refine truthB_iff.2 ⟨⟨by rw [wideH_len]; exact hl, by rw [wideH_len]; exact e2, by rw [wideH_len]; exact e3⟩, fun d hd' => ?_⟩
  rw [wideH_len] at hd'
  obtain ⟨a1, a2, a3⟩ := dayOk_iff.1 (hd d hd')
  have h1 := hok.heats d hd'
  refine dayOk_iff.2 ⟨?_, a2, a3⟩
  rw [wideH_at hd']
  rcases hb d hd' with h | h <;> rw [h] <;> simp only <;> omega
theorem sinkTo_eq {t t' : List Int} {d n : Nat} (h0 : sinkTo g t t3 d = sinkTo g t' t3 d) (hj : ∀ j, d ≤ j → j < n → gI t j = gI t' j) : ∀ {i : Nat}, d ≤ i → i ≤ n → sinkTo g t t3 i = sinkTo g t' t3 i
  | 0, h1, _ => by
    have : d = 0 := by omega
    subst this; exact h0
  | i + 1, h1, h2 => by
    rcases Nat.lt_or_ge i d with hlt | hge
    · have : d = i + 1 := by omega
      subst this; exact h0
    · rw [sinkTo, sinkTo, sinkTo_eq h0 hj hge (by omega), hj i hge (by omega)]
theorem none_sink (h0 : sinks g 0 = 0) (hb : ∀ j, j < t1.length → 0 ≤ gI t3 j) {d : Nat} : ∀ {i : Nat}, i ≤ d → i ≤ t1.length → sinkTo g (noneT t1 d) t3 i = 0
  | 0, _, _ => rfl
  | i + 1, h1, h2 => by
    rw [sinkTo, none_sink h0 hb (by omega) (by omega), noneT_at (by omega), if_pos (by omega), h0]
    have := hb i (by omega)
    have := mx3_bd (0 - gI t3 i) 0 0
    omega
/-- GlassMemory. -/
theorem memory_all (hok : Ok g h) (ht : truthB g h t1 t2 t3 = true) (h0 : sinks g 0 = 0) {d i : Nat} (hd : d < h.length) (hdi : d ≤ i) (hi : i < h.length) :
    (sinks g (gI t1 d) ≤ g.base + riseTo t2 (d + 1) - zAt g (coldT t1 d) t2 t3 d → zAt g t1 t2 t3 i = zAt g (coldT t1 d) t2 t3 i) ∧
    (g.base + riseTo t2 (d + 1) - zAt g (coldT t1 d) t2 t3 d ≤ sinks g (gI t1 d) → zAt g t1 t2 t3 i = zAt g (noneT t1 d) t2 t3 i) := by
  obtain ⟨⟨e1, e2, e3⟩, hday⟩ := truthB_iff.1 ht
  have hb : ∀ j, j < t1.length → 0 ≤ gI t3 j := fun j hj => by
    have := (dayOk_iff.1 (hday j (by omega))).2.2
    have := hok.back
    omega
  have hc : sinkTo g (coldT t1 d) t3 d = sinkTo g t1 t3 d := sinkTo_eq (g := g) (t := coldT t1 d) (t' := t1) (t3 := t3) (d := 0) (n := d) rfl (fun j _ hj => (coldT_at (t := t1) (d := d) (j := j) (by omega)).trans (if_neg (by omega))) (Nat.zero_le _) (Nat.le_refl _)
  have hc1 : sinkTo g (coldT t1 d) t3 (d + 1) = mx3 (sinkTo g t1 t3 d - gI t3 d) 0 0 := by rw [sinkTo, hc, coldT_at (by omega), if_pos rfl, h0]
  have hz1 : sinkTo g t1 t3 (d + 1) = mx3 (sinkTo g t1 t3 d - gI t3 d) 0 (sinks g (gI t1 d)) := rfl
  have hn1 : sinkTo g (noneT t1 d) t3 (d + 1) = mx3 (0 - gI t3 d) 0 (sinks g (gI t1 d)) := by rw [sinkTo, none_sink h0 hb (Nat.le_refl _) (by omega), noneT_at (by omega), if_neg (by omega)]
  have b1 := mx3_bd (sinkTo g t1 t3 d - gI t3 d) 0 0
  have b2 := mx3_bd (sinkTo g t1 t3 d - gI t3 d) 0 (sinks g (gI t1 d))
  have b3 := mx3_bd (0 - gI t3 d) 0 (sinks g (gI t1 d))
  have b4 := hb d (by omega)
  have key1 : sinkTo g t1 t3 (d + 1) = sinkTo g (coldT t1 d) t3 (d + 1) → zAt g t1 t2 t3 i = zAt g (coldT t1 d) t2 t3 i := fun he => by
    unfold zAt
    rw [sinkTo_eq (t := t1) (t' := coldT t1 d) (d := d + 1) (n := h.length) he (fun j h1 h2 => by rw [coldT_at (t := t1) (d := d) (j := j) (by omega), if_neg (by omega)]) (by omega) (by omega)]
  have key2 : sinkTo g t1 t3 (d + 1) = sinkTo g (noneT t1 d) t3 (d + 1) → zAt g t1 t2 t3 i = zAt g (noneT t1 d) t2 t3 i := fun he => by
    unfold zAt
    rw [sinkTo_eq (t := t1) (t' := noneT t1 d) (d := d + 1) (n := h.length) he (fun j h1 h2 => by rw [noneT_at (t := t1) (d := d) (j := j) (by omega), if_neg (by omega)]) (by omega) (by omega)]
  constructor
  · intro h1
    unfold zAt at h1
    exact key1 (by omega)
  · intro h1
    unfold zAt at h1
    exact key2 (by omega)
end
end Go.Proofs.Ytlgmeofpkfliaaa
end

section
namespace Go.Proofs.Ytlgmeofpkfliaaa
open Go.RowKit
attribute [local go_sem] Ex.cell? Ex.frozen? Gx.cell?

theorem flat1 {l : List Int} : l.flatMap (fun n => [Value.int .i64 n]) = l.map (Value.int .i64) := by
  induction l with
  | nil => rfl
  | cons a l ih => rw [List.flatMap_cons, ih]; rfl
theorem cI_at (l : List Int) (k : Nat) (hk : k < l.length) (j : Nat) (hj : j < 1) : [Value.int .i64 l[k]][j]? = some (fI l k j) := by
  obtain rfl : j = 0 := by omega
  simp [fI, gI, hk]
theorem cI_one (c : Int) (u : Value) (hu : u ∈ [Value.int .i64 c]) : u.oneCell' = true := by
  rw [List.mem_singleton] at hu
  subst hu; rfl
/-- two boxes of a truth, made after V. -/
structure MP (V : World) (p q : Nat) (cp cq : Array Value) (W : World) : Prop where
  bv : Below V.heap.size V W
  hp : V.heap.size ≤ p
  hq : V.heap.size ≤ q
  hpq : p ≠ q
  bp : Blk W p 56 cp
  bq : Blk W q 56 cq
theorem MP.fr {V : World} {p q : Nat} {cp cq : Array Value} {W W' : World} {R : Nat → Prop} (h : MP V p q cp cq W) (hf : Fr R W W') (hR : ∀ x, R x → V.heap.size ≤ x ∧ x ≠ p ∧ x ≠ q) : MP V p q cp cq W' :=
  ⟨hf.toBelow h.bv h.bv.size (fun x hx => (hR x hx).1), h.hp, h.hq, h.hpq, h.bp.fr hf (fun hx => (hR p hx).2.1 rfl), h.bq.fr hf (fun hx => (hR q hx).2.2 rfl)⟩
theorem MP.below {V : World} {p q : Nat} {cp cq : Array Value} {W W' : World} (h : MP V p q cp cq W) (hb : Below W.heap.size W W') : MP V p q cp cq W' := h.fr (Fr.below (R := fun _ => False) hb) (fun _ hx => hx.elim)
theorem MP.setp {V : World} {p q : Nat} {u1 u2 u3 : Value} {cq : Array Value} {W : World} (h : MP V p q #[u1, u2, u3] cq W) (x : Value) : MP V p q #[x, u2, u3] cq (W.setCell ⟨p, 0, none⟩ x) := by
  have hf : Fr (fun b => b = p) W (W.setCell ⟨p, 0, none⟩ x) := (Fr.refl (fun b => b = p) W).andSet rfl
  have hb := h.bp.set_ 0 x
  simp only [List.setIfInBounds_toArray, List.set_cons_zero] at hb
  exact ⟨hf.toBelow h.bv h.bv.size (fun y hy => by rw [hy]; exact h.hp), h.hp, h.hq, h.hpq, hb, h.bq.fr hf (fun e => h.hpq e.symm)⟩
theorem MP.setq {V : World} {p q : Nat} {u1 u2 u3 : Value} {cp : Array Value} {W : World} (h : MP V p q cp #[u1, u2, u3] W) (x : Value) : MP V p q cp #[x, u2, u3] (W.setCell ⟨q, 0, none⟩ x) := by
  have hf : Fr (fun b => b = q) W (W.setCell ⟨q, 0, none⟩ x) := (Fr.refl (fun b => b = q) W).andSet rfl
  have hb := h.bq.set_ 0 x
  simp only [List.setIfInBounds_toArray, List.set_cons_zero] at hb
  exact ⟨hf.toBelow h.bv h.bv.size (fun y hy => by rw [hy]; exact h.hq), h.hp, h.hq, h.hpq, h.bp.fr hf (fun e => h.hpq e), hb⟩
theorem MP.fill {V : World} {p q : Nat} {a1 a2 a3 b1 b2 b3 u1 u2 u3 : Value} {W : World} (h : MP V p q #[a1, a2, a3] #[b1, b2, b3] W) :
    MP V p q #[u1, u2, u3] #[u1, u2, u3] ((((((W.setCell ⟨p, 0, none⟩ u1).setCell ⟨p, 1, none⟩ u2).setCell ⟨p, 2, none⟩ u3).setCell ⟨q, 0, none⟩ u1).setCell ⟨q, 1, none⟩ u2).setCell ⟨q, 2, none⟩ u3) := by
  have hf : Fr (fun b => b = p) W (((W.setCell ⟨p, 0, none⟩ u1).setCell ⟨p, 1, none⟩ u2).setCell ⟨p, 2, none⟩ u3) := (((Fr.refl (fun b => b = p) W).andSet rfl).andSet rfl).andSet rfl
  have hb := ((h.bp.set_ 0 u1).set_ 1 u2).set_ 2 u3
  simp only [List.setIfInBounds_toArray, List.set_cons_zero, List.set_cons_succ] at hb
  have h1 : MP V p q #[u1, u2, u3] #[b1, b2, b3] _ := ⟨hf.toBelow h.bv h.bv.size (fun y hy => by rw [hy]; exact h.hp), h.hp, h.hq, h.hpq, hb, h.bq.fr hf (fun e => h.hpq e.symm)⟩
  generalize ((W.setCell ⟨p, 0, none⟩ u1).setCell ⟨p, 1, none⟩ u2).setCell ⟨p, 2, none⟩ u3 = W1 at *
  have hf2 : Fr (fun b => b = q) W1 (((W1.setCell ⟨q, 0, none⟩ u1).setCell ⟨q, 1, none⟩ u2).setCell ⟨q, 2, none⟩ u3) := (((Fr.refl (fun b => b = q) W1).andSet rfl).andSet rfl).andSet rfl
  have hb2 := ((h1.bq.set_ 0 u1).set_ 1 u2).set_ 2 u3
  simp only [List.setIfInBounds_toArray, List.set_cons_zero, List.set_cons_succ] at hb2
  exact ⟨hf2.toBelow h1.bv h1.bv.size (fun y hy => by rw [hy]; exact h1.hq), h1.hp, h1.hq, h1.hpq, h1.bp.fr hf2 (fun e => h1.hpq e), hb2⟩

set_option maxRecDepth 100000 in
def MQ (Ah Ar A1 A2 A3 : Option Addr) (ch cr c1 c2 c3 : Nat) (h WD : List Rg) (t1 t2 t3 : List Int) (d : Nat) (w w3 V : World) (e : Exit) (a' : Act) (W' : World) : Prop :=
  e = .normal ∧ ∃ p q, MP V p q #[.slice A1 t1.length c1, .slice A2 t2.length c2, .slice A3 t3.length c3] #[.slice A1 t1.length c1, .slice A2 t2.length c2, .slice A3 t3.length c3] W' ∧ ∃ u : Nat → Value, a' = ⟨List.toArray (u 0 :: .slice Ah h.length ch :: u 2 :: u 3 :: .pointer (some ⟨w.heap.size, 0, none⟩) :: u 5 :: u 6 :: u 7 :: u 8 :: .pointer (some ⟨w3.heap.size, 0, none⟩) :: .int .i64 (d : Int) :: .slice Ar WD.length cr :: u 12 :: .pointer (some ⟨p, 0, none⟩) :: .pointer (some ⟨q, 0, none⟩) :: u 15 :: u 16 :: u 17 :: u 18 :: u 19 :: u 20 :: u 21 :: u 22 :: u 23 :: u 24 :: u 25 :: u 26 :: u 27 :: u 28 :: u 29 :: u 30 :: u 31 :: u 32 :: u 33 :: u 34 :: u 35 :: u 36 :: u 37 :: u 38 :: u 39 :: u 40 :: u 41 :: u 42 :: u 43 :: u 44 :: u 45 :: u 46 :: u 47 :: u 48 :: u 49 :: u 50 :: u 51 :: u 52 :: u 53 :: u 54 :: u 55 :: u 56 :: u 57 :: u 58 :: u 59 :: u 60 :: u 61 :: u 62 :: u 63 :: u 64 :: u 65 :: u 66 :: u 67 :: u 68 :: u 69 :: u 70 :: u 71 :: u 72 :: u 73 :: u 74 :: u 75 :: u 76 :: u 77 :: u 78 :: u 79 :: u 80 :: u 81 :: u 82 :: u 83 :: u 84 :: u 85 :: u 86 :: u 87 :: u 88 :: u 89 :: u 90 :: u 91 :: u 92 :: u 93 :: u 94 :: u 95 :: u 96 :: u 97 :: u 98 :: u 99 :: u 100 :: u 101 :: u 102 :: u 103 :: u 104 :: u 105 :: u 106 :: u 107 :: u 108 :: u 109 :: u 110 :: u 111 :: u 112 :: u 113 :: u 114 :: u 115 :: u 116 :: u 117 :: u 118 :: u 119 :: u 120 :: u 121 :: u 122 :: u 123 :: u 124 :: u 125 :: u 126 :: u 127 :: u 128 :: u 129 :: u 130 :: u 131 :: u 132 :: u 133 :: u 134 :: u 135 :: u 136 :: u 137 :: u 138 :: u 139 :: u 140 :: u 141 :: u 142 :: u 143 :: u 144 :: u 145 :: u 146 :: u 147 :: u 148 :: u 149 :: u 150 :: u 151 :: u 152 :: u 153 :: u 154 :: u 155 :: u 156 :: u 157 :: u 158 :: u 159 :: u 160 :: u 161 :: u 162 :: u 163 :: u 164 :: u 165 :: u 166 :: u 167 :: u 168 :: u 169 :: u 170 :: u 171 :: u 172 :: u 173 :: u 174 :: u 175 :: u 176 :: u 177 :: u 178 :: u 179 :: u 180 :: u 181 :: u 182 :: u 183 :: u 184 :: u 185 :: u 186 :: u 187 :: u 188 :: u 189 :: u 190 :: u 191 :: u 192 :: u 193 :: u 194 :: u 195 :: u 196 :: u 197 :: u 198 :: u 199 :: u 200 :: u 201 :: u 202 :: u 203 :: u 204 :: u 205 :: u 206 :: []), []⟩

set_option maxRecDepth 100000 in
set_option maxHeartbeats 6400000 in
theorem MemoryLaw_any (g : Gl) (Ab Ad Ah Aw : Option Addr) (cb cd ch cw : Nat) (h : List Rg) (ws : List Int) (w : World) (hg : GlIn w w.heap.size g Ab Ad) (hh : SlAt w w.heap.size 2 Ah h.length (fR h)) (hw : SlAt w w.heap.size 1 Aw ws.length (fU ws))
    (hwb : ∀ k, k < ws.length → 0 ≤ gI ws k ∧ gI ws k ≤ 65535) (hwl : ws.length ≤ maxLen) (m3 : Int) (hm3 : 0 ≤ m3 ∧ m3 ≤ 255) :
    Calls Try.prog 13 #[.agg #[.int .i64 g.base, .slice Ab g.bands.length cb, .slice Ad g.depths.length cd, .int .i64 g.blo, .int .i64 g.bhi], .slice Ah h.length ch, .slice Aw ws.length cw, .int .u8 m3] w fun e w' => e = .returned (.bool true) ∧ Below w.heap.size w w' := by
  obtain ⟨i0, hi0, hz0', hz1', hz2'⟩ := info_parts rgR_info
  have HI := Lib.hid hi0
  obtain ⟨j0, hj0, hy0', hy1', hy2'⟩ := info_parts int_info
  have HJ := Lib.hid hj0
  clear hi0 hj0
  have hb1 := ex_alloc (Below.refl w.heap.size w) (.cells #[.int .i64 g.base, .slice Ab g.bands.length cb, .slice Ad g.depths.length cd, .int .i64 g.blo, .int .i64 g.bhi] 27)
  have q1 : Blk (w.alloc (.cells #[.int .i64 g.base, .slice Ab g.bands.length cb, .slice Ad g.depths.length cd, .int .i64 g.blo, .int .i64 g.bhi] 27)) w.heap.size 27 #[.int .i64 g.base, .slice Ab g.bands.length cb, .slice Ad g.depths.length cd, .int .i64 g.blo, .int .i64 g.bhi] := Blk.new _ _ _
  cases hr : readyB g h
  · have HR := Lib.hid hr
    clear hr
    go_enter Try.func13, Try.ntmps13
    go_wp2_with fail
    refine (ready_any g _ _ _ _ _ _ h _ ((hg.below hb1).up hb1.size) ((hh.below hb1).up hb1.size)).mono ?_
    rintro e w2 ⟨rfl, hb2⟩
    rw [HR.out]
    go_wp2_with fail
    refine (awake_any _).mono ?_
    rintro e w3 ⟨rfl, hb3⟩
    go_wp2
    go_ret
    exact ⟨rfl, ex_trans (ex_trans hb1 hb2) hb3⟩
  have HR := Lib.hid hr
  unfold readyB at hr
  simp only [Bool.and_eq_true, decide_eq_true_eq] at hr
  obtain ⟨hth, hlv⟩ := hr
  obtain ⟨hnb, hnd, hnh, _⟩ := thinB_iff.1 hth
  have hok := ok_of_lived hlv
  have hpos := hok.nh.1
  have HK := Lib.hid hok
  have HLV := Lib.hid hlv
  clear hth hlv hok
  go_enter Try.func13, Try.ntmps13
  go_wp2_with fail
  refine (ready_any g _ _ _ _ _ _ h _ ((hg.below hb1).up hb1.size) ((hh.below hb1).up hb1.size)).mono ?_
  rintro e w2 ⟨rfl, hb2⟩
  have hB2 := ex_trans hb1 hb2
  rw [HR.out]
  have p1 := q1.below hb2 q1.lt
  clear q1
  have a0 : w2.cell? ⟨w.heap.size, 0, none⟩ = some (.int .i64 g.base) := p1.cell 0
  have a1 : w2.cell? ⟨w.heap.size, 1, none⟩ = some (.slice Ab g.bands.length cb) := p1.cell 1
  have a2 : w2.cell? ⟨w.heap.size, 2, none⟩ = some (.slice Ad g.depths.length cd) := p1.cell 2
  have a3 : w2.cell? ⟨w.heap.size, 3, none⟩ = some (.int .i64 g.blo) := p1.cell 3
  have a4 : w2.cell? ⟨w.heap.size, 4, none⟩ = some (.int .i64 g.bhi) := p1.cell 4
  have l1 := p1.lt
  obtain ⟨d, hd⟩ : ∃ d : Nat, m3 % (h.length : Int) = (d : Int) := ⟨(m3 % (h.length : Int)).toNat, by have := Int.emod_nonneg m3 (show (h.length : Int) ≠ 0 by omega); omega⟩
  have hdl : d < h.length := by have := Int.emod_lt_of_pos m3 (show (0 : Int) < (h.length : Int) by omega); omega
  have hd' : m3.tmod (h.length : Int) = (d : Int) := by rw [Int.tmod_eq_emod_of_nonneg hm3.1]; exact hd
  have hn0 : ((h.length : Int) == 0) = false := by rw [beq_eq_false_iff_ne]; omega
  have hn0' : (h.length == 0) = false := by rw [beq_eq_false_iff_ne]; omega
  have hn1 : (1 : Int) ≤ (h.length : Int) := by omega
  have hm30 := hm3.1
  have hm31 := hm3.2
  go_wp2_with fail
  refine (Picked_any g _ _ _ _ _ _ _ _ h ws w2 ((hg.below hB2).up hB2.size) ((hh.below hB2).up hB2.size) ((hw.below hB2).up hB2.size) hwb hwl HK.out).mono ?_
  rintro e w3 ⟨⟨A1, A2, A3, c1, c2, c3, t1, t2, t3, rfl, ht, k1, k2, k3⟩, hb3⟩
  have hB3 := ex_trans hB2 hb3
  have HT := Lib.hid ht
  have htl := (truthB_iff.1 ht).1
  have HTL := Lib.hid htl
  have ht1 : t1.length ≤ 20 := by omega
  have ht2 : t2.length ≤ 20 := by omega
  have ht3 : t3.length ≤ 20 := by omega
  have hdt1 : d < t1.length := by omega
  have hdt2 : d < t2.length := by omega
  replace p1 := p1.below hb3 l1
  clear a0 a1 a2 a3 a4 l1 ht htl
  have hb4 := ex_alloc (Below.refl w3.heap.size w3) (.cells #[.slice A1 t1.length c1, .slice A2 t2.length c2, .slice A3 t3.length c3] 56)
  have p2 : Blk (w3.alloc (.cells #[.slice A1 t1.length c1, .slice A2 t2.length c2, .slice A3 t3.length c3] 56)) w3.heap.size 56 #[.slice A1 t1.length c1, .slice A2 t2.length c2, .slice A3 t3.length c3] := Blk.new _ _ _
  replace p1 := p1.below hb4 p1.lt
  go_wp2_with fail
  clear hd hd' hn0 hn0' hn1
  have k1' := (k1.below hb4).up hb4.size
  have k2' := (k2.below hb4).up hb4.size
  have k3' := (k3.below hb4).up hb4.size
  have B0 := ex_trans hB3 hb4
  clear k1 k2 k3
  generalize w3.alloc (.cells #[.slice A1 t1.length c1, .slice A2 t2.length c2, .slice A3 t3.length c3] 56) = V at *
  refine wp_loop (fun a W => ∃ (k : Nat) (v : Value), k ≤ h.length ∧ Below V.heap.size V W ∧ W.ownsRow V.heap.size 25 2 v (wideH k).length ((wideH k).flatMap cR) ∧ ∃ u : Nat → Value, a = ⟨List.toArray (u 0 :: .slice Ah h.length ch :: u 2 :: u 3 :: .pointer (some ⟨w.heap.size, 0, none⟩) :: u 5 :: u 6 :: u 7 :: u 8 :: .pointer (some ⟨w3.heap.size, 0, none⟩) :: .int .i64 (d : Int) :: v :: .int .i64 (k : Int) :: u 13 :: u 14 :: u 15 :: u 16 :: u 17 :: u 18 :: u 19 :: u 20 :: u 21 :: u 22 :: u 23 :: u 24 :: u 25 :: u 26 :: u 27 :: u 28 :: u 29 :: u 30 :: u 31 :: u 32 :: u 33 :: u 34 :: u 35 :: u 36 :: u 37 :: u 38 :: u 39 :: u 40 :: u 41 :: u 42 :: u 43 :: u 44 :: u 45 :: u 46 :: u 47 :: u 48 :: u 49 :: u 50 :: u 51 :: u 52 :: u 53 :: u 54 :: u 55 :: u 56 :: u 57 :: u 58 :: u 59 :: u 60 :: u 61 :: u 62 :: u 63 :: u 64 :: u 65 :: u 66 :: u 67 :: u 68 :: u 69 :: u 70 :: u 71 :: u 72 :: u 73 :: u 74 :: u 75 :: u 76 :: u 77 :: u 78 :: u 79 :: u 80 :: u 81 :: u 82 :: u 83 :: u 84 :: u 85 :: u 86 :: u 87 :: u 88 :: u 89 :: u 90 :: u 91 :: u 92 :: u 93 :: u 94 :: u 95 :: u 96 :: u 97 :: u 98 :: u 99 :: u 100 :: u 101 :: u 102 :: u 103 :: u 104 :: u 105 :: u 106 :: u 107 :: u 108 :: u 109 :: u 110 :: u 111 :: u 112 :: u 113 :: u 114 :: u 115 :: u 116 :: u 117 :: u 118 :: u 119 :: u 120 :: u 121 :: u 122 :: u 123 :: u 124 :: u 125 :: u 126 :: u 127 :: u 128 :: u 129 :: u 130 :: u 131 :: u 132 :: u 133 :: u 134 :: u 135 :: u 136 :: u 137 :: u 138 :: u 139 :: u 140 :: u 141 :: u 142 :: u 143 :: u 144 :: u 145 :: u 146 :: u 147 :: u 148 :: u 149 :: u 150 :: u 151 :: u 152 :: u 153 :: u 154 :: u 155 :: u 156 :: u 157 :: u 158 :: u 159 :: u 160 :: u 161 :: u 162 :: u 163 :: u 164 :: u 165 :: u 166 :: u 167 :: u 168 :: u 169 :: u 170 :: u 171 :: u 172 :: u 173 :: u 174 :: u 175 :: u 176 :: u 177 :: u 178 :: u 179 :: u 180 :: u 181 :: u 182 :: u 183 :: u 184 :: u 185 :: u 186 :: u 187 :: u 188 :: u 189 :: u 190 :: u 191 :: u 192 :: u 193 :: u 194 :: u 195 :: u 196 :: u 197 :: u 198 :: u 199 :: u 200 :: u 201 :: u 202 :: u 203 :: u 204 :: u 205 :: u 206 :: []), []⟩)
    (fun a _ => h.length - (intOf (a.tmps.getD 12 undef)).toNat) ⟨0, _, by omega, Below.refl _ _, ⟨rfl, .inl ⟨rfl, rfl⟩⟩, exFrame (by kernel_rfl)⟩ ?_
  rintro a wr ⟨k, v, hk, hbl, hown, u, rfl⟩
  by_cases hlt : k < h.length
  · obtain ⟨Al, cl, rfl, _, _, _⟩ := own_R hown
    obtain ⟨LL, hLL⟩ : ∃ LL, LL = wideH k := ⟨_, rfl⟩
    have HLL := Lib.hid hLL
    have hLk : LL.length ≤ k := by rw [hLL, wideH_len]; exact Nat.le_refl _
    rw [← hLL] at hown
    rw [← hLL]
    clear hLL
    have hE := ex_alloc hbl (.cells #[.int .i64 0, .int .i64 500] 25)
    have ho2 := own_below hown ((Below.refl _ _).alloc (Nat.le_refl _) (.cells #[.int .i64 0, .int .i64 500] 25))
    go_wp2_with (at_builtin; refine wpList_append_list (f := cR) (F := fR) (sz := 2) cR_len cR_at cR_one rfl _ _ _ rfl V.heap.size 25 i0 _ 16 Try.underlying28 HI.out hz0' hz1' hz2' rfl (by omega) Al cl LL rfl ho2 (some ⟨wr.heap.size, 0, none⟩) 1 [⟨0, 500⟩] rfl (one_at (Blk.new _ _ _) (rg_row 0 500)) (by simp; unfold maxLen; omega) (by simp; omega) hE.size (wr.heap.size + 1) (by simp) ?_; intro X Bx kx v2 HX ox gx nx)
    have hbl3 : Below V.heap.size V v2 := hE.grown gx hE.size (fun j hj => own_ge ho2 hj)
    have hown3 : v2.ownsRow V.heap.size 25 2 (.slice Bx X.length kx) (wideH (k + 1)).length ((wideH (k + 1)).flatMap cR) := by
      have e : X = wideH (k + 1) := by rw [HX.out, HLL.out]; unfold wideH; rw [List.replicate_succ']
      rw [← e]; exact ox
    refine ⟨⟨k + 1, _, by omega, hbl3, hown3, exFrame (by kernel_rfl)⟩, ?_⟩
    show h.length - (intOf (.int .i64 ((k : Int) + 1))).toNat < h.length - (intOf (.int .i64 (k : Int))).toNat
    simp [intOf]
    omega
  have hkl : k = h.length := by omega
  subst hkl
  obtain ⟨Ar, cr, rfl, _, _, hsr⟩ := own_R hown
  obtain ⟨WD, hWD⟩ : ∃ WD, WD = wideH h.length := ⟨_, rfl⟩
  have HWD := Lib.hid hWD
  have hWl : WD.length ≤ 20 := by rw [hWD, wideH_len]; exact hnh
  have HWL := Lib.hid (show WD.length = h.length by rw [hWD, wideH_len])
  rw [← hWD] at hsr
  rw [← hWD]
  clear hWD hown
  replace p1 := p1.below hbl p1.lt
  replace p2 := p2.below hbl p2.lt
  have k1'' := (k1'.below hbl).up hbl.size
  have k2'' := (k2'.below hbl).up hbl.size
  have k3'' := (k3'.below hbl).up hbl.size
  have B1 := ex_trans B0 hbl
  clear k1' k2' k3'
  have d0 : wr.cell? ⟨w3.heap.size, 0, none⟩ = some (.slice A1 t1.length c1) := p2.cell 0
  have d1 : wr.cell? ⟨w3.heap.size, 1, none⟩ = some (.slice A2 t2.length c2) := p2.cell 1
  have d2 : wr.cell? ⟨w3.heap.size, 2, none⟩ = some (.slice A3 t3.length c3) := p2.cell 2
  have l2 := p2.lt
  go_wp2_with fail
  refine Code.wp_mono (Q := MQ Ah Ar A1 A2 A3 ch cr c1 c2 c3 h WD t1 t2 t3 d w w3 wr) ?_ ?_
  rotate_left
  · refine wp_region_ext_tq 5 (.quiet 0 (.fork3 1 (.fork 2 (.loud 3 (.loud 4 .done)) 3 (.loud 2 (.loud 4 .done))) 2 (.fork 1 (.loud 3 (.loud 4 .done)) 3 (.fork 1 (.loud 4 .done) 4 (.loud 1 .done))) 3 (.fork 1 (.loud 2 (.loud 4 .done)) 2 (.fork 1 (.loud 4 .done) 4 (.loud 1 .done))))) (by kernel_rfl) (by kernel_rfl) (by rintro d v c a w ⟨h, _⟩; cases h) ?_
    repeat (refine tq_quiet rfl ?_; go_big_quiet_step (fail); refine wpQuiet_nil ?_)
    have hW0 : Below wr.heap.size wr wr.drew := (Below.refl _ _).drew
    have hP : Below wr.heap.size wr (wr.alloc (.cells #[.slice none 0 0, .slice none 0 0, .slice none 0 0] 56)).drew := (ex_alloc (Below.refl _ _) _).drew
    have hP2 : Below wr.heap.size wr ((wr.alloc (.cells #[.slice none 0 0, .slice none 0 0, .slice none 0 0] 56)).alloc (.cells #[.slice none 0 0, .slice none 0 0, .slice none 0 0] 56)).drew := (ex_alloc (ex_alloc (Below.refl _ _) _) _).drew
    have hP3 : Below wr.heap.size wr ((wr.alloc (.cells #[.slice A1 t1.length c1, .slice A2 t2.length c2, .slice A3 t3.length c3] 56)).alloc (.cells #[.slice none 0 0, .slice none 0 0, .slice none 0 0] 56)).drew := (ex_alloc (ex_alloc (Below.refl _ _) _) _).drew
    have hP4 : Below wr.heap.size wr ((wr.alloc (.cells #[.slice none 0 0, .slice none 0 0, .slice none 0 0] 56)).alloc (.cells #[.slice A1 t1.length c1, .slice A2 t2.length c2, .slice A3 t3.length c3] 56)).drew := (ex_alloc (ex_alloc (Below.refl _ _) _) _).drew
    have hY : Below wr.heap.size wr ((wr.alloc (.cells #[.slice A1 t1.length c1, .slice A2 t2.length c2, .slice A3 t3.length c3] 56)).alloc (.cells #[.slice A1 t1.length c1, .slice A2 t2.length c2, .slice A3 t3.length c3] 56)).drew := (ex_alloc (ex_alloc (Below.refl _ _) _) _).drew
    have ya : Blk ((wr.alloc (.cells #[.slice A1 t1.length c1, .slice A2 t2.length c2, .slice A3 t3.length c3] 56)).alloc (.cells #[.slice A1 t1.length c1, .slice A2 t2.length c2, .slice A3 t3.length c3] 56)).drew wr.heap.size 56 #[.slice A1 t1.length c1, .slice A2 t2.length c2, .slice A3 t3.length c3] := ((Blk.new _ _ _).alloc _).drew
    have yb : Blk ((wr.alloc (.cells #[.slice A1 t1.length c1, .slice A2 t2.length c2, .slice A3 t3.length c3] 56)).alloc (.cells #[.slice A1 t1.length c1, .slice A2 t2.length c2, .slice A3 t3.length c3] 56)).drew (wr.heap.size + 1) 56 #[.slice A1 t1.length c1, .slice A2 t2.length c2, .slice A3 t3.length c3] := (Blk.new' _ _ _ (by simp)).drew
    refine tq_fork3 rfl rfl rfl ?_ ?_ ?_
    · go_wp2_with fail
      refine ⟨inEx (by first | exact hW0 | exact hP | exact hP2 | exact hP3 | exact hP4), ?_⟩
      refine tq_fork rfl rfl ?_ ?_
      · go_wp2_with fail
        refine ⟨inEx (by first | exact hW0 | exact hP | exact hP2 | exact hP3 | exact hP4), ?_⟩
        refine tq_loud rfl ?_
        go_wp2_with fail
        refine ⟨inEx (by first | exact hW0 | exact hP | exact hP2 | exact hP3 | exact hP4), ?_⟩
        refine tq_loud rfl ?_
        go_wp2_with fail
        refine ⟨inEx (by first | exact hW0 | exact hP | exact hP2 | exact hP3 | exact hP4), ?_⟩
        refine tq_done (r := [_]) rfl ?_
        go_wp2
        exact ⟨rfl, wr.heap.size, (wr.heap.size + 1), ⟨hY, by omega, by omega, by omega, ya, yb⟩, exFrame' (by kernel_rfl)⟩
      · go_wp2_with fail
        refine ⟨inEx (by first | exact hW0 | exact hP | exact hP2 | exact hP3 | exact hP4), ?_⟩
        refine tq_loud rfl ?_
        go_wp2_with fail
        refine ⟨inEx (by first | exact hW0 | exact hP | exact hP2 | exact hP3 | exact hP4), ?_⟩
        refine tq_loud rfl ?_
        go_wp2_with fail
        refine ⟨inEx (by first | exact hW0 | exact hP | exact hP2 | exact hP3 | exact hP4), ?_⟩
        refine tq_done (r := [_]) rfl ?_
        go_wp2
        exact ⟨rfl, (wr.heap.size + 1), wr.heap.size, ⟨hY, by omega, by omega, by omega, yb, ya⟩, exFrame' (by kernel_rfl)⟩
    · go_wp2_with fail
      refine ⟨inEx (by first | exact hW0 | exact hP | exact hP2 | exact hP3 | exact hP4), ?_⟩
      refine tq_fork rfl rfl ?_ ?_
      · go_wp2_with fail
        refine ⟨inEx (by first | exact hW0 | exact hP | exact hP2 | exact hP3 | exact hP4), ?_⟩
        refine tq_loud rfl ?_
        go_wp2_with fail
        refine ⟨inEx (by first | exact hW0 | exact hP | exact hP2 | exact hP3 | exact hP4), ?_⟩
        refine tq_loud rfl ?_
        go_wp2_with fail
        refine ⟨inEx (by first | exact hW0 | exact hP | exact hP2 | exact hP3 | exact hP4), ?_⟩
        refine tq_done (r := [_]) rfl ?_
        go_wp2
        exact ⟨rfl, wr.heap.size, (wr.heap.size + 1), ⟨hY, by omega, by omega, by omega, ya, yb⟩, exFrame' (by kernel_rfl)⟩
      · go_wp2_with fail
        refine ⟨inEx (by first | exact hW0 | exact hP | exact hP2 | exact hP3 | exact hP4), ?_⟩
        refine tq_fork rfl rfl ?_ ?_
        · go_wp2_with fail
          refine ⟨inEx (by first | exact hW0 | exact hP | exact hP2 | exact hP3 | exact hP4), ?_⟩
          refine tq_loud rfl ?_
          go_wp2_with fail
          refine ⟨inEx (by first | exact hW0 | exact hP | exact hP2 | exact hP3 | exact hP4), ?_⟩
          refine tq_done (r := [_]) rfl ?_
          go_wp2
          exact ⟨rfl, wr.heap.size, (wr.heap.size + 1), ⟨hY, by omega, by omega, by omega, ya, yb⟩, exFrame' (by kernel_rfl)⟩
        · go_wp2_with fail
          refine ⟨inEx (by first | exact hW0 | exact hP | exact hP2 | exact hP3 | exact hP4), ?_⟩
          refine tq_loud rfl ?_
          go_wp2_with fail
          refine ⟨inEx (by first | exact hW0 | exact hP | exact hP2 | exact hP3 | exact hP4), ?_⟩
          refine tq_done (r := [_]) rfl ?_
          go_wp2
          exact ⟨rfl, wr.heap.size, (wr.heap.size + 1), ⟨hY, by omega, by omega, by omega, ya, yb⟩, exFrame' (by kernel_rfl)⟩
    · go_wp2_with fail
      refine ⟨inEx (by first | exact hW0 | exact hP | exact hP2 | exact hP3 | exact hP4), ?_⟩
      refine tq_fork rfl rfl ?_ ?_
      · go_wp2_with fail
        refine ⟨inEx (by first | exact hW0 | exact hP | exact hP2 | exact hP3 | exact hP4), ?_⟩
        refine tq_loud rfl ?_
        go_wp2_with fail
        refine ⟨inEx (by first | exact hW0 | exact hP | exact hP2 | exact hP3 | exact hP4), ?_⟩
        refine tq_loud rfl ?_
        go_wp2_with fail
        refine ⟨inEx (by first | exact hW0 | exact hP | exact hP2 | exact hP3 | exact hP4), ?_⟩
        refine tq_done (r := [_]) rfl ?_
        go_wp2
        exact ⟨rfl, (wr.heap.size + 1), wr.heap.size, ⟨hY, by omega, by omega, by omega, yb, ya⟩, exFrame' (by kernel_rfl)⟩
      · go_wp2_with fail
        refine ⟨inEx (by first | exact hW0 | exact hP | exact hP2 | exact hP3 | exact hP4), ?_⟩
        refine tq_fork rfl rfl ?_ ?_
        · go_wp2_with fail
          refine ⟨inEx (by first | exact hW0 | exact hP | exact hP2 | exact hP3 | exact hP4), ?_⟩
          refine tq_loud rfl ?_
          go_wp2_with fail
          refine ⟨inEx (by first | exact hW0 | exact hP | exact hP2 | exact hP3 | exact hP4), ?_⟩
          refine tq_done (r := [_]) rfl ?_
          go_wp2
          exact ⟨rfl, (wr.heap.size + 1), wr.heap.size, ⟨hY, by omega, by omega, by omega, yb, ya⟩, exFrame' (by kernel_rfl)⟩
        · go_wp2_with fail
          refine ⟨inEx (by first | exact hW0 | exact hP | exact hP2 | exact hP3 | exact hP4), ?_⟩
          refine tq_loud rfl ?_
          go_wp2_with fail
          refine ⟨inEx (by first | exact hW0 | exact hP | exact hP2 | exact hP3 | exact hP4), ?_⟩
          refine tq_done (r := [_]) rfl ?_
          go_wp2
          exact ⟨rfl, (wr.heap.size + 1), wr.heap.size, ⟨hY, by omega, by omega, by omega, yb, ya⟩, exFrame' (by kernel_rfl)⟩
  rintro e a' M0 ⟨rfl, p, q, hM0, u, rfl⟩
  clear d0 d1 d2 l2
  have p2' := p2.below hM0.bv p2.lt
  have d0 : M0.cell? ⟨w3.heap.size, 0, none⟩ = some (.slice A1 t1.length c1) := p2'.cell 0
  have l2 := p2'.lt
  have s1 := (k1''.below hM0.bv).up hM0.bv.size
  have hwrM := hM0.bv.size
  have hE := ex_alloc (Below.refl M0.heap.size M0) (.cells #[] 3)
  have lp := hM0.bp.lt
  have lq := hM0.bq.lt
  go_wp2_with (first | (at_builtin; refine wpList_append_list (f := fun n => [Value.int .i64 n]) (F := fI) (sz := 1) (fun _ => rfl) cI_at cI_one rfl _ _ _ rfl M0.heap.size 3 j0 _ 8 Try.underlying54 HJ.out hy0' hy1' hy2' rfl (by omega) (some ⟨M0.heap.size, 0, none⟩) 0 [] rfl (own_empty (Blk.new _ _ _) (Nat.le_refl _)) A1 c1 t1 rfl ((s1.below hE).up hE.size) (by simp; unfold maxLen; omega) (by simp; omega) hE.size (M0.heap.size + 1) (by simp) ?_; intro L1 Ay cy v1 HL1 o1 g1 n1; obtain rfl : t1 = L1 := HL1.out.symm; clear HL1; have hE1 : Below M0.heap.size M0 v1 := hE.grown g1 hE.size (fun j hj => Nat.le_of_eq (by simpa [Value.ownBlock] using hj)); have hM1 := hM0.below hE1; have x0 := hM1.bp.cell 0; have f0 := hM1.bp.frozen 0; have lp1 := hM1.bp.lt; simp at x0) | (refine pause_at 58 rfl ?_))
  rw [flat1] at o1
  have hM2 := hM1.setp (.slice Ay t1.length cy)
  have o2 : (v1.setCell ⟨p, 0, none⟩ (.slice Ay t1.length cy)).ownsRow M0.heap.size 3 1 (.slice Ay t1.length cy) t1.length (t1.map (Value.int .i64)) := own_fr o1 ((Fr.refl (fun b => b = p) v1).andSet rfl) (fun b hb e => by have := own_ge o1 hb; omega)
  have hn2 : M0.heap.size ≤ (v1.setCell ⟨p, 0, none⟩ (.slice Ay t1.length cy)).heap.size := by have := hE1.size; simpa using this
  generalize v1.setCell ⟨p, 0, none⟩ (.slice Ay t1.length cy) = N2 at *
  clear o1 g1 n1 hM1 x0 f0 lp1 hE1 hE d0 l2 s1
  obtain ⟨g1, cap, hv, hgb, hgl, x1, f⟩ := ints_cell o2 hdt1
  injection hv with hva hvb hvc
  subst hva hvc
  have f1 := f d
  have x0 : N2.cell? ⟨p, 0, none⟩ = some (.slice (some ⟨g1, 0, none⟩) t1.length cy) := hM2.bp.cell 0
  have lp2 := hM2.bp.lt
  refine Paused.mk ?_
  go_wp2_with (refine pause_at 62 rfl ?_)
  have hr1 : Fr (fun b => b = g1) N2 (N2.setCell ⟨g1, d, none⟩ (.int .i64 0)) := (Fr.refl (fun b => b = g1) N2).andSet rfl
  have hne : g1 ≠ p ∧ g1 ≠ q := by constructor <;> omega
  have hM3 := hM2.fr hr1 (fun x hx => by rw [hx]; exact ⟨by omega, hne.1, hne.2⟩)
  have o3 : (N2.setCell ⟨g1, d, none⟩ (.int .i64 0)).ownsRow M0.heap.size 3 1 (.slice (some ⟨g1, 0, none⟩) t1.length cy) (coldT t1 d).length ((coldT t1 d).map (Value.int .i64)) := ints_set o2 (g := g1) rfl hdt1 0
  generalize N2.setCell ⟨g1, d, none⟩ (.int .i64 0) = N3 at *
  clear hr1 o2 x1 f f1 x0 lp2 hM2 hgl
  have hgl3 := (own_lt o3 (show (Value.slice (some ⟨g1, 0, none⟩) t1.length cy).ownBlock = some g1 from rfl)).2
  have hlq3 := hM3.bq.lt
  have p2' := p2.below hM3.bv p2.lt
  have d0 : N3.cell? ⟨w3.heap.size, 0, none⟩ = some (.slice A1 t1.length c1) := p2'.cell 0
  have l2 := p2'.lt
  have s1 := (k1''.below hM3.bv).up hM3.bv.size
  have hE := ex_alloc (Below.refl N3.heap.size N3) (.cells #[] 3)
  refine Paused.mk ?_
  go_wp2_with (at_builtin; refine wpList_append_list (f := fun n => [Value.int .i64 n]) (F := fI) (sz := 1) (fun _ => rfl) cI_at cI_one rfl _ _ _ rfl N3.heap.size 3 j0 _ 8 Try.underlying54 HJ.out hy0' hy1' hy2' rfl (by omega) (some ⟨N3.heap.size, 0, none⟩) 0 [] rfl (own_empty (Blk.new _ _ _) (Nat.le_refl _)) A1 c1 t1 rfl ((s1.below hE).up hE.size) (by simp; unfold maxLen; omega) (by simp; omega) hE.size (N3.heap.size + 1) (by simp) ?_; intro L1 Az cz v2 HL1 oz gz nz; obtain rfl : t1 = L1 := HL1.out.symm; clear HL1; have hE1 : Below N3.heap.size N3 v2 := hE.grown gz hE.size (fun j hj => Nat.le_of_eq (by simpa [Value.ownBlock] using hj)); have hM4 := hM3.below hE1; have y0 := hM4.bq.cell 0; have f0 := hM4.bq.frozen 0; have lq1 := hM4.bq.lt; simp at y0)
  rw [flat1] at oz
  have hM5 := hM4.setq (.slice Az t1.length cz)
  have hfq : Fr (fun b => b = q) v2 (v2.setCell ⟨q, 0, none⟩ (.slice Az t1.length cz)) := (Fr.refl (fun b => b = q) v2).andSet rfl
  have o5 := own_fr oz hfq (fun b hb e => by have := own_ge oz hb; omega)
  have o4 := own_fr (own_below o3 hE1) hfq (fun b hb e => by
    have : g1 = b := by simpa [Value.ownBlock] using hb
    omega)
  generalize v2.setCell ⟨q, 0, none⟩ (.slice Az t1.length cz) = N5 at *
  clear oz gz nz hM4 y0 f0 lq1 hE1 hE d0 l2 s1 o3 hM3 hfq
  refine wp_loop (fun a W => ∃ k : Nat, k ≤ d ∧ MP wr p q #[.slice (some ⟨g1, 0, none⟩) t1.length cy, .slice A2 t2.length c2, .slice A3 t3.length c3] #[.slice Az t1.length cz, .slice A2 t2.length c2, .slice A3 t3.length c3] W ∧ W.ownsRow M0.heap.size 3 1 (.slice (some ⟨g1, 0, none⟩) t1.length cy) (coldT t1 d).length ((coldT t1 d).map (Value.int .i64)) ∧ W.ownsRow N3.heap.size 3 1 (.slice Az t1.length cz) (noneT t1 k).length ((noneT t1 k).map (Value.int .i64)) ∧ ∃ u : Nat → Value, a = ⟨List.toArray (u 0 :: .slice Ah h.length ch :: u 2 :: u 3 :: .pointer (some ⟨w.heap.size, 0, none⟩) :: u 5 :: u 6 :: u 7 :: u 8 :: .pointer (some ⟨w3.heap.size, 0, none⟩) :: .int .i64 (d : Int) :: .slice Ar WD.length cr :: u 12 :: .pointer (some ⟨p, 0, none⟩) :: .pointer (some ⟨q, 0, none⟩) :: .int .i64 (k : Int) :: u 16 :: u 17 :: u 18 :: u 19 :: u 20 :: u 21 :: u 22 :: u 23 :: u 24 :: u 25 :: u 26 :: u 27 :: u 28 :: u 29 :: u 30 :: u 31 :: u 32 :: u 33 :: u 34 :: u 35 :: u 36 :: u 37 :: u 38 :: u 39 :: u 40 :: u 41 :: u 42 :: u 43 :: u 44 :: u 45 :: u 46 :: u 47 :: u 48 :: u 49 :: u 50 :: u 51 :: u 52 :: u 53 :: u 54 :: u 55 :: u 56 :: u 57 :: u 58 :: u 59 :: u 60 :: u 61 :: u 62 :: u 63 :: u 64 :: u 65 :: u 66 :: u 67 :: u 68 :: u 69 :: u 70 :: u 71 :: u 72 :: u 73 :: u 74 :: u 75 :: u 76 :: u 77 :: u 78 :: u 79 :: u 80 :: u 81 :: u 82 :: u 83 :: u 84 :: u 85 :: u 86 :: u 87 :: u 88 :: u 89 :: u 90 :: u 91 :: u 92 :: u 93 :: u 94 :: u 95 :: u 96 :: u 97 :: u 98 :: u 99 :: u 100 :: u 101 :: u 102 :: u 103 :: u 104 :: u 105 :: u 106 :: u 107 :: u 108 :: u 109 :: u 110 :: u 111 :: u 112 :: u 113 :: u 114 :: u 115 :: u 116 :: u 117 :: u 118 :: u 119 :: u 120 :: u 121 :: u 122 :: u 123 :: u 124 :: u 125 :: u 126 :: u 127 :: u 128 :: u 129 :: u 130 :: u 131 :: u 132 :: u 133 :: u 134 :: u 135 :: u 136 :: u 137 :: u 138 :: u 139 :: u 140 :: u 141 :: u 142 :: u 143 :: u 144 :: u 145 :: u 146 :: u 147 :: u 148 :: u 149 :: u 150 :: u 151 :: u 152 :: u 153 :: u 154 :: u 155 :: u 156 :: u 157 :: u 158 :: u 159 :: u 160 :: u 161 :: u 162 :: u 163 :: u 164 :: u 165 :: u 166 :: u 167 :: u 168 :: u 169 :: u 170 :: u 171 :: u 172 :: u 173 :: u 174 :: u 175 :: u 176 :: u 177 :: u 178 :: u 179 :: u 180 :: u 181 :: u 182 :: u 183 :: u 184 :: u 185 :: u 186 :: u 187 :: u 188 :: u 189 :: u 190 :: u 191 :: u 192 :: u 193 :: u 194 :: u 195 :: u 196 :: u 197 :: u 198 :: u 199 :: u 200 :: u 201 :: u 202 :: u 203 :: u 204 :: u 205 :: u 206 :: []), []⟩)
    (fun a _ => d - (intOf (a.tmps.getD 15 undef)).toNat) ⟨0, by omega, hM5, o4, o5, exFrame (by kernel_rfl)⟩ ?_
  rintro a R ⟨k, hk, hM, oc, on, u, rfl⟩
  clear hM5 o4 o5
  by_cases hlt : k < d
  · have hkl : k < (noneT t1 k).length := by rw [noneT_len]; omega
    have hkt : k < t1.length := by omega
    obtain ⟨g2, cap, hv, hgb2, hgl2, c5, f⟩ := ints_cell on hkl
    injection hv with hva hvb hvc
    subst hva hvc
    have f2 := f k
    have y0 : R.cell? ⟨q, 0, none⟩ = some (.slice (some ⟨g2, 0, none⟩) t1.length cz) := hM.bq.cell 0
    have ly := hM.bq.lt
    clear f hvb
    have hf : Fr (fun b => b = g2) R (R.setCell ⟨g2, k, none⟩ (.int .i64 0)) := (Fr.refl (fun b => b = g2) R).andSet rfl
    have hpl := hM.bp.lt
    have hM' := hM.fr hf (fun x hx => by rw [hx]; exact ⟨by omega, by omega, by omega⟩)
    have oc' := own_fr oc hf (fun b hb e => by
      have : g1 = b := by simpa [Value.ownBlock] using hb
      omega)
    have on' : (R.setCell ⟨g2, k, none⟩ (.int .i64 0)).ownsRow N3.heap.size 3 1 (.slice (some ⟨g2, 0, none⟩) t1.length cz) (noneT t1 (k + 1)).length ((noneT t1 (k + 1)).map (Value.int .i64)) := ints_set on (g := g2) rfl hkl 0
    go_wp2_with fail
    refine ⟨⟨k + 1, by omega, hM', oc', on', exFrame (by kernel_rfl)⟩, ?_⟩
    show d - (intOf (.int .i64 ((k : Int) + 1))).toNat < d - (intOf (.int .i64 (k : Int))).toNat
    simp [intOf]
    omega
  have hkd : k = d := by omega
  subst hkd
  have hcl : (coldT t1 k).length = t1.length := coldT_len
  have hnl : (noneT t1 k).length = t1.length := noneT_len
  obtain ⟨Ac, cc, hv, _, sC⟩ := own_sl oc
  injection hv with hva hvb hvc
  subst hva hvc
  clear hvb
  obtain ⟨An, cn, hv, _, sN⟩ := own_sl on
  injection hv with hva hvb hvc
  subst hva hvc
  obtain ⟨CT, hCT⟩ : ∃ CT, CT = coldT t1 k := ⟨_, rfl⟩
  obtain ⟨NT, hNT⟩ : ∃ NT, NT = noneT t1 k := ⟨_, rfl⟩
  have hbp := hM.bp
  have hbq := hM.bq
  have e1 : Value.slice (some ⟨g1, 0, none⟩) t1.length cy = Value.slice (some ⟨g1, 0, none⟩) CT.length cy := by rw [hCT, hcl]
  have e2 : Value.slice Az t1.length cz = Value.slice Az NT.length cz := by rw [hNT, hnl]
  rw [e1] at hbp
  rw [e2] at hbq
  rw [← hCT] at sC
  rw [← hNT] at sN
  have hCTl : CT.length ≤ 20 := by rw [hCT, hcl]; exact ht1
  have hNTl : NT.length ≤ 20 := by rw [hNT, hnl]; exact ht1
  have HLW := Lib.hid (show lived g WD = 0 by rw [HWD.out]; exact wide_lived HLV.out)
  have HT1 := Lib.hid (show truthB g WD t1 t2 t3 = true by rw [HWD.out]; exact wide_truth HK.out HT.out HTL.out.1 (fun d hd => .inl rfl))
  have HT2 := Lib.hid (show truthB g WD CT t2 t3 = true by
    rw [HWD.out]
    exact wide_truth HK.out HT.out (by rw [hCT, hcl]; exact HTL.out.1) (fun d hd => by rw [hCT, coldT_at (by have := HTL.out.1; omega)]; split; exact .inr rfl; exact .inl rfl))
  have HT3 := Lib.hid (show truthB g WD NT t2 t3 = true by
    rw [HWD.out]
    exact wide_truth HK.out HT.out (by rw [hNT, hnl]; exact HTL.out.1) (fun d hd => by rw [hNT, noneT_at (by have := HTL.out.1; omega)]; split; exact .inr rfl; exact .inl rfl))
  have HCT := Lib.hid hCT
  have HNT := Lib.hid hNT
  have X0 := hM.bv
  have BR := ex_trans B1 X0
  have D0 := Below.refl R.heap.size R
  replace p1 := p1.below X0 p1.lt
  have pT := p2.below X0 p2.lt
  have K1 := (k1''.below X0).up X0.size
  have K2 := (k2''.below X0).up X0.size
  have K3 := (k3''.below X0).up X0.size
  have HW := (hsr.below X0).up X0.size
  have hMp := hM.hp
  clear hcl hnl oc on hM e1 e2 hCT hNT p2 k1'' k2'' k3'' hsr hvb
  have a0 : R.cell? ⟨w.heap.size, 0, none⟩ = some (.int .i64 g.base) := p1.cell 0
  have a1 : R.cell? ⟨w.heap.size, 1, none⟩ = some (.slice Ab g.bands.length cb) := p1.cell 1
  have a2 : R.cell? ⟨w.heap.size, 2, none⟩ = some (.slice Ad g.depths.length cd) := p1.cell 2
  have a3 : R.cell? ⟨w.heap.size, 3, none⟩ = some (.int .i64 g.blo) := p1.cell 3
  have a4 : R.cell? ⟨w.heap.size, 4, none⟩ = some (.int .i64 g.bhi) := p1.cell 4
  have l1 := p1.lt
  have d0 : R.cell? ⟨w3.heap.size, 0, none⟩ = some (.slice A1 t1.length c1) := (pT).cell 0
  have d1 : R.cell? ⟨w3.heap.size, 1, none⟩ = some (.slice A2 t2.length c2) := (pT).cell 1
  have d2 : R.cell? ⟨w3.heap.size, 2, none⟩ = some (.slice A3 t3.length c3) := (pT).cell 2
  have l2 := (pT).lt
  go_wp2_with fail
  refine wp_region_ext_mix 11 [(false, 0), (false, 2), (false, 4), (true, 1), (true, 3), (true, 5), (true, 6), (false, 7), (false, 8), (false, 9), (false, 10)] (by kernel_rfl) (by kernel_rfl) (by intro d _ _ _ _ h; cases d <;> exact h) ?_
  have hW_pa := (Below.refl R.heap.size R).drew
  repeat (refine mix_quiet rfl ?_; go_big_quiet_step (fail); refine wpQuiet_nil ?_)
  refine mix_loud rfl ?_
  go_wp2_with fail
  refine (Glass_any g _ _ _ _ R.drew ((hg.below (ex_trans BR hW_pa)).up (ex_trans BR hW_pa).size) (by omega) (by omega)).mono ?_
  rintro e pa1 ⟨⟨Ab_pa, Ad_pa, cb_pa, cd_pa, rfl, hg_pa⟩, hpa1⟩
  have E_pa1 := ex_trans hW_pa hpa1
  go_wp2_with fail
  refine ⟨inEx E_pa1, ?_⟩
  refine mix_loud rfl ?_
  go_wp2_with fail
  refine (History_any _ _ WD pa1 (by omega) ((HW.below (ex_trans D0 E_pa1)).up (ex_trans D0 E_pa1).size)).mono ?_
  rintro e pa2 ⟨⟨Ah_pa, ch_pa, rfl, _, _, hh_pa⟩, hpa2⟩
  have E_pa2 := ex_trans E_pa1 hpa2
  go_wp2_with fail
  refine ⟨inEx E_pa2, ?_⟩
  refine mix_loud rfl ?_
  go_wp2_with fail
  refine (Truth_any pa2 _ _ _ _ _ _ t1 t2 t3 ((K1.below (ex_trans D0 E_pa2)).up (ex_trans D0 E_pa2).size) ((K2.below (ex_trans D0 E_pa2)).up (ex_trans D0 E_pa2).size) ((K3.below (ex_trans D0 E_pa2)).up (ex_trans D0 E_pa2).size) (by omega) (by omega) (by omega)).mono ?_
  rintro e pa3 ⟨⟨B1_pa, B2_pa, B3_pa, m1_pa, m2_pa, m3_pa, rfl, s1_pa, s2_pa, s3_pa⟩, hpa3⟩
  have E_pa3 := ex_trans E_pa2 hpa3
  go_wp2_with fail
  refine ⟨inEx E_pa3, ?_⟩
  refine mix_loud rfl ?_
  go_wp2_with fail
  refine (Play_ok g _ _ _ _ _ _ _ _ _ _ _ _ WD t1 t2 t3 _ ((hg_pa.below (ex_trans hpa2 hpa3)).up (ex_trans hpa2 hpa3).size) ((hh_pa.below hpa3).up hpa3.size) s1_pa s2_pa s3_pa HLW.out HT1.out).mono ?_
  rintro e pa4 ⟨⟨v, rfl, hv⟩, hpa4⟩
  obtain ⟨Av_pa, cv_pa, hvv, _, sv_pa⟩ := own_sl hv
  clear hv
  rw [playTo_len] at hvv sv_pa
  subst hvv
  have E_pa4 := ex_trans E_pa3 hpa4
  go_wp2_with fail
  refine ⟨inEx E_pa4, ?_⟩
  repeat (refine mix_quiet rfl ?_; go_big_quiet_step (fail); refine wpQuiet_nil ?_)
  refine mix_nil rfl ?_
  have B_pa := ex_trans BR E_pa4
  have D_pa := ex_trans D0 E_pa4
  replace p1 := p1.below E_pa4 p1.lt
  replace pT := pT.below E_pa4 pT.lt
  replace hbp := hbp.below E_pa4 hbp.lt
  replace hbq := hbq.below E_pa4 hbq.lt
  clear a0 a1 a2 a3 a4 l1 d0 d1 d2 l2 hg_pa hh_pa s1_pa s2_pa s3_pa
  have a0 : pa4.cell? ⟨w.heap.size, 0, none⟩ = some (.int .i64 g.base) := p1.cell 0
  have a1 : pa4.cell? ⟨w.heap.size, 1, none⟩ = some (.slice Ab g.bands.length cb) := p1.cell 1
  have a2 : pa4.cell? ⟨w.heap.size, 2, none⟩ = some (.slice Ad g.depths.length cd) := p1.cell 2
  have a3 : pa4.cell? ⟨w.heap.size, 3, none⟩ = some (.int .i64 g.blo) := p1.cell 3
  have a4 : pa4.cell? ⟨w.heap.size, 4, none⟩ = some (.int .i64 g.bhi) := p1.cell 4
  have l1 := p1.lt
  have d0 : pa4.cell? ⟨p, 0, none⟩ = some (.slice (some ⟨g1, 0, none⟩) CT.length cy) := (hbp).cell 0
  have d1 : pa4.cell? ⟨p, 1, none⟩ = some (.slice A2 t2.length c2) := (hbp).cell 1
  have d2 : pa4.cell? ⟨p, 2, none⟩ = some (.slice A3 t3.length c3) := (hbp).cell 2
  have l2 := (hbp).lt
  go_wp2_with fail
  refine wp_region_ext_mix 11 [(false, 0), (false, 2), (false, 4), (true, 1), (true, 3), (true, 5), (true, 6), (false, 7), (false, 8), (false, 9), (false, 10)] (by kernel_rfl) (by kernel_rfl) (by intro d _ _ _ _ h; cases d <;> exact h) ?_
  have hW_pb := (Below.refl pa4.heap.size pa4).drew
  repeat (refine mix_quiet rfl ?_; go_big_quiet_step (fail); refine wpQuiet_nil ?_)
  refine mix_loud rfl ?_
  go_wp2_with fail
  refine (Glass_any g _ _ _ _ pa4.drew ((hg.below (ex_trans B_pa hW_pb)).up (ex_trans B_pa hW_pb).size) (by omega) (by omega)).mono ?_
  rintro e pb1 ⟨⟨Ab_pb, Ad_pb, cb_pb, cd_pb, rfl, hg_pb⟩, hpb1⟩
  have E_pb1 := ex_trans hW_pb hpb1
  go_wp2_with fail
  refine ⟨inEx E_pb1, ?_⟩
  refine mix_loud rfl ?_
  go_wp2_with fail
  refine (History_any _ _ WD pb1 (by omega) ((HW.below (ex_trans D_pa E_pb1)).up (ex_trans D_pa E_pb1).size)).mono ?_
  rintro e pb2 ⟨⟨Ah_pb, ch_pb, rfl, _, _, hh_pb⟩, hpb2⟩
  have E_pb2 := ex_trans E_pb1 hpb2
  go_wp2_with fail
  refine ⟨inEx E_pb2, ?_⟩
  refine mix_loud rfl ?_
  go_wp2_with fail
  refine (Truth_any pb2 _ _ _ _ _ _ CT t2 t3 ((sC.below (ex_trans D_pa E_pb2)).up (ex_trans D_pa E_pb2).size) ((K2.below (ex_trans D_pa E_pb2)).up (ex_trans D_pa E_pb2).size) ((K3.below (ex_trans D_pa E_pb2)).up (ex_trans D_pa E_pb2).size) (by omega) (by omega) (by omega)).mono ?_
  rintro e pb3 ⟨⟨B1_pb, B2_pb, B3_pb, m1_pb, m2_pb, m3_pb, rfl, s1_pb, s2_pb, s3_pb⟩, hpb3⟩
  have E_pb3 := ex_trans E_pb2 hpb3
  go_wp2_with fail
  refine ⟨inEx E_pb3, ?_⟩
  refine mix_loud rfl ?_
  go_wp2_with fail
  refine (Play_ok g _ _ _ _ _ _ _ _ _ _ _ _ WD CT t2 t3 _ ((hg_pb.below (ex_trans hpb2 hpb3)).up (ex_trans hpb2 hpb3).size) ((hh_pb.below hpb3).up hpb3.size) s1_pb s2_pb s3_pb HLW.out HT2.out).mono ?_
  rintro e pb4 ⟨⟨v, rfl, hv⟩, hpb4⟩
  obtain ⟨Av_pb, cv_pb, hvv, _, sv_pb⟩ := own_sl hv
  clear hv
  rw [playTo_len] at hvv sv_pb
  subst hvv
  have E_pb4 := ex_trans E_pb3 hpb4
  go_wp2_with fail
  refine ⟨inEx E_pb4, ?_⟩
  repeat (refine mix_quiet rfl ?_; go_big_quiet_step (fail); refine wpQuiet_nil ?_)
  refine mix_nil rfl ?_
  have B_pb := ex_trans B_pa E_pb4
  have D_pb := ex_trans D_pa E_pb4
  replace p1 := p1.below E_pb4 p1.lt
  replace pT := pT.below E_pb4 pT.lt
  replace hbp := hbp.below E_pb4 hbp.lt
  replace hbq := hbq.below E_pb4 hbq.lt
  clear a0 a1 a2 a3 a4 l1 d0 d1 d2 l2 hg_pb hh_pb s1_pb s2_pb s3_pb
  have a0 : pb4.cell? ⟨w.heap.size, 0, none⟩ = some (.int .i64 g.base) := p1.cell 0
  have a1 : pb4.cell? ⟨w.heap.size, 1, none⟩ = some (.slice Ab g.bands.length cb) := p1.cell 1
  have a2 : pb4.cell? ⟨w.heap.size, 2, none⟩ = some (.slice Ad g.depths.length cd) := p1.cell 2
  have a3 : pb4.cell? ⟨w.heap.size, 3, none⟩ = some (.int .i64 g.blo) := p1.cell 3
  have a4 : pb4.cell? ⟨w.heap.size, 4, none⟩ = some (.int .i64 g.bhi) := p1.cell 4
  have l1 := p1.lt
  have d0 : pb4.cell? ⟨q, 0, none⟩ = some (.slice Az NT.length cz) := (hbq).cell 0
  have d1 : pb4.cell? ⟨q, 1, none⟩ = some (.slice A2 t2.length c2) := (hbq).cell 1
  have d2 : pb4.cell? ⟨q, 2, none⟩ = some (.slice A3 t3.length c3) := (hbq).cell 2
  have l2 := (hbq).lt
  go_wp2_with fail
  refine wp_region_ext_mix 11 [(false, 0), (false, 2), (false, 4), (true, 1), (true, 3), (true, 5), (true, 6), (false, 7), (false, 8), (false, 9), (false, 10)] (by kernel_rfl) (by kernel_rfl) (by intro d _ _ _ _ h; cases d <;> exact h) ?_
  have hW_pc := (Below.refl pb4.heap.size pb4).drew
  repeat (refine mix_quiet rfl ?_; go_big_quiet_step (fail); refine wpQuiet_nil ?_)
  refine mix_loud rfl ?_
  go_wp2_with fail
  refine (Glass_any g _ _ _ _ pb4.drew ((hg.below (ex_trans B_pb hW_pc)).up (ex_trans B_pb hW_pc).size) (by omega) (by omega)).mono ?_
  rintro e pc1 ⟨⟨Ab_pc, Ad_pc, cb_pc, cd_pc, rfl, hg_pc⟩, hpc1⟩
  have E_pc1 := ex_trans hW_pc hpc1
  go_wp2_with fail
  refine ⟨inEx E_pc1, ?_⟩
  refine mix_loud rfl ?_
  go_wp2_with fail
  refine (History_any _ _ WD pc1 (by omega) ((HW.below (ex_trans D_pb E_pc1)).up (ex_trans D_pb E_pc1).size)).mono ?_
  rintro e pc2 ⟨⟨Ah_pc, ch_pc, rfl, _, _, hh_pc⟩, hpc2⟩
  have E_pc2 := ex_trans E_pc1 hpc2
  go_wp2_with fail
  refine ⟨inEx E_pc2, ?_⟩
  refine mix_loud rfl ?_
  go_wp2_with fail
  refine (Truth_any pc2 _ _ _ _ _ _ NT t2 t3 ((sN.below (ex_trans D_pb E_pc2)).up (ex_trans D_pb E_pc2).size) ((K2.below (ex_trans D_pb E_pc2)).up (ex_trans D_pb E_pc2).size) ((K3.below (ex_trans D_pb E_pc2)).up (ex_trans D_pb E_pc2).size) (by omega) (by omega) (by omega)).mono ?_
  rintro e pc3 ⟨⟨B1_pc, B2_pc, B3_pc, m1_pc, m2_pc, m3_pc, rfl, s1_pc, s2_pc, s3_pc⟩, hpc3⟩
  have E_pc3 := ex_trans E_pc2 hpc3
  go_wp2_with fail
  refine ⟨inEx E_pc3, ?_⟩
  refine mix_loud rfl ?_
  go_wp2_with fail
  refine (Play_ok g _ _ _ _ _ _ _ _ _ _ _ _ WD NT t2 t3 _ ((hg_pc.below (ex_trans hpc2 hpc3)).up (ex_trans hpc2 hpc3).size) ((hh_pc.below hpc3).up hpc3.size) s1_pc s2_pc s3_pc HLW.out HT3.out).mono ?_
  rintro e pc4 ⟨⟨v, rfl, hv⟩, hpc4⟩
  obtain ⟨Av_pc, cv_pc, hvv, _, sv_pc⟩ := own_sl hv
  clear hv
  rw [playTo_len] at hvv sv_pc
  subst hvv
  have E_pc4 := ex_trans E_pc3 hpc4
  go_wp2_with fail
  refine ⟨inEx E_pc4, ?_⟩
  repeat (refine mix_quiet rfl ?_; go_big_quiet_step (fail); refine wpQuiet_nil ?_)
  refine mix_nil rfl ?_
  have B_pc := ex_trans B_pb E_pc4
  have D_pc := ex_trans D_pb E_pc4
  replace p1 := p1.below E_pc4 p1.lt
  replace pT := pT.below E_pc4 pT.lt
  replace hbp := hbp.below E_pc4 hbp.lt
  replace hbq := hbq.below E_pc4 hbq.lt
  clear a0 a1 a2 a3 a4 l1 d0 d1 d2 l2 hg_pc hh_pc s1_pc s2_pc s3_pc
  have a0 : pc4.cell? ⟨w.heap.size, 0, none⟩ = some (.int .i64 g.base) := p1.cell 0
  have a1 : pc4.cell? ⟨w.heap.size, 1, none⟩ = some (.slice Ab g.bands.length cb) := p1.cell 1
  have a2 : pc4.cell? ⟨w.heap.size, 2, none⟩ = some (.slice Ad g.depths.length cd) := p1.cell 2
  have a3 : pc4.cell? ⟨w.heap.size, 3, none⟩ = some (.int .i64 g.blo) := p1.cell 3
  have a4 : pc4.cell? ⟨w.heap.size, 4, none⟩ = some (.int .i64 g.bhi) := p1.cell 4
  have l1 := p1.lt
  go_wp2_with fail
  refine (SinksR_any g _ _ _ _ 0 _ ((hg.below B_pc).up B_pc.size) (by omega)).mono ?_
  rintro e S1 ⟨rfl, hS1⟩
  have B_s := ex_trans B_pc hS1
  by_cases hs0 : sinksTo g.depths 0 g.depths.length ≠ 0
  · have e1 : (sinksTo g.depths 0 g.depths.length != 0) = true := by simp [hs0]
    clear hs0
    go_wp2_with fail
    refine (awake_any _).mono ?_
    rintro e x1 ⟨rfl, hx1⟩
    go_wp2
    go_ret
    exact ⟨rfl, ex_trans B_s hx1⟩
  have e0 : sinksTo g.depths 0 g.depths.length = 0 := by simpa using hs0
  have HS0 := Lib.hid (show sinks g 0 = 0 from e0)
  rw [e0]
  clear e0 hs0
  have n1 : (WD.length != h.length) = false := by rw [HWL.out]; simp
  have n2 : ((WD.length : Int) != (h.length : Int)) = false := by rw [HWL.out]; simp
  have Z1 : SlAt S1 S1.heap.size 1 Av_pa WD.length (fI (playTo g t1 t2 t3 WD.length)) := (sv_pa.below (ex_trans (ex_trans E_pb4 E_pc4) hS1)).up (ex_trans (ex_trans E_pb4 E_pc4) hS1).size
  have Z2 : SlAt S1 S1.heap.size 1 Av_pb WD.length (fI (playTo g CT t2 t3 WD.length)) := (sv_pb.below (ex_trans E_pc4 hS1)).up (ex_trans E_pc4 hS1).size
  have Z3 : SlAt S1 S1.heap.size 1 Av_pc WD.length (fI (playTo g NT t2 t3 WD.length)) := (sv_pc.below hS1).up hS1.size
  have D_s := ex_trans D_pc hS1
  have K1s := (K1.below D_s).up D_s.size
  have K2s := (K2.below D_s).up D_s.size
  have pTs := pT.below hS1 pT.lt
  have p1s := p1.below hS1 p1.lt
  clear a0 a1 a2 a3 a4 l1 sv_pa sv_pb sv_pc sC sN HW hbp hbq K1 K2 K3 pT p1
  go_wp2_with fail
  refine wp_loop (fun a W => ∃ m : Nat, m ≤ k + 1 ∧ Below S1.heap.size S1 W ∧ ∃ u : Nat → Value, a = ⟨List.toArray (u 0 :: .slice Ah h.length ch :: u 2 :: u 3 :: .pointer (some ⟨w.heap.size, 0, none⟩) :: u 5 :: u 6 :: u 7 :: u 8 :: .pointer (some ⟨w3.heap.size, 0, none⟩) :: .int .i64 (k : Int) :: u 11 :: u 12 :: u 13 :: u 14 :: u 15 :: .slice Av_pa WD.length cv_pa :: u 17 :: .slice Av_pb WD.length cv_pb :: u 19 :: .slice Av_pc WD.length cv_pc :: u 21 :: .int .i64 (riseTo t2 m) :: .int .i64 (m : Int) :: u 24 :: u 25 :: u 26 :: u 27 :: u 28 :: u 29 :: u 30 :: u 31 :: u 32 :: u 33 :: u 34 :: u 35 :: u 36 :: u 37 :: u 38 :: u 39 :: u 40 :: u 41 :: u 42 :: u 43 :: u 44 :: u 45 :: u 46 :: u 47 :: u 48 :: u 49 :: u 50 :: u 51 :: u 52 :: u 53 :: u 54 :: u 55 :: u 56 :: u 57 :: u 58 :: u 59 :: u 60 :: u 61 :: u 62 :: u 63 :: u 64 :: u 65 :: u 66 :: u 67 :: u 68 :: u 69 :: u 70 :: u 71 :: u 72 :: u 73 :: u 74 :: u 75 :: u 76 :: u 77 :: u 78 :: u 79 :: u 80 :: u 81 :: u 82 :: u 83 :: u 84 :: u 85 :: u 86 :: u 87 :: u 88 :: u 89 :: u 90 :: u 91 :: u 92 :: u 93 :: u 94 :: u 95 :: u 96 :: u 97 :: u 98 :: u 99 :: u 100 :: u 101 :: u 102 :: u 103 :: u 104 :: u 105 :: u 106 :: u 107 :: u 108 :: u 109 :: u 110 :: u 111 :: u 112 :: u 113 :: u 114 :: u 115 :: u 116 :: u 117 :: u 118 :: u 119 :: u 120 :: u 121 :: u 122 :: u 123 :: u 124 :: u 125 :: u 126 :: u 127 :: u 128 :: u 129 :: u 130 :: u 131 :: u 132 :: u 133 :: u 134 :: u 135 :: u 136 :: u 137 :: u 138 :: u 139 :: u 140 :: u 141 :: u 142 :: u 143 :: u 144 :: u 145 :: u 146 :: u 147 :: u 148 :: u 149 :: u 150 :: u 151 :: u 152 :: u 153 :: u 154 :: u 155 :: u 156 :: u 157 :: u 158 :: u 159 :: u 160 :: u 161 :: u 162 :: u 163 :: u 164 :: u 165 :: u 166 :: u 167 :: u 168 :: u 169 :: u 170 :: u 171 :: u 172 :: u 173 :: u 174 :: u 175 :: u 176 :: u 177 :: u 178 :: u 179 :: u 180 :: u 181 :: u 182 :: u 183 :: u 184 :: u 185 :: u 186 :: u 187 :: u 188 :: u 189 :: u 190 :: u 191 :: u 192 :: u 193 :: u 194 :: u 195 :: u 196 :: u 197 :: u 198 :: u 199 :: u 200 :: u 201 :: u 202 :: u 203 :: u 204 :: u 205 :: u 206 :: []), []⟩)
    (fun a _ => k + 1 - (intOf (a.tmps.getD 23 undef)).toNat) ⟨0, by omega, Below.refl _ _, exFrame (by kernel_rfl)⟩ ?_
  rintro a wz ⟨m, hm, hbl, u, rfl⟩
  have hrb := riseTo_bd HK.out (truthB_iff.1 HT.out).2 (d := m) (by omega)
  by_cases hlt : m < k + 1
  · have hrb2 := riseTo_bd HK.out (truthB_iff.1 HT.out).2 (d := m + 1) (by omega)
    have c9 : decide ((m : Int) ≤ (k : Int)) = true := decide_eq_true (by omega)
    have c9' : decide (m ≤ k) = true := decide_eq_true (by omega)
    have hmt : m < t2.length := by omega
    have d1 : wz.cell? ⟨w3.heap.size, 1, none⟩ = some (.slice A2 t2.length c2) := (pTs.below hbl pTs.lt).cell 1
    have l2 := (pTs.below hbl pTs.lt).lt
    obtain ⟨b1, o1, rfl, hb1, g0⟩ := IsInts.at_ (K2s.below hbl) hmt
    have hws := hbl.size
    have hb1' : b1 < wz.heap.size := by omega
    rw [riseTo] at hrb2
    have HRS : Hid (riseTo t2 (m + 1) = riseTo t2 m + gI t2 m) := Lib.hid rfl
    have hz : ∃ rs, rs = riseTo t2 m := ⟨_, rfl⟩
    have w9 : IntKind.i64.wrap (riseTo t2 m + gI t2 m) = riseTo t2 m + gI t2 m := IntWalk.i64_in _ (by omega)
    go_wp2_with fail
    refine ⟨⟨m + 1, by omega, hbl, by rw [HRS.out]; exact exFrame (by kernel_rfl)⟩, ?_⟩
    show k + 1 - (intOf (.int .i64 ((m : Int) + 1))).toNat < k + 1 - (intOf (.int .i64 (m : Int))).toNat
    simp [intOf]
    omega
  have hmk : m = k + 1 := by omega
  subst hmk
  have c9 : decide (((k + 1 : Nat) : Int) ≤ (k : Int)) = false := decide_eq_false (by omega)
  have c9' : decide ((k : Int) + 1 ≤ (k : Int)) = false := decide_eq_false (by omega)
  have c9'' : decide (k + 1 ≤ k) = false := decide_eq_false (by omega)
  have B_z := ex_trans B_s hbl
  obtain ⟨rs, hrs⟩ : ∃ rs, rs = riseTo t2 (k + 1) := ⟨_, rfl⟩
  have HRS := Lib.hid hrs
  rw [← hrs] at hrb
  rw [← hrs]
  clear hrs
  have hkW : k < WD.length := by rw [HWL.out]; exact hdl
  have d0 : wz.cell? ⟨w3.heap.size, 0, none⟩ = some (.slice A1 t1.length c1) := (pTs.below hbl pTs.lt).cell 0
  have l2 := (pTs.below hbl pTs.lt).lt
  obtain ⟨b1, o1, rfl, hb1, g0⟩ := IsInts.at_ (K1s.below hbl) hdt1
  obtain ⟨b2, o2, e22, hb2, g1'⟩ := IsInts.at_ (Z2.below hbl) hkW
  have HE2 := Lib.hid e22
  rw [e22]
  clear e22
  have hws := hbl.size
  have hb1' : b1 < wz.heap.size := by omega
  have hb2' : b2 < wz.heap.size := by omega
  have hzb := zAt_bd (ok_of_lived HLW.out) HT2.out hkW
  rw [gI_play hkW] at g1'
  obtain ⟨zc, hzc⟩ : ∃ zc, zc = zAt g CT t2 t3 k := ⟨_, rfl⟩
  have HZC := Lib.hid hzc
  rw [← hzc] at g1' hzb
  clear hzc
  obtain ⟨hx, hhx⟩ : ∃ hx, hx = gI t1 k := ⟨_, rfl⟩
  have HHX := Lib.hid hhx
  rw [← hhx] at g0
  clear hhx
  have ab := HK.out.base
  have w7 : IntKind.i64.wrap (g.base + rs) = g.base + rs := IntWalk.i64_in _ (by omega)
  have w8 : IntKind.i64.wrap (g.base + rs - zc) = g.base + rs - zc := IntWalk.i64_in _ (by omega)
  have a0 : wz.cell? ⟨w.heap.size, 0, none⟩ = some (.int .i64 g.base) := (p1s.below hbl p1s.lt).cell 0
  have a1 : wz.cell? ⟨w.heap.size, 1, none⟩ = some (.slice Ab g.bands.length cb) := (p1s.below hbl p1s.lt).cell 1
  have a2 : wz.cell? ⟨w.heap.size, 2, none⟩ = some (.slice Ad g.depths.length cd) := (p1s.below hbl p1s.lt).cell 2
  have a3 : wz.cell? ⟨w.heap.size, 3, none⟩ = some (.int .i64 g.blo) := (p1s.below hbl p1s.lt).cell 3
  have a4 : wz.cell? ⟨w.heap.size, 4, none⟩ = some (.int .i64 g.bhi) := (p1s.below hbl p1s.lt).cell 4
  have l1 := (p1s.below hbl p1s.lt).lt
  go_wp2_with fail
  refine wp_region_ext_mix 17 [(false, 0), (false, 1), (false, 2), (false, 3), (false, 4), (false, 5), (false, 6), (false, 7), (false, 8), (false, 9), (false, 10), (false, 11), (false, 12), (false, 13), (false, 14), (true, 15), (false, 16)] (by kernel_rfl) (by kernel_rfl) (by intro d _ _ _ _ h; cases d <;> exact h) ?_
  have hW_z := (Below.refl wz.heap.size wz).drew
  repeat (refine mix_quiet rfl ?_; go_big_quiet_step (fail); refine wpQuiet_nil ?_)
  refine mix_loud rfl ?_
  go_wp2_with fail
  refine (SinksR_any g _ _ _ _ hx wz.drew ((hg.below (ex_trans B_z hW_z)).up (ex_trans B_z hW_z).size) (by omega)).mono ?_
  rintro e S2 ⟨rfl, hS2⟩
  have E_2 := ex_trans hW_z hS2
  go_wp2_with fail
  refine ⟨inEx E_2, ?_⟩
  repeat (refine mix_quiet rfl ?_; go_big_quiet_step (fail); refine wpQuiet_nil ?_)
  refine mix_nil rfl ?_
  obtain ⟨lv, hlv⟩ : ∃ lv, lv = g.base + rs - zc := ⟨_, rfl⟩
  obtain ⟨dv, hdv⟩ : ∃ dv, dv = sinksTo g.depths hx g.depths.length := ⟨_, rfl⟩
  have HLD := Lib.hid hlv
  have HDV := Lib.hid hdv
  rw [← hlv, ← hdv]
  have B_2 := ex_trans B_z E_2
  have Y_2 := ex_trans hbl E_2
  clear a0 a1 a2 a3 a4 l1 d0 l2 hlv hdv w7 w8 hzb hrb hb1' hb2' hws c9 c9' c9''
  go_wp2_with fail
  refine wp_loop (fun a W => ∃ i : Nat, k ≤ i ∧ i ≤ h.length ∧ Below S2.heap.size S2 W ∧ ∃ u : Nat → Value, a = ⟨List.toArray (u 0 :: .slice Ah h.length ch :: u 2 :: u 3 :: .pointer (some ⟨w.heap.size, 0, none⟩) :: u 5 :: u 6 :: u 7 :: u 8 :: .pointer (some ⟨w3.heap.size, 0, none⟩) :: .int .i64 (k : Int) :: u 11 :: u 12 :: u 13 :: u 14 :: u 15 :: .slice Av_pa WD.length cv_pa :: u 17 :: .slice Av_pb WD.length cv_pb :: u 19 :: .slice Av_pc WD.length cv_pc :: u 21 :: u 22 :: u 23 :: .int .i64 lv :: .int .i64 dv :: .int .i64 (i : Int) :: u 27 :: u 28 :: u 29 :: u 30 :: u 31 :: u 32 :: u 33 :: u 34 :: u 35 :: u 36 :: u 37 :: u 38 :: u 39 :: u 40 :: u 41 :: u 42 :: u 43 :: u 44 :: u 45 :: u 46 :: u 47 :: u 48 :: u 49 :: u 50 :: u 51 :: u 52 :: u 53 :: u 54 :: u 55 :: u 56 :: u 57 :: u 58 :: u 59 :: u 60 :: u 61 :: u 62 :: u 63 :: u 64 :: u 65 :: u 66 :: u 67 :: u 68 :: u 69 :: u 70 :: u 71 :: u 72 :: u 73 :: u 74 :: u 75 :: u 76 :: u 77 :: u 78 :: u 79 :: u 80 :: u 81 :: u 82 :: u 83 :: u 84 :: u 85 :: u 86 :: u 87 :: u 88 :: u 89 :: u 90 :: u 91 :: u 92 :: u 93 :: u 94 :: u 95 :: u 96 :: u 97 :: u 98 :: u 99 :: u 100 :: u 101 :: u 102 :: u 103 :: u 104 :: u 105 :: u 106 :: u 107 :: u 108 :: u 109 :: u 110 :: u 111 :: u 112 :: u 113 :: u 114 :: u 115 :: u 116 :: u 117 :: u 118 :: u 119 :: u 120 :: u 121 :: u 122 :: u 123 :: u 124 :: u 125 :: u 126 :: u 127 :: u 128 :: u 129 :: u 130 :: u 131 :: u 132 :: u 133 :: u 134 :: u 135 :: u 136 :: u 137 :: u 138 :: u 139 :: u 140 :: u 141 :: u 142 :: u 143 :: u 144 :: u 145 :: u 146 :: u 147 :: u 148 :: u 149 :: u 150 :: u 151 :: u 152 :: u 153 :: u 154 :: u 155 :: u 156 :: u 157 :: u 158 :: u 159 :: u 160 :: u 161 :: u 162 :: u 163 :: u 164 :: u 165 :: u 166 :: u 167 :: u 168 :: u 169 :: u 170 :: u 171 :: u 172 :: u 173 :: u 174 :: u 175 :: u 176 :: u 177 :: u 178 :: u 179 :: u 180 :: u 181 :: u 182 :: u 183 :: u 184 :: u 185 :: u 186 :: u 187 :: u 188 :: u 189 :: u 190 :: u 191 :: u 192 :: u 193 :: u 194 :: u 195 :: u 196 :: u 197 :: u 198 :: u 199 :: u 200 :: u 201 :: u 202 :: u 203 :: u 204 :: u 205 :: u 206 :: []), []⟩)
    (fun a _ => h.length - (intOf (a.tmps.getD 26 undef)).toNat) ⟨k, Nat.le_refl _, by omega, Below.refl _ _, by rw [HE2.out]; exact exFrame (by kernel_rfl)⟩ ?_
  rintro a wi ⟨i, hki, hih, hbi, u, rfl⟩
  by_cases hlt : i < h.length
  · have hiW : i < WD.length := by rw [HWL.out]; exact hlt
    have Y_i := ex_trans Y_2 hbi
    obtain ⟨b3, o3, e3, hb3', z1⟩ := IsInts.at_ (Z1.below Y_i) hiW
    obtain ⟨b4, o4, e4, hb4', z2⟩ := IsInts.at_ (Z2.below Y_i) hiW
    obtain ⟨b5, o5, e5, hb5', z3⟩ := IsInts.at_ (Z3.below Y_i) hiW
    have hws := Y_i.size
    have hb31 : b3 < wi.heap.size := by omega
    have hb41 : b4 < wi.heap.size := by omega
    have hb51 : b5 < wi.heap.size := by omega
    rw [gI_play hiW] at z1 z2 z3
    have hm := memory_all HK.out HT.out HS0.out (d := k) (i := i) hdl hki hlt
    rw [← HCT.out, ← HNT.out, ← HRS.out, ← HZC.out, ← HHX.out, ← HLD.out, show sinks g hx = dv from HDV.out.symm] at hm
    generalize zAt g t1 t2 t3 i = x1 at *
    generalize zAt g CT t2 t3 i = x2 at *
    generalize zAt g NT t2 t3 i = x3 at *
    obtain ⟨hm1, hm2⟩ := hm
    have HE3 := Lib.hid e3
    have HE4 := Lib.hid e4
    have HE5 := Lib.hid e5
    rw [e3, e4, e5]
    clear e3 e4 e5
    rcases Int.lt_trichotomy dv lv with hd | hd | hd
    · have q1 : decide (dv ≤ lv) = true := decide_eq_true (by omega)
      have q2 : decide (lv ≤ dv) = false := decide_eq_false (by omega)
      have q3 : (x1 != x2) = false := by rw [hm1 (by omega)]; simp
      clear hm1 hm2
      go_wp2_with fail
      refine wp_region_ext (by kernel_rfl) (by kernel_rfl) ?_
      repeat (any_goals (go_big_quiet_step (fail)))
      refine wpQuiet_nil ?_; intro _ hw'; obtain ⟨X', rfl⟩ := hw'
      go_wp2_with fail
      refine ⟨⟨i + 1, by omega, by omega, ex_trans hbi X'.h, exFrame (by kernel_rfl)⟩, ?_⟩
      show h.length - (intOf (.int .i64 ((i : Int) + 1))).toNat < h.length - (intOf (.int .i64 (i : Int))).toNat
      simp [intOf]
      omega
    · have q1 : decide (dv ≤ lv) = true := decide_eq_true (by omega)
      have q2 : decide (lv ≤ dv) = true := decide_eq_true (by omega)
      have q3 : (x1 != x2) = false := by rw [hm1 (by omega)]; simp
      have q4 : (x1 != x3) = false := by rw [hm2 (by omega)]; simp
      clear hm1 hm2
      go_wp2_with fail
      refine wp_region_ext (by kernel_rfl) (by kernel_rfl) ?_
      repeat (any_goals (go_big_quiet_step (fail)))
      refine wpQuiet_nil ?_; intro _ hw'; obtain ⟨X', rfl⟩ := hw'
      go_wp2_with fail
      refine ⟨⟨i + 1, by omega, by omega, ex_trans hbi X'.h, exFrame (by kernel_rfl)⟩, ?_⟩
      show h.length - (intOf (.int .i64 ((i : Int) + 1))).toNat < h.length - (intOf (.int .i64 (i : Int))).toNat
      simp [intOf]
      omega
    · have q1 : decide (dv ≤ lv) = false := decide_eq_false (by omega)
      have q2 : decide (lv ≤ dv) = true := decide_eq_true (by omega)
      have q4 : (x1 != x3) = false := by rw [hm2 (by omega)]; simp
      clear hm1 hm2
      go_wp2_with fail
      refine wp_region_ext (by kernel_rfl) (by kernel_rfl) ?_
      repeat (any_goals (go_big_quiet_step (fail)))
      refine wpQuiet_nil ?_; intro _ hw'; obtain ⟨X', rfl⟩ := hw'
      go_wp2_with fail
      refine ⟨⟨i + 1, by omega, by omega, ex_trans hbi X'.h, exFrame (by kernel_rfl)⟩, ?_⟩
      show h.length - (intOf (.int .i64 ((i : Int) + 1))).toNat < h.length - (intOf (.int .i64 (i : Int))).toNat
      simp [intOf]
      omega
  go_wp2_with fail
  refine (awake_any _).mono ?_
  rintro e we ⟨rfl, hbe⟩
  go_wp2
  go_ret
  exact ⟨rfl, ex_trans (ex_trans B_2 hbi) hbe⟩
end Go.Proofs.Ytlgmeofpkfliaaa
end

section
namespace Go.Proofs.Ytlgmeofpkfliaaa.glassMemory
open Go.ChangeShapes Go.WideShapes Go.ChangeAt Go.RowKit
set_option linter.unusedVariables false

set_option maxRecDepth 100000 in
theorem lifted (os : Os) (started : os.Started) (H : Type) (enc : TypeId × Value → H) :
    ReturnsInHanded {} Try.checked os 13 .any (Rows.glassMemorySpec.pre6 enc Try.prog Try.f13 Rows.glassMemoryRow.domain false) (Rows.glassMemorySpec.post enc Try.prog Try.f13 false true false false) := by
  refine returnsInHanded_of_change (C := Try.checked) own started (by kernel_rfl) Try.func13
    (ChangeSpec.witness6 (enc := enc) (C := Try.checked) false ⟨#[], #[.agg #[.int .i64 0, .slice none 0 0, .slice none 0 0, .int .i64 0, .int .i64 0], .slice none 0 0, .slice none 0 0, .int .u8 0], []⟩ 8 (by kernel_rfl) (by kernel_rfl) (by kernel_rfl) (by kernel_rfl)) ?_
  intro W base args ds gs before hval0 hW hcnd _
  have hval : ∀ (j : Nat) t v, Try.f13.params[j]? = some t → args[j]? = some v → Value.okWide Try.prog W .any base t v := hval0
  have hW0 := hW
  obtain ⟨p, q, hA0, hV, rfl, hfz, hnd⟩ := hW
  have hA : DataW.TrodAll enc Try.prog W 0 (fun _ => true) true Try.f13.params.toList args.toList ds p := hA0
  rw [Try.params13] at hA hval
  obtain ⟨v0, vs0, d0, ds0, p0, q0, ea0, ed0, ep0, h0, hA0⟩ := trodAll_cons hA
  obtain ⟨v1, vs1, d1, ds1, p1, q1, ea1, ed1, ep1, h1, hA1⟩ := trodAll_cons hA0
  obtain ⟨v2, vs2, d2, ds2, p2, q2, ea2, ed2, ep2, h2, hA2⟩ := trodAll_cons hA1
  obtain ⟨v3, vs3, d3, ds3, p3, q3, ea3, ed3, ep3, h3, hA3⟩ := trodAll_cons hA2
  obtain ⟨ea, ed, ep⟩ := trodAll_nil hA3
  have eargs : args = #[v0, v1, v2, v3] := by rw [← Array.toArray_toList (xs := args), ea0, ea1, ea2, ea3, ea]
  have eds : ds = [d0, d1, d2, d3] := by rw [ed0, ed1, ed2, ed3, ed]
  subst eargs eds
  obtain ⟨rfl, rfl⟩ := trodVars_none hV
  obtain ⟨g, Ab, Ad, cb, cd, rfl, _, hg⟩ := open_glass (hval 0 _ _ rfl rfl) h0
  obtain ⟨Ah, h, ch, rfl, _, _, hh⟩ := open_rgs (hval 1 _ _ rfl rfl) h1
  obtain ⟨Aw, ws, cw, rfl, hwl, hw, hwb⟩ := open_words (hval 2 _ _ rfl rfl) h2
  obtain ⟨m3, rfl, hm3⟩ := open_int Try.underlying5 (hval 3 _ _ rfl rfl) h3
  refine (MemoryLaw_any g Ab Ad Ah Aw cb cd ch cw h ws W hg hh hw hwb hwl m3 (wf_u8 hm3)).mono fun e W' he => ?_
  obtain ⟨rfl, hb⟩ := he
  exact ⟨_, rfl, post_law rfl hW0 rfl rfl ⟨⟨by kernel_rfl, of_decide_eq_true (by kernel_rfl)⟩, ⟨by kernel_rfl, of_decide_eq_true (by kernel_rfl)⟩, ⟨by kernel_rfl, of_decide_eq_true (by kernel_rfl)⟩, ⟨by kernel_rfl, of_decide_eq_true (by kernel_rfl)⟩, trivial⟩ hb⟩

theorem over : Rows.glassMemoryRow.holds Try.pinned (OpenSpec.ofChange Rows.glassMemorySpec) :=
  OpenClaim.holds_of_wide 13 Try.f13 rfl rfl rfl rfl rfl rfl rfl ⟨rfl, rfl, rfl, rfl, rfl⟩ rfl rfl rfl rfl rfl (by kernel_rfl) Try.func13 (by kernel_rfl)
    (of_decide_eq_true (by kernel_rfl)) (by unfold Func.isWrapper; first | (rw [if_pos (by decide +kernel)]; kernel_rfl) | (rw [if_neg (by decide +kernel)]; exact ⟨rfl, rfl⟩))
    (fun os started H enc _ => lifted os started H enc)

/-- the statement. -/
theorem proved : Rows.GlassMemorySaid :=
  over
#print axioms proved
end Go.Proofs.Ytlgmeofpkfliaaa.glassMemory
end
