/- The checks of a region's orders, reckoned with numbers: the kernel is through with them in a moment. · Spill: teams; CheckTeam, may (walks). · Spill: what somebody may work of some hours (plain). · Mixed regions in the body of a range over a function. · Spill: what somebody may work of some hours (walk). · Maps with keys of any one type, as the program makes them (no key is ever taken out or laid anew): the runs of their operations. · Maps by what is at each key: any key may be laid anew. -/
import Derived.Test.YthihdiilokdidaaM2
import Derived.Test.YthihdiilokdidaaM1
set_option linter.unusedVariables false
set_option linter.unusedSimpArgs false
set_option linter.unusedSectionVars false
section
namespace Go.Proofs.Ythihdiilokdidaa
open Go.RowKit
section
variable {P : Program} {ops : Array Oper} {md : Region.Mode}
/-- what an operation waits for, as bits. -/
def aMaskL (md : Region.Mode) : List Edge → Nat
  | [] => 0
  | e :: l => if Region.binds md e then (1 <<< e.on) ||| aMaskL md l else aMaskL md l
def aMask (md : Region.Mode) (o : Oper) : Nat := aMaskL md o.after.toList
theorem bit_one (n j : Nat) : (1 <<< n).testBit j = decide (n = j) := by
  rw [Nat.one_shiftLeft, Nat.testBit_two_pow]
theorem aMaskL_bit : ∀ (l : List Edge) (j : Nat), (aMaskL md l).testBit j = true ↔ ∃ e ∈ l, Region.binds md e = true ∧ e.on = j
  | [], j => by simp [aMaskL]
  | e :: l, j => by
    unfold aMaskL
    by_cases h : Region.binds md e = true
    · rw [if_pos h, Nat.testBit_or, bit_one, Bool.or_eq_true, decide_eq_true_eq, aMaskL_bit l j]
      constructor
      · rintro (h1 | ⟨x, hx, h1⟩)
        · exact ⟨e, by simp, h, h1⟩
        · exact ⟨x, by simp [hx], h1⟩
      · rintro ⟨x, hx, h1, h2⟩
        rcases List.mem_cons.1 hx with rfl | hx
        · exact .inl h2
        · exact .inr ⟨x, hx, h1, h2⟩
    · rw [if_neg h, aMaskL_bit l j]
      constructor
      · rintro ⟨x, hx, h1⟩; exact ⟨x, by simp [hx], h1⟩
      · rintro ⟨x, hx, h1, h2⟩
        rcases List.mem_cons.1 hx with rfl | hx
        · exact absurd h1 h
        · exact ⟨x, hx, h1, h2⟩
theorem sub_bits {A M : Nat} : (A &&& M == A) = true ↔ ∀ j, A.testBit j = true → M.testBit j = true := by
  rw [beq_iff_eq]
  constructor
  · intro h j hj
    have := congrArg (fun x => x.testBit j) h
    simp only [Nat.testBit_and, hj, Bool.true_and] at this
    exact this
  · intro h
    refine Nat.eq_of_testBit_eq (fun j => ?_)
    rw [Nat.testBit_and]
    cases hA : A.testBit j
    · rfl
    · rw [h j hA]; rfl
/-- what is done, as bits. -/
structure RepB (listed : Array Bool) (n M : Nat) : Prop where
  size : listed.size = n
  bit : ∀ j, listed.getD j false = M.testBit j
theorem RepB.start (n : Nat) : RepB (Array.replicate n false) n 0 := ⟨by simp, fun j => by rw [getD_replicate_false]; simp⟩
theorem RepB.set {listed : Array Bool} {n M : Nat} (h : RepB listed n M) {k : Nat} (hk : k < n) : RepB (listed.setIfInBounds k true) n (M ||| (1 <<< k)) := by
  refine ⟨by simp [h.size], fun j => ?_⟩
  rw [Nat.testBit_or, bit_one, ← h.bit]
  by_cases e : k = j
  · subst e
    have : k < listed.size := by rw [h.size]; exact hk
    simp [Array.getD, this]
  · rw [decide_eq_false e, Bool.or_false, getD_set_ne false e]
theorem RepB.in_ {listed : Array Bool} {n M : Nat} (h : RepB listed n M) {j : Nat} (hj : j < n) : listed.getD j true = M.testBit j := by
  rw [← h.bit]
  have : j < listed.size := by rw [h.size]; exact hj
  simp [Array.getD, this]
theorem RepB.eq {l1 l2 : Array Bool} {n M : Nat} (h : RepB l1 n M) (k : RepB l2 n M) : l1 = l2 := by
  refine Array.ext (by rw [h.size, k.size]) (fun i h1 h2 => ?_)
  have e1 := h.bit i
  have e2 := k.bit i
  rw [← e2] at e1
  simpa [Array.getD, h1, h2] using e1
def rdyF (M : Nat) : List Nat → Nat → List Nat
  | [], _ => []
  | A :: l, i => if !M.testBit i && (A &&& M == A) then i :: rdyF M l (i + 1) else rdyF M l (i + 1)
def masks (md : Region.Mode) (ops : Array Oper) : List Nat := ops.toList.map (aMask md)
theorem rdyF_eq {listed : Array Bool} {M : Nat} (h : RepB listed ops.size M) : ∀ (l : List Oper) (k : Nat), (∀ j, l[j]? = ops[k + j]?) →
    rdyF M (l.map (aMask md)) k = (List.range' k l.length).filter fun i => !listed.getD i true && ((ops[i]?).map (·.after.all fun e => !Region.binds md e || listed.getD e.on false)).getD false
  | [], _, _ => by simp [rdyF]
  | o :: l, k, hl => by
    have h0 : ops[k]? = some o := by simpa using (hl 0).symm
    have hk : k < ops.size := (Array.getElem?_eq_some_iff.1 h0).1
    have ih := rdyF_eq h l (k + 1) (fun j => by have := hl (j + 1); simpa [Nat.add_assoc, Nat.add_comm 1 j] using this)
    have hc : (!M.testBit k && (aMask md o &&& M == aMask md o)) = (!listed.getD k true && ((ops[k]?).map (·.after.all fun e => !Region.binds md e || listed.getD e.on false)).getD false) := by
      rw [h.in_ hk, h0]
      congr 1
      simp only [Option.map_some, Option.getD_some]
      rw [Bool.eq_iff_iff, sub_bits, Array.all_eq_true_iff_forall_mem]
      constructor
      · intro h1 e he
        cases hb : Region.binds md e
        · rfl
        · have := h1 e.on ((aMaskL_bit _ _).2 ⟨e, by simpa using he, hb, rfl⟩)
          rw [h.bit, this]; rfl
      · intro h1 j hj
        obtain ⟨e, he, hb, rfl⟩ := (aMaskL_bit _ _).1 hj
        have := h1 e (by simpa using he)
        rw [hb, h.bit] at this
        simpa using this
    rw [List.map_cons, rdyF, List.length_cons, List.range'_succ, List.filter_cons, hc, ih]
theorem ready_F {listed : Array Bool} {M : Nat} (h : RepB listed ops.size M) : Region.ready md ops listed = rdyF M (masks md ops) 0 := by
  unfold masks
  rw [rdyF_eq h ops.toList 0 (fun j => by simp)]
  unfold Region.ready
  rw [List.range_eq_range']
  simp
/-- those that are not apart from one, as bits; those that wait for one. -/
def naMaskL (ops : Array Oper) (x : Oper) (k : Nat) : List Oper → Nat → Nat
  | [], _ => 0
  | y :: l, j => if j == k || x.apart ops y then naMaskL ops x k l (j + 1) else (1 <<< j) ||| naMaskL ops x k l (j + 1)
def naMask (ops : Array Oper) (k : Nat) : Nat := match ops[k]? with | some x => naMaskL ops x k ops.toList 0 | none => 1 <<< ops.size
def dMask (k : Nat) : List Nat → Nat → Nat
  | [], _ => 0
  | A :: l, j => if A.testBit k then (1 <<< j) ||| dMask k l (j + 1) else dMask k l (j + 1)
def freeF (md : Region.Mode) (ops : Array Oper) (M k : Nat) : Bool := (ops[k]?).isSome && (naMask ops k &&& (M ||| dMask k (masks md ops) 0) == naMask ops k)
theorem naMaskL_bit {x : Oper} {k : Nat} : ∀ (l : List Oper) (i j : Nat) (y : Oper), l[j]? = some y → j + i ≠ k → x.apart ops y = false → (naMaskL ops x k l i).testBit (j + i) = true
  | [], _, _, _, h, _, _ => by simp at h
  | z :: l, i, 0, y, h, hk, ha => by
    have : z = y := by simpa using h
    subst this
    unfold naMaskL
    rw [show (i == k || x.apart ops z) = false from by rw [ha, Bool.or_false, beq_eq_false_iff_ne]; omega, if_neg (by simp), Nat.testBit_or, bit_one]
    simp
  | z :: l, i, j + 1, y, h, hk, ha => by
    have ih := naMaskL_bit (k := k) l (i + 1) j y (by simpa using h) (by omega) ha
    rw [show j + (i + 1) = j + 1 + i by omega] at ih
    unfold naMaskL
    split
    · exact ih
    · rw [Nat.testBit_or, ih]; simp
theorem dMask_low {k : Nat} : ∀ (l : List Nat) (i : Nat) {j : Nat}, j < i → (dMask k l i).testBit j = false
  | [], _, _, _ => by simp [dMask]
  | A :: l, i, j, h => by
    unfold dMask
    split
    · rw [Nat.testBit_or, bit_one, decide_eq_false (by omega), dMask_low l (i + 1) (by omega)]; rfl
    · exact dMask_low l (i + 1) (by omega)
theorem dMask_bit {k : Nat} : ∀ (l : List Nat) (i j : Nat), (dMask k l i).testBit (j + i) = true → ∃ A, l[j]? = some A ∧ A.testBit k = true
  | [], _, _, h => by simp [dMask] at h
  | A :: l, i, j, h => by
    unfold dMask at h
    match j with
    | 0 =>
      split at h
      · rename_i hA; exact ⟨A, rfl, hA⟩
      · exfalso
        have := dMask_low (k := k) l (i + 1) (j := 0 + i) (by omega)
        rw [this] at h; cases h
    | j + 1 =>
      have key : (dMask k l (i + 1)).testBit (j + (i + 1)) = true := by
        rw [show j + (i + 1) = j + 1 + i by omega]
        split at h
        · rw [Nat.testBit_or, bit_one, decide_eq_false (by omega), Bool.false_or] at h; exact h
        · exact h
      obtain ⟨B, h1, h2⟩ := dMask_bit l (i + 1) j key
      exact ⟨B, by simpa using h1, h2⟩
theorem free_F {listed : Array Bool} {M k : Nat} (h : RepB listed ops.size M) (hf : freeF md ops M k = true) : Region.free md ops listed k = true := by
  unfold freeF at hf
  rw [Bool.and_eq_true, sub_bits] at hf
  obtain ⟨h1, h2⟩ := hf
  obtain ⟨x, hx⟩ := Option.isSome_iff_exists.1 h1
  unfold Region.free
  simp only [hx, List.all_eq_true, List.mem_range]
  intro j hj
  have hoj : ops[j]? = some ops[j] := by simp [hj]
  simp only [hoj, Bool.or_eq_true, beq_iff_eq]
  by_cases e : j = k
  · exact .inl (.inl e)
  · cases ha : x.apart ops ops[j]
    · have hb : (naMask ops k).testBit j = true := by
        unfold naMask
        simp only [hx]
        have := naMaskL_bit (ops := ops) (x := x) (k := k) ops.toList 0 j ops[j] (by simp) (by omega) ha
        simpa using this
      have h3 := h2 j hb
      rw [Nat.testBit_or, Bool.or_eq_true] at h3
      rcases h3 with h3 | h3
      · exact .inl (.inr (by rw [h.in_ hj]; exact h3))
      · obtain ⟨A, hA, hAk⟩ := dMask_bit (masks md ops) 0 j h3
        unfold masks at hA
        rw [List.getElem?_map, Array.getElem?_toList, hoj] at hA
        simp only [Option.map_some, Option.some.injEq] at hA
        subst hA
        obtain ⟨e', he', hb', ho'⟩ := (aMaskL_bit _ _).1 hAk
        exact .inr (.inl (Array.any_eq_true'.2 ⟨e', Array.mem_toList_iff.1 he', by simp [hb', ho']⟩))
    · exact .inr (.inr rfl)
/-- the tail goes one by one. -/
def seqF (As : List Nat) : Nat → Nat → Nat → Bool
  | 0, _, M => (rdyF M As 0).isEmpty
  | g + 1, k, M => decide (rdyF M As 0 = [k]) && seqF As g (k + 1) (M ||| (1 <<< k))
theorem seq_F : ∀ (g k M : Nat) {listed : Array Bool}, RepB listed ops.size M → k + g ≤ ops.size → seqF (masks md ops) g k M = true → Region.seqB md ops g k listed = true
  | 0, k, M, listed, h, _, hs => by
    unfold Region.seqB
    rw [ready_F h]; exact hs
  | g + 1, k, M, listed, h, hk, hs => by
    unfold seqF at hs
    rw [Bool.and_eq_true] at hs
    unfold Region.seqB
    rw [ready_F h, Bool.and_eq_true]
    exact ⟨hs.1, seq_F g (k + 1) _ (h.set (by omega)) (by omega) hs.2⟩
def muteAt (ops : Array Oper) (k : Nat) : Bool := match ops[k]? with | some o => mute o.op | none => false
/-- a tree, gone through with bits; what is asked at its ends. -/
def tqF (md : Region.Mode) (ops : Array Oper) (As : List Nat) (n : Nat) (leaf : Nat → Bool) : Tq → Nat → Bool
  | .done, M => leaf M
  | .quiet k t, M => decide (k < n) && ((rdyF M As 0).contains k && freeF md ops M k && muteAt ops k) && tqF md ops As n leaf t (M ||| (1 <<< k))
  | .loud k t, M => decide (k < n) && decide (rdyF M As 0 = [k]) && tqF md ops As n leaf t (M ||| (1 <<< k))
  | .fork i t j u, M => decide (rdyF M As 0 = [i, j]) && decide (i < n) && decide (j < n) && decide (t.len = u.len) && tqF md ops As n leaf t (M ||| (1 <<< i)) && tqF md ops As n leaf u (M ||| (1 <<< j))
  | .fork3 i t j u k v, M => decide (rdyF M As 0 = [i, j, k]) && decide (i < n) && decide (j < n) && decide (k < n) && decide (t.len = u.len) && decide (t.len = v.len) && tqF md ops As n leaf t (M ||| (1 <<< i)) && tqF md ops As n leaf u (M ||| (1 <<< j)) && tqF md ops As n leaf v (M ||| (1 <<< k))
theorem tqc_F {n ML : Nat} {L : Array Bool} (hn : n ≤ ops.size) (hL : RepB L ops.size ML) : ∀ (t : Tq) (M : Nat) {listed : Array Bool}, RepB listed ops.size M → tqF md ops (masks md ops) n (fun M => M == ML) t M = true → tqcB md ops n L t listed = true
  | .done, M, listed, h, hf => by
    have e : M = ML := eq_of_beq hf
    subst e
    exact decide_eq_true (h.eq hL)
  | .quiet k t, M, listed, h, hf => by
    simp only [tqF, Bool.and_eq_true, decide_eq_true_eq] at hf
    obtain ⟨⟨hk, ⟨h1, h2⟩, h3⟩, h4⟩ := hf
    simp only [tqcB, Bool.and_eq_true, decide_eq_true_eq]
    exact ⟨⟨hk, ⟨by rw [ready_F h]; exact h1, free_F h h2⟩, h3⟩, tqc_F hn hL t _ (h.set (by omega)) h4⟩
  | .loud k t, M, listed, h, hf => by
    simp only [tqF, Bool.and_eq_true, decide_eq_true_eq] at hf
    obtain ⟨⟨hk, h1⟩, h4⟩ := hf
    simp only [tqcB, Bool.and_eq_true, decide_eq_true_eq]
    exact ⟨⟨hk, by rw [ready_F h]; exact h1⟩, tqc_F hn hL t _ (h.set (by omega)) h4⟩
  | .fork i t j u, M, listed, h, hf => by
    simp only [tqF, Bool.and_eq_true, decide_eq_true_eq] at hf
    obtain ⟨⟨⟨⟨⟨h1, hi⟩, hj⟩, hl⟩, h2⟩, h3⟩ := hf
    simp only [tqcB, Bool.and_eq_true, decide_eq_true_eq]
    exact ⟨⟨⟨⟨⟨by rw [ready_F h]; exact h1, hi⟩, hj⟩, hl⟩, tqc_F hn hL t _ (h.set (by omega)) h2⟩, tqc_F hn hL u _ (h.set (by omega)) h3⟩
  | .fork3 i t j u k v, M, listed, h, hf => by
    simp only [tqF, Bool.and_eq_true, decide_eq_true_eq] at hf
    obtain ⟨⟨⟨⟨⟨⟨⟨⟨h1, hi⟩, hj⟩, hk⟩, hl⟩, hl2⟩, h2⟩, h3⟩, h4⟩ := hf
    simp only [tqcB, Bool.and_eq_true, decide_eq_true_eq]
    exact ⟨⟨⟨⟨⟨⟨⟨⟨by rw [ready_F h]; exact h1, hi⟩, hj⟩, hk⟩, hl⟩, hl2⟩, tqc_F hn hL t _ (h.set (by omega)) h2⟩, tqc_F hn hL u _ (h.set (by omega)) h3⟩, tqc_F hn hL v _ (h.set (by omega)) h4⟩
theorem tq_F {n : Nat} (hn : n ≤ ops.size) : ∀ (t : Tq) (M : Nat) {listed : Array Bool}, RepB listed ops.size M → tqF md ops (masks md ops) n (seqF (masks md ops) (ops.size - n) n) t M = true → tqB md ops n (ops.size - n) t listed = true
  | .done, M, listed, h, hf => seq_F (ops.size - n) n M h (by omega) hf
  | .quiet k t, M, listed, h, hf => by
    simp only [tqF, Bool.and_eq_true, decide_eq_true_eq] at hf
    obtain ⟨⟨hk, ⟨h1, h2⟩, h3⟩, h4⟩ := hf
    simp only [tqB, Bool.and_eq_true, decide_eq_true_eq]
    exact ⟨⟨hk, ⟨by rw [ready_F h]; exact h1, free_F h h2⟩, h3⟩, tq_F hn t _ (h.set (by omega)) h4⟩
  | .loud k t, M, listed, h, hf => by
    simp only [tqF, Bool.and_eq_true, decide_eq_true_eq] at hf
    obtain ⟨⟨hk, h1⟩, h4⟩ := hf
    simp only [tqB, Bool.and_eq_true, decide_eq_true_eq]
    exact ⟨⟨hk, by rw [ready_F h]; exact h1⟩, tq_F hn t _ (h.set (by omega)) h4⟩
  | .fork i t j u, M, listed, h, hf => by
    simp only [tqF, Bool.and_eq_true, decide_eq_true_eq] at hf
    obtain ⟨⟨⟨⟨⟨h1, hi⟩, hj⟩, hl⟩, h2⟩, h3⟩ := hf
    simp only [tqB, Bool.and_eq_true, decide_eq_true_eq]
    exact ⟨⟨⟨⟨⟨by rw [ready_F h]; exact h1, hi⟩, hj⟩, hl⟩, tq_F hn t _ (h.set (by omega)) h2⟩, tq_F hn u _ (h.set (by omega)) h3⟩
  | .fork3 i t j u k v, M, listed, h, hf => by
    simp only [tqF, Bool.and_eq_true, decide_eq_true_eq] at hf
    obtain ⟨⟨⟨⟨⟨⟨⟨⟨h1, hi⟩, hj⟩, hk⟩, hl⟩, hl2⟩, h2⟩, h3⟩, h4⟩ := hf
    simp only [tqB, Bool.and_eq_true, decide_eq_true_eq]
    exact ⟨⟨⟨⟨⟨⟨⟨⟨by rw [ready_F h]; exact h1, hi⟩, hj⟩, hk⟩, hl⟩, hl2⟩, tq_F hn t _ (h.set (by omega)) h2⟩, tq_F hn u _ (h.set (by omega)) h3⟩, tq_F hn v _ (h.set (by omega)) h4⟩
/-- the first so many, as bits. -/
theorem repLow {n m : Nat} (hm : m ≤ n) : RepB (List.replicate m true ++ List.replicate (n - m) false).toArray n (1 <<< m - 1) := by
  refine ⟨by simp; omega, fun j => ?_⟩
  rw [Nat.one_shiftLeft, Nat.testBit_two_pow_sub_one]
  by_cases h : j < m
  · rw [decide_eq_true h]
    simp only [Array.getD, List.size_toArray, List.length_append, List.length_replicate]
    rw [dif_pos (by omega)]
    simp [List.getElem_append, h]
  · rw [decide_eq_false h]
    simp only [Array.getD, List.size_toArray, List.length_append, List.length_replicate]
    split
    · simp [List.getElem_append, h]
    · rfl
/-- the fast check of two trees: the first one ends where the first m are done. -/
def tq2F (md : Region.Mode) (ops : Array Oper) (n : Nat) (t1 : Tq) (m : Nat) (t2 : Tq) : Bool :=
  Region.noSelect ops && decide (n < ops.size) && Region.sinkB md ops n && Region.chainB md ops n && tqF md ops (masks md ops) n (fun M => M == 1 <<< m - 1) t1 0 && tqF md ops (masks md ops) n (seqF (masks md ops) (ops.size - n) n) t2 (1 <<< m - 1) && decide (m ≤ ops.size)
theorem tq2_F {n m : Nat} {t1 t2 : Tq} (h : tq2F md ops n t1 m t2 = true) : tq2B md ops n t1 (List.replicate m true ++ List.replicate (ops.size - m) false).toArray t2 = true := by
  simp only [tq2F, Bool.and_eq_true, decide_eq_true_eq] at h
  obtain ⟨⟨⟨⟨⟨⟨h1, h2⟩, h3⟩, h4⟩, h5⟩, h6⟩, h7⟩ := h
  simp only [tq2B, Bool.and_eq_true, decide_eq_true_eq]
  exact ⟨⟨⟨⟨⟨h1, h2⟩, h3⟩, h4⟩, tqc_F (by omega) (repLow h7) t1 0 (RepB.start _) h5⟩, tq_F (by omega) t2 _ (repLow h7) h6⟩
def tqeF (md : Region.Mode) (ops : Array Oper) (n : Nat) (t : Tq) : Bool :=
  Region.noSelect ops && decide (n < ops.size) && Region.sinkB md ops n && Region.chainB md ops n && tqF md ops (masks md ops) n (seqF (masks md ops) (ops.size - n) n) t 0
theorem tqe_F {n : Nat} {t : Tq} (h : tqeF md ops n t = true) : tqeB md ops n t = true := by
  simp only [tqeF, Bool.and_eq_true, decide_eq_true_eq] at h
  obtain ⟨⟨⟨⟨h1, h2⟩, h3⟩, h4⟩, h5⟩ := h
  simp only [tqeB, Bool.and_eq_true, decide_eq_true_eq]
  exact ⟨⟨⟨⟨h1, h2⟩, h3⟩, h4⟩, tq_F (by omega) t 0 (RepB.start _) h5⟩
variable {Q : Exit → Act → World → Prop}
theorem wp_region_ext_tq2F {id : Nat} {a : Act} {w : World} {l : List Oper} (n : Nat) (t1 : Tq) (m : Nat) (t2 : Tq) (hm : P.follows .mixedOrders = true)
    (hB : (tq2F .any l.toArray n t1 m t2 && decide (t1.len + t2.len = n)) = true) (hQ : ∀ d v c a w, Q (.panic c) (a.put d v) w → Q (.panic c) a w)
    (h : wqTree2 P l Q (fun w' => ∃ x : Ex w, w' = x.W) n t2 t1 a w.drew) : (Code.region id l.toArray true).wp P Q a w := by
  simp only [Bool.and_eq_true] at hB
  exact wp_region_ext_tq2 n t1 _ t2 hm (by rw [tq2_F hB.1, hB.2]; rfl) hQ h
theorem wp_region_ext_tqF {id : Nat} {a : Act} {w : World} {l : List Oper} (n : Nat) (t : Tq) (hm : P.follows .mixedOrders = true)
    (hB : (tqeF .any l.toArray n t && decide (t.len = n)) = true) (hQ : ∀ d v c a w, Q (.panic c) (a.put d v) w → Q (.panic c) a w)
    (h : wqTree P l Q (fun w' => ∃ x : Ex w, w' = x.W) n t a w.drew) : (Code.region id l.toArray true).wp P Q a w := by
  simp only [Bool.and_eq_true] at hB
  exact wp_region_ext_tq n t hm (by rw [tqe_F hB.1, hB.2]; rfl) hQ h
end
end Go.Proofs.Ythihdiilokdidaa
end

section
namespace Go.Proofs.Ythihdiilokdidaa
open Go.RowKit
attribute [local go_sem] Ex.cell? Ex.frozen?

/-- a team in memory. -/
structure TmIn (w : World) (B : Nat) (t : Tm) (Ar Ah : Option Addr) : Prop where
  rates : SlAt w B 2 Ar t.rates.length (fR t.rates)
  hours : SlAt w B 1 Ah t.hours.length (fI t.hours)
theorem TmIn.go {w w' : World} {t : Tm} {Ar Ah : Option Addr} (h : TmIn w w.heap.size t Ar Ah) (hb : Below w.heap.size w w') : TmIn w' w'.heap.size t Ar Ah :=
  ⟨(h.rates.below hb).up hb.size, (h.hours.below hb).up hb.size⟩
theorem TmIn.below {w w' : World} {B : Nat} {t : Tm} {Ar Ah : Option Addr} (h : TmIn w B t Ar Ah) (hb : Below B w w') : TmIn w' B t Ar Ah := ⟨h.rates.below hb, h.hours.below hb⟩
def rateB (r : Rg) : Bool := toB r.lo r.hi 100
def goodTm (t : Tm) : Bool := decide (t.rates.length ≠ 0) && (decide (t.hours.length = t.rates.length) && (allTo (fun k => rateB (gR t.rates k)) t.rates.length && (allTo (fun k => inB (gI t.hours k) 0 8) t.hours.length && (inB t.limit 0 1000 && inB t.most 0 8))))
def ckTm (t : Tm) : Int := if 3 < t.rates.length then 3 else if goodTm t then 0 else 1
theorem ckTm_iff {t : Tm} : ckTm t = 0 ↔ TmOk t := by
  unfold ckTm goodTm rateB
  constructor
  · intro h
    split at h
    · cases h
    · rename_i h3
      split at h
      · rename_i hg
        simp only [Bool.and_eq_true, decide_eq_true_eq, allTo_iff, inB_iff, toB_iff] at hg
        obtain ⟨h1, h2, h4, h5, h6, h7⟩ := hg
        exact ⟨⟨by omega, by omega, h2⟩, h4, fun i hi => h5 i (by omega), h6, h7⟩
      · cases h
  · intro h
    rw [if_neg (by have := h.len; omega), if_pos]
    simp only [Bool.and_eq_true, decide_eq_true_eq, allTo_iff, inB_iff, toB_iff]
    exact ⟨by have := h.len; omega, h.len.2.2, h.rate, fun k hk => h.hour k (by have := h.len; omega), h.limit, h.most⟩
/-- hours of three rooms, as an array. -/
def v3C (v : V3) : Array Value := #[.int .i64 v.a, .int .i64 v.b, .int .i64 v.c]
theorem v3_at (v : V3) {i : Nat} (hi : i < 3) : (v3C v)[i]? = some (.int .i64 (v.get i)) := by
  match i, hi with
  | 0, _ => rfl
  | 1, _ => rfl
  | 2, _ => rfl
theorem v3_set (v : V3) {i : Nat} (hi : i < 3) (x : Int) : (v3C v).setIfInBounds i (.int .i64 x) = v3C (v.set i x) := by
  match i, hi with
  | 0, _ => rfl
  | 1, _ => rfl
  | 2, _ => rfl
/-- hours from 0 to 8. -/
def HrBd (d : V3) : Prop := ∀ i, i < 3 → 0 ≤ d.get i ∧ d.get i ≤ 8

set_option maxHeartbeats 1600000 in
theorem rate_any (r : Rg) (w : World) :
    Calls Try.prog 63 #[.agg #[.int .i64 r.lo, .int .i64 r.hi]] w fun e w' => e = .returned (.bool (rateB r)) ∧ Below w.heap.size w w' := by
  have hb1 := ex_alloc (Below.refl w.heap.size w) (.cells #[.int .i64 r.lo, .int .i64 r.hi] 50)
  go_enter Try.func63, Try.ntmps63
  go_wp2_with fail
  refine (toR_any r.lo r.hi 100 _).mono ?_
  rintro e w' ⟨rfl, hb2⟩
  go_wp2
  go_ret
  exact ⟨rfl, ex_trans hb1 hb2⟩
set_option maxHeartbeats 1600000 in
theorem hours_any (n : Int) (w : World) :
    Calls Try.prog 65 #[.int .i64 n] w fun e w' => e = .returned (.bool (inB n 0 8)) ∧ Below w.heap.size w w' := by
  go_enter Try.func65, Try.ntmps65
  go_wp2_with fail
  refine (within_any n 0 8 w).mono ?_
  rintro e w' ⟨rfl, rfl⟩
  go_wp2
  go_ret
  exact ⟨rfl, Below.refl _ _⟩

set_option maxHeartbeats 1600000 in
theorem all1_hrs (n : Nat) (l : List Int) (w : World)  (k pb : Nat) (hk : k < n) (hp : pb < w.heap.size) (hc : w.cell? ⟨pb, 0, none⟩ = some (.func (.func 65) #[] #[])) :
    Calls Try.prog 103 #[.int .i64 (gI l k), .pointer (some ⟨pb, 0, none⟩)] w fun e w' => e = .returned (.bool (!(inB (gI l k) 0 8))) ∧ Below w.heap.size w w' := by
  go_enter Try.func103, Try.ntmps103
  go_wp2_with fail
  refine (hours_any (gI l k) w).mono ?_
  rintro e w2 ⟨rfl, hb2⟩
  go_wp2
  go_ret
  exact ⟨rfl, hb2⟩

set_option maxHeartbeats 1600000 in
theorem index_hrs (n : Nat) (l : List Int) (A : Option Addr) (c : Nat) (w : World)  (hA : SlAt w w.heap.size 1 A n (fI l)) (hl : n ≤ 1000000) (pb : Nat) (hp : pb < w.heap.size) (hc : w.cell? ⟨pb, 0, none⟩ = some (.func (.func 65) #[] #[])) :
    Calls Try.prog 123 #[.slice A n c, .func (.func 103) #[] #[.pointer (some ⟨pb, 0, none⟩)]] w fun e w' => e = .returned (.int .i64 (firstOf (fun k => !(inB (gI l k) 0 8)) n)) ∧ Below w.heap.size w w' := by
  go_enter Try.func123, Try.ntmps123
  go_wp2
  go_loopw [8] (fun i wr => ∃ k : Nat, k ≤ n ∧ i = .int .i64 k ∧ (∀ k', k' < k → (inB (gI l k') 0 8) = true) ∧ Below w.heap.size w wr)
    (fun i _ => n - (intOf i).toNat)
  case atStart => exact ⟨0, by omega, rfl, fun j hj => by omega, Below.refl _ _⟩
  case round =>
    obtain ⟨k, hk, rfl, hok, hbl⟩ := hrel
    by_cases hlt : k < n
    · have hAW := (hA.below hbl).up hbl.size
      obtain ⟨b, off, rfl, hbl2, g0⟩ := IsInts.at_ hAW hlt
      have hcr : wr.cell? ⟨pb, 0, none⟩ = some (.func (.func 65) #[] #[]) := (hbl.cell (p := ⟨pb, 0, none⟩) hp).trans hc
      have hpr : pb < wr.heap.size := by have := hbl.size; omega
      have HOK := Lib.hid hok
      clear hok
      cases ht : (inB (gI l k) 0 8)
      · have HT := Lib.hid ht
        have HF : Hid (firstOf (fun k => !(inB (gI l k) 0 8)) n = (k : Int)) := Lib.hid (firstOf_at hlt (fun j hj => by have := HOK.out j hj; simp only [this]; rfl) (by simp only [ht]; rfl))
        clear ht
        go_wp2_with fail
        refine (all1_hrs n l wr  k pb hlt hpr hcr).mono ?_
        rintro e w2 ⟨rfl, hb2⟩
        rw [HT.out]
        go_wp2
        go_ret
        exact ⟨ret_int HF.out.symm, ex_trans hbl hb2⟩
      · have HT := Lib.hid ht
        clear ht
        go_wp2_with fail
        refine (all1_hrs n l wr  k pb hlt hpr hcr).mono ?_
        rintro e w2 ⟨rfl, hb2⟩
        rw [HT.out]
        go_wp2
        go_roundw
        case rel => exact ⟨k + 1, by omega, by go_num, fun j hj => by rcases Nat.lt_succ_iff_lt_or_eq.1 hj with h | h; exact HOK.out j h; exact h ▸ HT.out, ex_trans hbl hb2⟩
        case measure => simp [intOf]; omega
    · obtain rfl : k = n := by omega
      have HF : Hid (firstOf (fun k => !(inB (gI l k) 0 8)) k = -1) := Lib.hid (firstOf_neg fun j hj => by have := hok j hj; simp only [this]; rfl)
      go_wp2
      go_ret
      exact ⟨ret_int HF.out.symm, hbl⟩

theorem contains_hrs (n : Nat) (l : List Int) (A : Option Addr) (c : Nat) (w : World)  (hA : SlAt w w.heap.size 1 A n (fI l)) (hl : n ≤ 1000000) (pb : Nat) (hp : pb < w.heap.size) (hc : w.cell? ⟨pb, 0, none⟩ = some (.func (.func 65) #[] #[])) :
    Calls Try.prog 102 #[.slice A n c, .func (.func 103) #[] #[.pointer (some ⟨pb, 0, none⟩)]] w fun e w' => e = .returned (.bool (!allTo (fun k => (inB (gI l k) 0 8)) n)) ∧ Below w.heap.size w w' := by
  have HF : Hid (decide (0 ≤ firstOf (fun k => !(inB (gI l k) 0 8)) n) = !allTo (fun k => (inB (gI l k) 0 8)) n) := Lib.hid (by rw [firstOf_nonneg]; simp)
  go_enter Try.func102, Try.ntmps102
  go_wp2_with fail
  refine (index_hrs n l A c w  hA hl pb hp hc).mono ?_
  rintro e w2 ⟨rfl, hb2⟩
  go_wp2
  go_ret
  exact ⟨ret_bool HF.out, hb2⟩

theorem all_hrs (n : Nat) (l : List Int) (A : Option Addr) (c : Nat) (w : World)  (hA : SlAt w w.heap.size 1 A n (fI l)) (hl : n ≤ 1000000) :
    Calls Try.prog 68 #[.slice A n c, .func (.func 65) #[] #[]] w fun e w' => e = .returned (.bool (allTo (fun k => (inB (gI l k) 0 8)) n)) ∧ Below w.heap.size w w' := by
  have hb1 := ex_alloc (Below.refl w.heap.size w) (.cells #[.func (.func 65) #[] #[]] 130)
  have hA1 := (hA.below hb1).up hb1.size
  go_enter Try.func68, Try.ntmps68
  go_wp2_with fail
  refine (contains_hrs n l A c _  hA1 hl w.heap.size (by simp) (by simp [go_sem])).mono ?_
  rintro e w2 ⟨rfl, hb2⟩
  go_wp2
  go_ret
  exact ⟨by simp, ex_trans hb1 hb2⟩

set_option maxHeartbeats 1600000 in
theorem all1_rate (n : Nat) (l : List Rg) (w : World)  (k pb : Nat) (hk : k < n) (hp : pb < w.heap.size) (hc : w.cell? ⟨pb, 0, none⟩ = some (.func (.func 63) #[] #[])) :
    Calls Try.prog 101 #[.agg #[.int .i64 (gR l k).lo, .int .i64 (gR l k).hi], .pointer (some ⟨pb, 0, none⟩)] w fun e w' => e = .returned (.bool (!(rateB (gR l k)))) ∧ Below w.heap.size w w' := by
  go_enter Try.func101, Try.ntmps101
  go_wp2_with fail
  have X9 := ex_alloc (Below.refl w.heap.size w) (.cells #[.int .i64 (gR l k).lo, .int .i64 (gR l k).hi] 50)
  refine (rate_any (gR l k) _).mono ?_
  rintro e w2 ⟨rfl, hb2⟩
  go_wp2
  go_ret
  exact ⟨rfl, ex_trans X9 hb2⟩

set_option maxHeartbeats 1600000 in
theorem index_rate (n : Nat) (l : List Rg) (A : Option Addr) (c : Nat) (w : World)  (hA : SlAt w w.heap.size 2 A n (fR l)) (hl : n ≤ 1000000) (pb : Nat) (hp : pb < w.heap.size) (hc : w.cell? ⟨pb, 0, none⟩ = some (.func (.func 63) #[] #[])) :
    Calls Try.prog 122 #[.slice A n c, .func (.func 101) #[] #[.pointer (some ⟨pb, 0, none⟩)]] w fun e w' => e = .returned (.int .i64 (firstOf (fun k => !(rateB (gR l k))) n)) ∧ Below w.heap.size w w' := by
  go_enter Try.func122, Try.ntmps122
  go_wp2
  go_loopw [8] (fun i wr => ∃ k : Nat, k ≤ n ∧ i = .int .i64 k ∧ (∀ k', k' < k → (rateB (gR l k')) = true) ∧ Below w.heap.size w wr)
    (fun i _ => n - (intOf i).toNat)
  case atStart => exact ⟨0, by omega, rfl, fun j hj => by omega, Below.refl _ _⟩
  case round =>
    obtain ⟨k, hk, rfl, hok, hbl⟩ := hrel
    by_cases hlt : k < n
    · have hAW := (hA.below hbl).up hbl.size
      obtain ⟨bi, oi, rfl, hbi, g0, g1⟩ := IsRgs.at_ hAW hlt
      have hcr : wr.cell? ⟨pb, 0, none⟩ = some (.func (.func 63) #[] #[]) := (hbl.cell (p := ⟨pb, 0, none⟩) hp).trans hc
      have hpr : pb < wr.heap.size := by have := hbl.size; omega
      have HOK := Lib.hid hok
      clear hok
      cases ht : (rateB (gR l k))
      · have HT := Lib.hid ht
        have HF : Hid (firstOf (fun k => !(rateB (gR l k))) n = (k : Int)) := Lib.hid (firstOf_at hlt (fun j hj => by have := HOK.out j hj; simp only [this]; rfl) (by simp only [ht]; rfl))
        clear ht
        go_wp2_with fail
        refine (all1_rate n l wr  k pb hlt hpr hcr).mono ?_
        rintro e w2 ⟨rfl, hb2⟩
        rw [HT.out]
        go_wp2
        go_ret
        exact ⟨ret_int HF.out.symm, ex_trans hbl hb2⟩
      · have HT := Lib.hid ht
        clear ht
        go_wp2_with fail
        refine (all1_rate n l wr  k pb hlt hpr hcr).mono ?_
        rintro e w2 ⟨rfl, hb2⟩
        rw [HT.out]
        go_wp2
        go_roundw
        case rel => exact ⟨k + 1, by omega, by go_num, fun j hj => by rcases Nat.lt_succ_iff_lt_or_eq.1 hj with h | h; exact HOK.out j h; exact h ▸ HT.out, ex_trans hbl hb2⟩
        case measure => simp [intOf]; omega
    · obtain rfl : k = n := by omega
      have HF : Hid (firstOf (fun k => !(rateB (gR l k))) k = -1) := Lib.hid (firstOf_neg fun j hj => by have := hok j hj; simp only [this]; rfl)
      go_wp2
      go_ret
      exact ⟨ret_int HF.out.symm, hbl⟩

theorem contains_rate (n : Nat) (l : List Rg) (A : Option Addr) (c : Nat) (w : World)  (hA : SlAt w w.heap.size 2 A n (fR l)) (hl : n ≤ 1000000) (pb : Nat) (hp : pb < w.heap.size) (hc : w.cell? ⟨pb, 0, none⟩ = some (.func (.func 63) #[] #[])) :
    Calls Try.prog 100 #[.slice A n c, .func (.func 101) #[] #[.pointer (some ⟨pb, 0, none⟩)]] w fun e w' => e = .returned (.bool (!allTo (fun k => (rateB (gR l k))) n)) ∧ Below w.heap.size w w' := by
  have HF : Hid (decide (0 ≤ firstOf (fun k => !(rateB (gR l k))) n) = !allTo (fun k => (rateB (gR l k))) n) := Lib.hid (by rw [firstOf_nonneg]; simp)
  go_enter Try.func100, Try.ntmps100
  go_wp2_with fail
  refine (index_rate n l A c w  hA hl pb hp hc).mono ?_
  rintro e w2 ⟨rfl, hb2⟩
  go_wp2
  go_ret
  exact ⟨ret_bool HF.out, hb2⟩

theorem all_rate (n : Nat) (l : List Rg) (A : Option Addr) (c : Nat) (w : World)  (hA : SlAt w w.heap.size 2 A n (fR l)) (hl : n ≤ 1000000) :
    Calls Try.prog 67 #[.slice A n c, .func (.func 63) #[] #[]] w fun e w' => e = .returned (.bool (allTo (fun k => (rateB (gR l k))) n)) ∧ Below w.heap.size w w' := by
  have hb1 := ex_alloc (Below.refl w.heap.size w) (.cells #[.func (.func 63) #[] #[]] 131)
  have hA1 := (hA.below hb1).up hb1.size
  go_enter Try.func67, Try.ntmps67
  go_wp2_with fail
  refine (contains_rate n l A c _  hA1 hl w.heap.size (by simp) (by simp [go_sem])).mono ?_
  rintro e w2 ⟨rfl, hb2⟩
  go_wp2
  go_ret
  exact ⟨by simp, ex_trans hb1 hb2⟩
set_option maxRecDepth 100000 in
set_option maxHeartbeats 3200000 in
theorem checkTm_any (t : Tm) (Ar Ah : Option Addr) (cr ch : Nat) (w : World) (ht : TmIn w w.heap.size t Ar Ah) (hsm : t.rates.length ≤ 1000 ∧ t.hours.length ≤ 1000) :
    Calls Try.prog 24 #[.agg #[.slice Ar t.rates.length cr, .slice Ah t.hours.length ch, .int .i64 t.limit, .int .i64 t.most]] w fun e w' => e = .returned (.int .i64 (ckTm t)) ∧ Below w.heap.size w w' := by
  have hR := ht.rates
  have hH := ht.hours
  obtain ⟨n1, hn1⟩ : ∃ n, t.rates.length = n := ⟨_, rfl⟩
  obtain ⟨n2, hn2⟩ : ∃ n, t.hours.length = n := ⟨_, rfl⟩
  rw [hn1] at hR hsm ⊢
  rw [hn2] at hH hsm ⊢
  have HN1 := Lib.hid hn1
  have HN2 := Lib.hid hn2
  clear hn1 hn2 ht
  have hb1 := ex_alloc (Below.refl w.heap.size w) (.cells #[.slice Ar n1 cr, .slice Ah n2 ch, .int .i64 t.limit, .int .i64 t.most] 59)
  have q0 : Blk (w.alloc (.cells #[.slice Ar n1 cr, .slice Ah n2 ch, .int .i64 t.limit, .int .i64 t.most] 59)) w.heap.size 59 #[.slice Ar n1 cr, .slice Ah n2 ch, .int .i64 t.limit, .int .i64 t.most] := Blk.new _ _ _
  have hR1 := (hR.below hb1).up hb1.size
  have hH1 := (hH.below hb1).up hb1.size
  go_enter Try.func24, Try.ntmps24
  go_upto_region 3 with fail
  obtain ⟨p0, hp0⟩ : ∃ p, w.heap.size = p := ⟨_, rfl⟩
  rw [hp0] at q0 ⊢
  generalize w.alloc (.cells #[.slice Ar n1 cr, .slice Ah n2 ch, .int .i64 t.limit, .int .i64 t.most] 59) = W1 at *
  clear hp0
  have a0 : W1.cell? ⟨p0, 0, none⟩ = some (.slice Ar n1 cr) := q0.cell 0
  have a1 : W1.cell? ⟨p0, 1, none⟩ = some (.slice Ah n2 ch) := q0.cell 1
  have a2 : W1.cell? ⟨p0, 2, none⟩ = some (.int .i64 t.limit) := q0.cell 2
  have a3 : W1.cell? ⟨p0, 3, none⟩ = some (.int .i64 t.most) := q0.cell 3
  have l0 := q0.lt
  by_cases h3 : 3 < n1
  · have HF : Hid (ckTm t = 3) := Lib.hid (by unfold ckTm; rw [HN1.out, if_pos h3])
    go_wp2
    go_ret
    exact ⟨by rw [HF.out]; rfl, hb1⟩
  · by_cases h0 : n1 = 0
    · subst h0
      have HF : Hid (ckTm t = 1) := Lib.hid (by unfold ckTm; rw [HN1.out, if_neg (by omega), if_neg (by unfold goodTm; rw [HN1.out]; simp)])
      go_wp2
      go_ret
      exact ⟨by rw [HF.out]; rfl, hb1⟩
    · by_cases h2 : n2 = n1
      · subst h2
        have H0 := Lib.hid h0
        have hq0 : ¬ ((n2 : Int) = 0) := by omega
        have hq1 : ((n2 : Int) == 0) = false := by simpa using h0
        go_wp2_with fail
        refine (all_rate n2 t.rates Ar cr W1 hR1 (by omega)).mono ?_
        rintro e W2 ⟨rfl, h2⟩
        have B2 := ex_trans hb1 h2
        have q02 := q0.below h2 q0.lt
        have hH2 := (hH1.below h2).up h2.size
        clear a0 a1 a2 a3 l0
        have a0 : W2.cell? ⟨p0, 0, none⟩ = some (.slice Ar n2 cr) := q02.cell 0
        have a1 : W2.cell? ⟨p0, 1, none⟩ = some (.slice Ah n2 ch) := q02.cell 1
        have a2 : W2.cell? ⟨p0, 2, none⟩ = some (.int .i64 t.limit) := q02.cell 2
        have a3 : W2.cell? ⟨p0, 3, none⟩ = some (.int .i64 t.most) := q02.cell 3
        have l0 := q02.lt
        cases hA : allTo (fun k => rateB (gR t.rates k)) n2
        · have HA := Lib.hid hA
          clear hA
          have HF : Hid (ckTm t = 1) := Lib.hid (by unfold ckTm; rw [HN1.out, if_neg (by omega), if_neg (by unfold goodTm; rw [HN1.out, HN2.out, HA.out]; simp)])
          go_wp2
          go_ret
          exact ⟨by rw [HF.out]; rfl, B2⟩
        · have HA := Lib.hid hA
          clear hA
          go_wp2_with fail
          refine (all_hrs n2 t.hours Ah ch W2 hH2 (by omega)).mono ?_
          rintro e W3 ⟨rfl, h3⟩
          have B3 := ex_trans B2 h3
          have q03 := q02.below h3 q02.lt
          clear a0 a1 a2 a3 l0
          have a0 : W3.cell? ⟨p0, 0, none⟩ = some (.slice Ar n2 cr) := q03.cell 0
          have a1 : W3.cell? ⟨p0, 1, none⟩ = some (.slice Ah n2 ch) := q03.cell 1
          have a2 : W3.cell? ⟨p0, 2, none⟩ = some (.int .i64 t.limit) := q03.cell 2
          have a3 : W3.cell? ⟨p0, 3, none⟩ = some (.int .i64 t.most) := q03.cell 3
          have l0 := q03.lt
          cases hB : allTo (fun k => inB (gI t.hours k) 0 8) n2
          · have HB := Lib.hid hB
            clear hB
            have HF : Hid (ckTm t = 1) := Lib.hid (by unfold ckTm; rw [HN1.out, if_neg (by omega), if_neg (by unfold goodTm; rw [HN1.out, HN2.out, HA.out, HB.out]; simp)])
            go_wp2
            go_ret
            exact ⟨by rw [HF.out]; rfl, B3⟩
          · have HB := Lib.hid hB
            clear hB
            go_wp2_with fail
            refine (within_any t.limit 0 1000 W3).mono ?_
            rintro e w' ⟨rfl, rfl⟩
            cases hC : inB t.limit 0 1000
            · have HC := Lib.hid hC
              clear hC
              have HF : Hid (ckTm t = 1) := Lib.hid (by unfold ckTm; rw [HN1.out, if_neg (by omega), if_neg (by unfold goodTm; rw [HN1.out, HN2.out, HA.out, HB.out, HC.out]; simp)])
              go_wp2
              go_ret
              exact ⟨by rw [HF.out]; rfl, B3⟩
            · have HC := Lib.hid hC
              clear hC
              go_wp2_with fail
              refine (hours_any t.most W3).mono ?_
              rintro e W4 ⟨rfl, h4⟩
              have B4 := ex_trans B3 h4
              cases hD : inB t.most 0 8
              · have HD := Lib.hid hD
                clear hD
                have HF : Hid (ckTm t = 1) := Lib.hid (by unfold ckTm; rw [HN1.out, if_neg (by omega), if_neg (by unfold goodTm; rw [HN1.out, HN2.out, HA.out, HB.out, HC.out, HD.out]; simp)])
                go_wp2
                go_ret
                exact ⟨by rw [HF.out]; rfl, B4⟩
              · have HD := Lib.hid hD
                clear hD
                have HF : Hid (ckTm t = 0) := Lib.hid (by unfold ckTm; rw [HN1.out, if_neg (by omega), if_pos (by unfold goodTm; rw [HN1.out, HN2.out, HA.out, HB.out, HC.out, HD.out]; simp [H0.out])])
                go_wp2
                go_ret
                exact ⟨by rw [HF.out]; rfl, B4⟩
      · have hq0 : ¬ ((n1 : Int) = 0) := by omega
        have hq1 : ((n1 : Int) == 0) = false := by simpa using h0
        have hq2 : ((n2 : Int) != (n1 : Int)) = true := by rw [bne_iff_ne]; omega
        have HF : Hid (ckTm t = 1) := Lib.hid (by unfold ckTm; rw [HN1.out, if_neg (by omega), if_neg (by unfold goodTm; rw [HN1.out, HN2.out]; simp [h2])])
        go_wp2
        go_ret
        exact ⟨by rw [HF.out]; rfl, hb1⟩
set_option maxRecDepth 100000 in
set_option maxHeartbeats 3200000 in
theorem may_team (t : Tm) (Ar Ah : Option Addr) (cr ch : Nat) (w : World) (ht : TmIn w w.heap.size t Ar Ah) (hok : TmOk t) (d : V3) (hbd : HrBd d) :
    Calls Try.prog 73 #[.agg #[.slice Ar t.rates.length cr, .slice Ah t.hours.length ch, .int .i64 t.limit, .int .i64 t.most], .agg (v3C d)] w fun e w' => e = .returned (.bool (mayB t d)) ∧ Below w.heap.size w w' := by
  unfold v3C
  have hl := hok.len
  have hl3 : t.rates.length ≤ 3 := hl.2.1
  clear hl
  have hb1 := ex_alloc (ex_alloc (Below.refl w.heap.size w) (.cells #[.slice Ar t.rates.length cr, .slice Ah t.hours.length ch, .int .i64 t.limit, .int .i64 t.most] 59)) (.cells #[.int .i64 d.a, .int .i64 d.b, .int .i64 d.c] 136)
  have q0 : Blk ((w.alloc (.cells #[.slice Ar t.rates.length cr, .slice Ah t.hours.length ch, .int .i64 t.limit, .int .i64 t.most] 59)).alloc (.cells #[.int .i64 d.a, .int .i64 d.b, .int .i64 d.c] 136)) w.heap.size 59 #[.slice Ar t.rates.length cr, .slice Ah t.hours.length ch, .int .i64 t.limit, .int .i64 t.most] := (Blk.new _ _ _).alloc _
  have q1 : Blk ((w.alloc (.cells #[.slice Ar t.rates.length cr, .slice Ah t.hours.length ch, .int .i64 t.limit, .int .i64 t.most] 59)).alloc (.cells #[.int .i64 d.a, .int .i64 d.b, .int .i64 d.c] 136)) (w.heap.size + 1) 136 (v3C d) := Blk.new' _ _ _ (by simp)
  go_enter Try.func73, Try.ntmps73
  go_upto_region 2 with fail
  show Code.wp _ _ _ _ ((w.alloc (.cells #[.slice Ar t.rates.length cr, .slice Ah t.hours.length ch, .int .i64 t.limit, .int .i64 t.most] 59)).alloc (.cells #[.int .i64 d.a, .int .i64 d.b, .int .i64 d.c] 136))
  obtain ⟨p0, hp0⟩ : ∃ p, w.heap.size = p := ⟨_, rfl⟩
  rw [hp0] at q0 q1 ⊢
  have HP0 := Lib.hid hp0
  generalize (w.alloc (.cells #[.slice Ar t.rates.length cr, .slice Ah t.hours.length ch, .int .i64 t.limit, .int .i64 t.most] 59)).alloc (.cells #[.int .i64 d.a, .int .i64 d.b, .int .i64 d.c] 136) = W1 at *
  clear hp0
  have a0 : W1.cell? ⟨p0, 0, none⟩ = some (.slice Ar t.rates.length cr) := q0.cell 0
  have a1 : W1.cell? ⟨p0, 1, none⟩ = some (.slice Ah t.hours.length ch) := q0.cell 1
  have a2 : W1.cell? ⟨p0, 2, none⟩ = some (.int .i64 t.limit) := q0.cell 2
  have a3 : W1.cell? ⟨p0, 3, none⟩ = some (.int .i64 t.most) := q0.cell 3
  have l0 := q0.lt
  go_wp2_with fail
  refine wp_loop (fun a W => Rel (fun a W => ∃ k : Nat, k ≤ t.rates.length ∧ Below w.heap.size w W ∧ Blk W p0 59 #[.slice Ar t.rates.length cr, .slice Ah t.hours.length ch, .int .i64 t.limit, .int .i64 t.most] ∧ Blk W (p0 + 1) 136 (v3C d) ∧ (0 ≤ hrsTo d k ∧ hrsTo d k ≤ 8 * k ∧ 0 ≤ brTo t d k ∧ brTo t d k ≤ 800 * k) ∧ ∃ u : Nat → Value, a = ⟨List.toArray (u 0 :: u 1 :: .pointer (some ⟨p0, 0, none⟩) :: .pointer (some ⟨p0 + 1, 0, none⟩) :: u 4 :: .int .i64 (hrsTo d k) :: .int .i64 (brTo t d k) :: u 7 :: u 8 :: u 9 :: .slice Ar t.rates.length cr :: .int .i64 (t.rates.length : Int) :: .int .i64 (k : Int) :: u 13 :: u 14 :: u 15 :: u 16 :: u 17 :: u 18 :: u 19 :: u 20 :: u 21 :: u 22 :: u 23 :: u 24 :: u 25 :: u 26 :: u 27 :: u 28 :: u 29 :: u 30 :: u 31 :: u 32 :: u 33 :: u 34 :: u 35 :: u 36 :: u 37 :: u 38 :: u 39 :: u 40 :: []), []⟩) a W) (fun a _ => t.rates.length - (intOf (a.tmps.getD 12 undef)).toNat) ⟨⟨0, by omega, hb1, q0, q1, by simp [hrsTo, brTo, esum], exFrame (by kernel_rfl)⟩⟩ ?_
  clear a0 a1 a2 a3 l0 q0 q1 hb1 W1
  rintro a W ⟨⟨k, hk, hb, q0, q1, hbd2, u, rfl⟩⟩
  have a0 : W.cell? ⟨p0, 0, none⟩ = some (.slice Ar t.rates.length cr) := q0.cell 0
  have a1 : W.cell? ⟨p0, 1, none⟩ = some (.slice Ah t.hours.length ch) := q0.cell 1
  have a2 : W.cell? ⟨p0, 2, none⟩ = some (.int .i64 t.limit) := q0.cell 2
  have a3 : W.cell? ⟨p0, 3, none⟩ = some (.int .i64 t.most) := q0.cell 3
  have l0 := q0.lt
  by_cases hlt : k < t.rates.length
  · have hk3 : k < 3 := by omega
    obtain ⟨b, off, rfl, hbl, g0, g1⟩ := IsRgs.at_ (ht.rates.below hb) hlt
    have hrk := hok.rate k hlt
    have hdk := hbd k hk3
    have hm1 : 0 ≤ d.get k * (gR t.rates k).hi ∧ d.get k * (gR t.rates k).hi ≤ 800 := ⟨Int.mul_nonneg hdk.1 (by omega), by have := Int.mul_le_mul hdk.2 (show (gR t.rates k).hi ≤ 100 by omega) (by omega) (by decide); omega⟩
    have hs1 := hrsTo_succ d k
    have hs2 := brTo_succ t d k
    obtain ⟨⟨rl, rh⟩, hr⟩ : ∃ x, gR t.rates k = x := ⟨_, rfl⟩
    rw [hr] at g0 g1 hm1 hs2
    dsimp only at g0 g1 hm1 hs2
    obtain ⟨dk, hdk2⟩ : ∃ x, d.get k = x := ⟨_, rfl⟩
    have hv := q1.cell k
    rw [v3_at d hk3, hdk2] at hv
    rw [hdk2] at hs1 hs2 hm1 hdk
    obtain ⟨h0, hh0⟩ : ∃ x, hrsTo d k = x := ⟨_, rfl⟩
    obtain ⟨b0, hb0⟩ : ∃ x, brTo t d k = x := ⟨_, rfl⟩
    rw [hh0] at hs1 hbd2 ⊢
    rw [hb0] at hs2 hbd2 ⊢
    have HS1 := Lib.hid hs1
    have HS2 := Lib.hid hs2
    clear hs1 hs2 hr hdk2 hh0 hb0 hrk
    have X1 := ex_alloc (Below.refl W.heap.size W) (.cells #[.int .i64 rl, .int .i64 rh] 50)
    have q8 : Blk (W.alloc (.cells #[.int .i64 rl, .int .i64 rh] 50)) W.heap.size 50 #[.int .i64 rl, .int .i64 rh] := Blk.new _ _ _
    have hbW : b < W.heap.size := by have := hb.size; omega
    have q02 := q0.below X1 l0
    have l1 := q1.lt
    have q12 := q1.below X1 l1
    have hb2 := ex_trans hb X1
    have hv2 : (W.alloc (.cells #[.int .i64 rl, .int .i64 rh] 50)).cell? ⟨p0 + 1, k, none⟩ = some (.int .i64 dk) := (X1.cell (p := ⟨p0 + 1, k, none⟩) l1).trans hv
    have hk33 : (k : Int) < 3 := by omega
    go_upto_region 6 with fail
    obtain ⟨p8, hp8⟩ : ∃ p, W.heap.size = p := ⟨_, rfl⟩
    rw [hp8] at q8 ⊢
    generalize W.alloc (.cells #[.int .i64 rl, .int .i64 rh] 50) = Y at *
    clear hp8 a0 a1 a2 a3 l0 g0 g1 hv
    have z0 : Y.cell? ⟨p8, 0, none⟩ = some (.int .i64 rl) := q8.cell 0
    have z1 : Y.cell? ⟨p8, 1, none⟩ = some (.int .i64 rh) := q8.cell 1
    have lz := q8.lt
    have l1y := q12.lt
    have D0 := (Below.refl Y.heap.size Y).drew
    refine wp_region_ext_mix 8 [(false, 0), (false, 1), (false, 2), (false, 3), (false, 4), (false, 5), (false, 6), (false, 7)] (by kernel_rfl) (by kernel_rfl) (by intro d _ _ _ _ h; cases d <;> exact h) ?_
    repeat (refine mix_quiet rfl ?_; go_big_quiet_step (fail); refine wpQuiet_nil ?_)
    refine mix_nil (r := [_]) rfl ?_
    have hb3 := ex_trans hb2 D0
    have q03 := q02.below D0 q02.lt
    have q13 := q12.below D0 q12.lt
    go_wp2_with fail
    refine ⟨⟨⟨k + 1, by omega, hb3, q03, q13, by rw [HS1.out, HS2.out]; omega, exFrame (by rw [HS1.out, HS2.out]; kernel_rfl)⟩⟩, ?_⟩
    show t.rates.length - (intOf (.int .i64 ((k : Int) + 1))).toNat < t.rates.length - (intOf (.int .i64 (k : Int))).toNat
    simp [intOf]
    omega
  · have hkr : k = t.rates.length := by omega
    have HM : Hid (mayB t d = (decide (hrsTo d k ≤ t.most) && decide (brTo t d k ≤ t.limit))) := Lib.hid (by unfold mayB; rw [hkr])
    clear hkr
    by_cases h1 : hrsTo d k ≤ t.most
    · have HF : Hid (mayB t d = decide (brTo t d k ≤ t.limit)) := Lib.hid (by rw [HM.out, decide_eq_true h1]; rfl)
      go_wp2
      go_ret
      exact ⟨by rw [HF.out]; rfl, hb⟩
    · have HF : Hid (mayB t d = false) := Lib.hid (by rw [HM.out, decide_eq_false (by omega)]; rfl)
      go_wp2
      go_ret
      exact ⟨by rw [HF.out]; rfl, hb⟩
end Go.Proofs.Ythihdiilokdidaa
end

section
namespace Go.Proofs.Ythihdiilokdidaa
/-- what add adds. -/
def addL (t : Tm) (l : V3) : Nat → V3 → Nat → List V3
  | 0, d, _ => if mayB t d = true then (if d = z3 then [] else [d]) else []
  | f + 1, d, r => if mayB t d = true then (List.range ((l.get r).toNat + 1)).flatMap (fun n : Nat => addL t l f (d.set r (n : Int)) (r + 1)) else []
theorem V3.set_set (d : V3) (r : Nat) (x y : Int) : (d.set r x).set r y = d.set r y := by
  match r with
  | 0 => rfl
  | 1 => rfl
  | 2 => rfl
  | _ + 3 => rfl
theorem V3.set_get_self (d : V3) (r : Nat) : d.set r (d.get r) = d := by
  match r with
  | 0 => rfl
  | 1 => rfl
  | 2 => rfl
  | _ + 3 => rfl
theorem V3.get_far (d : V3) {i : Nat} (h : 3 ≤ i) : d.get i = 0 := by
  match i, h with
  | _ + 3, _ => rfl
theorem z3_get (i : Nat) : z3.get i = 0 := by
  match i with
  | 0 => rfl
  | 1 => rfl
  | 2 => rfl
  | _ + 3 => rfl
theorem addL_mem {t : Tm} {l : V3} (ht : TmOk t) (hl : HrOk t l) : ∀ (f : Nat) (d : V3) (r : Nat), r + f = t.rates.length → (∀ i, r ≤ i → d.get i = 0) → (∀ i, i < r → 0 ≤ d.get i ∧ d.get i ≤ l.get i) → ∀ e, e ∈ addL t l f d r ↔ (Part t e l ∧ e ≠ z3 ∧ ∀ i, i < r → e.get i = d.get i)
  | 0, d, r, hrf, h0, hb, e => by
    have hr : r = t.rates.length := by omega
    have key : Part t e l → (∀ i, i < r → e.get i = d.get i) → e = d := fun hp he => V3.ext' fun i hi => by
      by_cases h : i < r
      · exact he i h
      · have a := hp.bd i hi
        have b := hl.far i (by omega)
        rw [h0 i (by omega)]
        omega
    have dl : ∀ i, i < 3 → 0 ≤ d.get i ∧ d.get i ≤ l.get i := fun i hi => by
      by_cases h : i < r
      · exact hb i h
      · rw [h0 i (by omega)]
        exact ⟨Int.le_refl _, (hl.bd i hi).1⟩
    rw [addL]
    constructor
    · intro h
      split at h
      · rename_i hm
        split at h
        · cases h
        · rename_i hz
          obtain rfl := List.mem_singleton.1 h
          exact ⟨⟨dl, hm⟩, hz, fun _ _ => rfl⟩
      · cases h
    · rintro ⟨hp, hz, he⟩
      obtain rfl := key hp he
      rw [if_pos hp.may, if_neg hz]
      exact List.mem_singleton.2 rfl
  | f + 1, d, r, hrf, h0, hb, e => by
    have hr3 : r < 3 := by have := ht.len; omega
    have hlr := hl.bd r hr3
    rw [addL]
    split
    · rename_i hm
      have hih : ∀ n : Nat, (n : Int) ≤ l.get r → (e ∈ addL t l f (d.set r (n : Int)) (r + 1) ↔ (Part t e l ∧ e ≠ z3 ∧ ∀ i, i < r + 1 → e.get i = (d.set r (n : Int)).get i)) := fun n hn => addL_mem ht hl f _ (r + 1) (by omega) (fun i hi => by rw [V3.set_get _ _ _ _ hr3, if_neg (by omega)]; exact h0 i (by omega)) (fun i hi => by
        rw [V3.set_get _ _ _ _ hr3]
        split
        · rename_i h; subst h; omega
        · exact hb i (by omega)) e
      rw [List.mem_flatMap]
      constructor
      · rintro ⟨n, hn, he⟩
        have hn' := List.mem_range.1 hn
        obtain ⟨h1, h2, h3⟩ := (hih n (by omega)).1 he
        exact ⟨h1, h2, fun i hi => by have := h3 i (by omega); rw [V3.set_get _ _ _ _ hr3, if_neg (by omega)] at this; exact this⟩
      · rintro ⟨h1, h2, h3⟩
        have her := h1.bd r hr3
        refine ⟨(e.get r).toNat, List.mem_range.2 (by omega), (hih _ (by omega)).2 ⟨h1, h2, fun i hi => ?_⟩⟩
        rw [V3.set_get _ _ _ _ hr3]
        split
        · rename_i h; subst h; omega
        · exact h3 i (by omega)
    · rename_i hm
      constructor
      · intro h; cases h
      · rintro ⟨h1, _, h3⟩
        refine absurd (mayB_mono ht (d := d) (e := e) (fun i => ?_) h1.may) hm
        by_cases h : i < r
        · rw [h3 i h]; exact Int.le_refl _
        · rw [h0 i (by omega)]
          by_cases h4 : i < 3
          · exact (h1.bd i h4).1
          · rw [V3.get_far e (by omega)]; exact Int.le_refl _
theorem flatV_len {α β : Type} {f : α → List β} {C : Nat} : ∀ {l : List α}, (∀ a ∈ l, (f a).length ≤ C) → (l.flatMap f).length ≤ l.length * C
  | [], _ => by simp
  | a :: l, h => by
    have h1 := h a (by simp)
    have h2 := flatV_len (l := l) (fun b hb => h b (by simp [hb]))
    rw [List.flatMap_cons, List.length_append, List.length_cons, Nat.add_mul]
    omega
theorem addL_len {t : Tm} {l : V3} (hl : HrOk t l) : ∀ (f : Nat) (d : V3) (r : Nat), r + f ≤ 3 → (addL t l f d r).length ≤ 9 ^ f
  | 0, d, r, _ => by
    rw [addL]
    split
    · split <;> simp
    · simp
  | f + 1, d, r, h => by
    rw [addL]
    split
    · have h1 := flatV_len (f := fun n : Nat => addL t l f (d.set r (n : Int)) (r + 1)) (C := 9 ^ f) (l := List.range ((l.get r).toNat + 1)) (fun n _ => addL_len hl f _ _ (by omega))
      have h2 := hl.bd r (by omega)
      rw [List.length_range] at h1
      refine Nat.le_trans h1 ?_
      rw [Nat.pow_succ, Nat.mul_comm]
      exact Nat.mul_le_mul_left _ (by omega)
    · simp
def daysL (t : Tm) (l : V3) : List V3 := addL t l t.rates.length z3 0
theorem daysL_mem {t : Tm} {l : V3} (ht : TmOk t) (hl : HrOk t l) (e : V3) : e ∈ daysL t l ↔ Part t e l ∧ e ≠ z3 := by
  unfold daysL
  rw [addL_mem ht hl t.rates.length z3 0 (by omega) (fun i _ => z3_get i) (fun i hi => by omega)]
  exact ⟨fun h => ⟨h.1, h.2.1⟩, fun h => ⟨h.1, h.2, fun i hi => by omega⟩⟩
theorem daysL_len {t : Tm} {l : V3} (ht : TmOk t) (hl : HrOk t l) : (daysL t l).length ≤ 729 := by
  have h1 := addL_len hl t.rates.length z3 0 (by have := ht.len; omega)
  have h2 := ht.len
  have h3 : t.rates.length = 1 ∨ t.rates.length = 2 ∨ t.rates.length = 3 := by omega
  unfold daysL
  refine Nat.le_trans h1 ?_
  rcases h3 with h | h | h <;> rw [h] <;> decide
theorem HrOk.bd8 {t : Tm} {l : V3} (h : HrOk t l) : HrBd l := h.bd
end Go.Proofs.Ythihdiilokdidaa
end

section
namespace Go.Proofs.Ythihdiilokdidaa
open Go.RowKit
theorem wpIn_region_mixed_tail {P : Program} {Q : Exit → Act → World → Prop} {id l0 nn : Nat} {a : Act} {w : World} {l : List Oper} (n : Nat) (ks : List (Bool × Nat)) (S : World → Prop) (hm : P.follows .mixedOrders = true)
    (hB : (mixedB .any l.toArray n ks && decide (ks.length = n)) = true) (hnd : noDefer l = true) (hout : ¬ LetsOut Q) (hQ : ∀ d v c a w, Q (.panic c) (a.put d v) w → Q (.panic c) a w)
    (hS : S { w with drawn := w.drawn + 1 })
    (h : wpMixO P l.toArray Q S (fun a'' w'' => wpList P l.toArray Q (l.drop n) a'' w'') ks a { w with drawn := w.drawn + 1 }) :
    (Code.region id l.toArray true).wpIn (Fence.wide.inRound l0) nn P Q a w := by
  simp only [mixedB, Bool.and_eq_true, decide_eq_true_eq] at hB
  obtain ⟨⟨⟨⟨⟨hsel, hn⟩, hs⟩, hc⟩, hlex⟩, hlen⟩ := hB
  have hdl : (l.drop n).length = l.toArray.size - n := by simp
  have inv0 : HeadInv .any l.toArray n (Array.replicate l.toArray.size false) :=
    ⟨by simp, fun j oj _ hl => (by rw [getD_replicate_false] at hl; cases hl), fun t _ ht => getD_in (by simpa using ht) (getD_replicate_false _ _)⟩
  have H := mix_head (md := .any) (g := l.toArray.size - n) (T := fun a'' w'' => wpList P l.toArray Q (l.drop n) a'' w'') hsel hQ hs hc hn ks _ a _ inv0 hlex hS h
  refine wpIn_region_any hm (wpAnyIn_of_wpAny hout (noDefer_spec hnd) _ _ _ _ ?_)
  have := wpAny_of_headH (g := l.toArray.size - n) (fun listed' a' w' hL => by
    have := wpAny_of_seq (md := .any) (l.drop n) n listed' a' w' (fun j => by simp [List.getElem?_drop]) (by rw [hdl]; exact hL.1) hL.2
    rwa [hdl] at this) _ _ _ _ H
  rw [hlen, show n + (l.toArray.size - n) = l.toArray.size by omega] at this
  exact this
theorem wpIn_region_gx_mix {P : Program} {Q : Exit → Act → World → Prop} {id l0 nn : Nat} {a : Act} {w : World} {l : List Oper} (row : Option Nat) (n : Nat) (ks : List (Bool × Nat)) (hm : P.follows .mixedOrders = true)
    (hB : (mixedB .any l.toArray n ks && decide (ks.length = n)) = true) (hnd : noDefer l = true) (hout : ¬ LetsOut Q) (hQ : ∀ d v c a w, Q (.panic c) (a.put d v) w → Q (.panic c) a w)
    (h : wpMix P l Q (fun w' => ∃ x : Gx w row, w' = x.W) n ks a w.drew) : (Code.region id l.toArray true).wpIn (Fence.wide.inRound l0) nn P Q a w :=
  wpIn_region_mixed_tail n ks _ hm hB hnd hout hQ ⟨⟨w.drew, ⟨rfl, rfl, rfl, Nat.le_refl _, fun _ _ _ => rfl⟩⟩, rfl⟩ h
theorem wpIn_region_ext_mix {P : Program} {Q : Exit → Act → World → Prop} {id l0 nn : Nat} {a : Act} {w : World} {l : List Oper} (n : Nat) (ks : List (Bool × Nat)) (hm : P.follows .mixedOrders = true)
    (hB : (mixedB .any l.toArray n ks && decide (ks.length = n)) = true) (hnd : noDefer l = true) (hout : ¬ LetsOut Q) (hQ : ∀ d v c a w, Q (.panic c) (a.put d v) w → Q (.panic c) a w)
    (h : wpMix P l Q (fun w' => ∃ x : Ex w, w' = x.W) n ks a w.drew) : (Code.region id l.toArray true).wpIn (Fence.wide.inRound l0) nn P Q a w :=
  wpIn_region_mixed_tail n ks _ hm hB hnd hout hQ ⟨⟨_, (Below.refl w.heap.size w).drew⟩, rfl⟩ h
end Go.Proofs.Ythihdiilokdidaa
end

section
namespace Go.Proofs.Ythihdiilokdidaa
open Go.RowKit
attribute [local go_sem] Ex.cell? Ex.frozen? run_store_func

theorem eq_ints3 (a b c a' b' c' : Int) (w : World) : (Op.equal 136 (.agg #[.int .i64 a, .int .i64 b, .int .i64 c]) (.agg #[.int .i64 a', .int .i64 b', .int .i64 c'])).run Try.prog w = .ok (decide (a = a' ∧ b = b' ∧ c = c')) w := by
  unfold Op.equal
  show (Op.equalIn (9999 + 1) 136 _ _).run Try.prog w = _
  rw [Op.equalIn]
  have hr : List.range' 0 3 = [0, 1, 2] := rfl
  have he : ∀ (x y : Int) (w : World), (Op.equalIn 9999 3 (.int .i64 x) (.int .i64 y)).run Try.prog w = .ok (x == y) w := fun x y w => run_equalIn_int w 9998 3 .i64 .i64 x y Try.underlying3
  have hi : ∀ w, (isAgg 3).run Try.prog w = .ok false w := fun w => by kernel_rfl
  simp only [Sem.run_bind, run_underlying Try.underlying136, Result.andThen_ok]
  by_cases h1 : a = a'
  · by_cases h2 : b = b'
    · by_cases h3 : c = c' <;> simp [go_sem, hr, List.forIn_cons, h1, h2, h3]
    · simp [go_sem, hr, List.forIn_cons, h1, h2]
  · simp [go_sem, hr, List.forIn_cons, h1]
theorem eq_v3 (s u : V3) (w : World) : (Op.equal 136 (.agg (v3C s)) (.agg (v3C u))).run Try.prog w = .ok (decide (s = u)) w := (eq_ints3 _ _ _ _ _ _ w).trans (by
  congr 1
  rw [decide_eq_decide]
  constructor
  · rintro ⟨h1, h2, h3⟩
    cases s; cases u; simp_all
  · rintro rfl
    exact ⟨rfl, rfl, rfl⟩)
theorem left_info : (Try.prog.info? 136).map (fun i => (i.zero, i.size, i.bytes)) = some (some (.agg #[.int .i64 0, .int .i64 0, .int .i64 0]), 3, 24) := by kernel_rfl
theorem own_shape {w : World} {base : Nat} {e : TypeId} {sz n : Nat} {v : Value} {xs : List Value} (h : w.ownsRow base e sz v n xs) : ∃ A c, v = .slice A n c := by
  rcases h.2 with ⟨rfl, h0⟩ | ⟨g', cap, cur, rfl, _⟩
  · exact ⟨none, 0, by rw [h0]⟩
  · exact ⟨_, _, rfl⟩
def cV3 (v : V3) : List Value := [.int .i64 v.a, .int .i64 v.b, .int .i64 v.c]
theorem v3_push {w : World} {base n : Nat} {e : TypeId} {v : Value} {l : List V3} {x : V3} (hn : n = l.length + 1) (h : w.ownsRow base e 3 v n (l.flatMap cV3 ++ cV3 x)) : w.ownsRow base e 3 v (l ++ [x]).length ((l ++ [x]).flatMap cV3) := by
  subst hn
  rw [List.flatMap_append, List.length_append]
  simpa using h
/-- what lies when add begins. -/
structure AS (w0 W : World) (t : Tm) (Ar Ah : Option Addr) (cr ch : Nat) (l : V3) (pt po pl pa base : Nat) (vout : Value) (L : List V3) : Prop where
  bw : Below w0.heap.size w0 W
  qt : Blk W pt 59 #[.slice Ar t.rates.length cr, .slice Ah t.hours.length ch, .int .i64 t.limit, .int .i64 t.most]
  qo : Blk W po 176 #[vout]
  ql : Blk W pl 136 (v3C l)
  qa : Blk W pa 200 #[.func (.func 124) #[] #[.pointer (some ⟨pt, 0, none⟩), .pointer (some ⟨po, 0, none⟩), .pointer (some ⟨pl, 0, none⟩), .pointer (some ⟨pa, 0, none⟩)]]
  oo : W.ownsRow base 136 3 vout L.length (L.flatMap cV3)
theorem AS.below {w0 W W' : World} {t : Tm} {Ar Ah : Option Addr} {cr ch : Nat} {l : V3} {pt po pl pa base : Nat} {vout : Value} {L : List V3} (h : AS w0 W t Ar Ah cr ch l pt po pl pa base vout L) (hb : Below W.heap.size W W') : AS w0 W' t Ar Ah cr ch l pt po pl pa base vout L :=
  ⟨ex_trans h.bw hb, h.qt.below hb h.qt.lt, h.qo.below hb h.qo.lt, h.ql.below hb h.ql.lt, h.qa.below hb h.qa.lt, own_below h.oo hb⟩
/-- which blocks add may turn. -/
def AR (po : Nat) (vout : Value) (b : Nat) : Prop := b = po ∨ vout.ownBlock = some b
/-- what add leaves. -/
structure AO (w0 W W' : World) (t : Tm) (Ar Ah : Option Addr) (cr ch : Nat) (l : V3) (pt po pl pa base : Nat) (vout : Value) (L res : List V3) : Prop where
  out : ∃ vout', AS w0 W' t Ar Ah cr ch l pt po pl pa base vout' (L ++ res) ∧ Fr (AR po vout) W W' ∧ (∀ b, vout'.ownBlock = some b → vout.ownBlock = some b ∨ W.heap.size ≤ b)
set_option maxRecDepth 100000 in
set_option maxHeartbeats 6400000 in
theorem add_any (t : Tm) (Ar Ah : Option Addr) (cr ch : Nat) (w0 : World) (htm : TmIn w0 w0.heap.size t Ar Ah) (ht : TmOk t) (l : V3) (hl : HrOk t l) (pt po pl pa base : Nat) (hpo : w0.heap.size ≤ po) (hlt : pt < base ∧ po < base ∧ pl < base ∧ pa < base) (hB : w0.heap.size ≤ base) (hne : pt ≠ po ∧ pl ≠ po ∧ pa ≠ po) (hb4 : base ≤ pa + 1) :
    ∀ (j f : Nat), f < j → ∀ (d : V3) (r : Nat) (vout : Value) (L : List V3) (W : World), r + f = t.rates.length → HrBd d → L.length + 9 ^ f ≤ 100000 →
    AS w0 W t Ar Ah cr ch l pt po pl pa base vout L →
    Calls Try.prog 124 #[.agg (v3C d), .int .i64 (r : Int), .pointer (some ⟨pt, 0, none⟩), .pointer (some ⟨po, 0, none⟩), .pointer (some ⟨pl, 0, none⟩), .pointer (some ⟨pa, 0, none⟩)] W fun e W' =>
      (∃ v, e = .returned v) ∧ AO w0 W W' t Ar Ah cr ch l pt po pl pa base vout L (addL t l f d r) := by
  obtain ⟨i1, hi1, hy0, hy1, hy2⟩ := info_parts left_info
  have HI := Lib.hid hi1
  clear hi1
  have hl3 : t.rates.length ≤ 3 := ht.len.2.1
  intro j
  induction j with
  | zero => intro f hf; omega
  | succ j ih =>
    intro f hf d r vout L W hrf hd hL hps
    have HIH := Lib.hid ih
    clear ih
    unfold v3C
    have hb1 := ex_alloc (Below.refl W.heap.size W) (.cells #[.int .i64 d.a, .int .i64 d.b, .int .i64 d.c] 136)
    have hps1 := hps.below hb1
    have q6 : Blk (W.alloc (.cells #[.int .i64 d.a, .int .i64 d.b, .int .i64 d.c] 136)) W.heap.size 136 #[.int .i64 d.a, .int .i64 d.b, .int .i64 d.c] := Blk.new _ _ _
    go_enter Try.func124, Try.ntmps124
    go_upto_region 1 with fail
    obtain ⟨p6, hp6⟩ : ∃ p, W.heap.size = p := ⟨_, rfl⟩
    rw [hp6] at q6 ⊢
    have HP6 := Lib.hid hp6
    generalize W.alloc (.cells #[.int .i64 d.a, .int .i64 d.b, .int .i64 d.c] 136) = W1 at *
    clear hp6
    have a0 : W1.cell? ⟨pt, 0, none⟩ = some (.slice Ar t.rates.length cr) := hps1.qt.cell 0
    have a1 : W1.cell? ⟨pt, 1, none⟩ = some (.slice Ah t.hours.length ch) := hps1.qt.cell 1
    have a2 : W1.cell? ⟨pt, 2, none⟩ = some (.int .i64 t.limit) := hps1.qt.cell 2
    have a3 : W1.cell? ⟨pt, 3, none⟩ = some (.int .i64 t.most) := hps1.qt.cell 3
    have lt0 := hps1.qt.lt
    have d0 : W1.cell? ⟨p6, 0, none⟩ = some (.int .i64 d.a) := q6.cell 0
    have d1 : W1.cell? ⟨p6, 1, none⟩ = some (.int .i64 d.b) := q6.cell 1
    have d2 : W1.cell? ⟨p6, 2, none⟩ = some (.int .i64 d.c) := q6.cell 2
    have l6 := q6.lt
    go_wp2_with fail
    refine (may_team t Ar Ah cr ch W1 ⟨(htm.rates.below hps1.bw).up hps1.bw.size, (htm.hours.below hps1.bw).up hps1.bw.size⟩ ht d hd).mono ?_
    rintro e W2 ⟨rfl, h2⟩
    have hps2 := hps1.below h2
    have q62 := q6.below h2 q6.lt
    have B2 := ex_trans hb1 h2
    clear a0 a1 a2 a3 lt0 d0 d1 d2 l6
    have a0 : W2.cell? ⟨pt, 0, none⟩ = some (.slice Ar t.rates.length cr) := hps2.qt.cell 0
    have a1 : W2.cell? ⟨pt, 1, none⟩ = some (.slice Ah t.hours.length ch) := hps2.qt.cell 1
    have a2 : W2.cell? ⟨pt, 2, none⟩ = some (.int .i64 t.limit) := hps2.qt.cell 2
    have a3 : W2.cell? ⟨pt, 3, none⟩ = some (.int .i64 t.most) := hps2.qt.cell 3
    have lt0 := hps2.qt.lt
    have d0 : W2.cell? ⟨p6, 0, none⟩ = some (.int .i64 d.a) := q62.cell 0
    have d1 : W2.cell? ⟨p6, 1, none⟩ = some (.int .i64 d.b) := q62.cell 1
    have d2 : W2.cell? ⟨p6, 2, none⟩ = some (.int .i64 d.c) := q62.cell 2
    have l6 := q62.lt
    cases hm : mayB t d
    · have HM := Lib.hid hm
      clear hm
      have HA : Hid (addL t l f d r = []) := Lib.hid (by cases f <;> (rw [addL, if_neg (by rw [HM.out]; decide)]))
      go_wp2
      refine bodyPost_ret (results_none rfl _ _ _) rfl ?_
      exact ⟨⟨_, rfl⟩, ⟨⟨vout, by rw [HA.out, List.append_nil]; exact hps2, Fr.below B2, fun b hb => .inl hb⟩⟩⟩
    · have HM := Lib.hid hm
      clear hm
      by_cases hr : r = t.rates.length
      · have hf0 : f = 0 := by omega
        subst hf0
        have hrr : (r : Int) = (t.rates.length : Int) := by omega
        by_cases hz : d = z3
        · have HZ := Lib.hid hz
          have hez : ∀ w, (Op.equalIn 10000 136 (.agg #[.int .i64 d.a, .int .i64 d.b, .int .i64 d.c]) (.agg #[.int .i64 0, .int .i64 0, .int .i64 0])).run Try.prog w = .ok true w := fun w => by have := eq_v3 d z3 w; rw [decide_eq_true hz] at this; exact this
          clear hz
          have HA : Hid (addL t l 0 d r = []) := Lib.hid (by rw [addL, if_pos HM.out, if_pos HZ.out])
          go_wp2
          refine bodyPost_ret (results_none rfl _ _ _) rfl ?_
          exact ⟨⟨_, rfl⟩, ⟨⟨vout, by rw [HA.out, List.append_nil]; exact hps2, Fr.below B2, fun b hb => .inl hb⟩⟩⟩
        · have HZ := Lib.hid hz
          have hez : ∀ w, (Op.equalIn 10000 136 (.agg #[.int .i64 d.a, .int .i64 d.b, .int .i64 d.c]) (.agg #[.int .i64 0, .int .i64 0, .int .i64 0])).run Try.prog w = .ok false w := fun w => by have := eq_v3 d z3 w; rw [decide_eq_false hz] at this; exact this
          clear hz
          obtain ⟨Ao, co, rfl⟩ := own_shape hps2.oo
          have o0 : W2.cell? ⟨po, 0, none⟩ = some (.slice Ao L.length co) := hps2.qo.cell 0
          have lo := hps2.qo.lt
          have fo := hps2.qo.frozen0
          have X3 := ex_alloc (Below.refl W2.heap.size W2) (.cells #[.int .i64 d.a, .int .i64 d.b, .int .i64 d.c] 136)
          have y4 := own_below hps2.oo X3
          have c63 : L.length + 1 ≤ maxLen := by unfold maxLen; omega
          have cby : (L.length + 1) * 24 ≤ 140737488355328 := by omega
          have hbase0 : base ≤ (W2.alloc (.cells #[.int .i64 d.a, .int .i64 d.b, .int .i64 d.c] 136)).heap.size := by have := X3.size; have := B2.size; have := hps.qa.lt; omega
          go_wp2_with (refine pause_at 24 rfl ?_)
          refine Paused.mk ?_
          refine wpList_append_lies _ rfl _ _ _ rfl base 136 i1 _ 3 24 Try.underlying176 HI.out hy0 hy1 hy2 rfl (by omega) (.slice Ao L.length co) _ _ rfl y4 ⟨W2.heap.size, 0, none⟩ 1 1 [.int .i64 d.a, .int .i64 d.b, .int .i64 d.c] rfl rfl (World.news_of_block (heap_alloc_new W2 _)) (by simp [Value.oneCell']) (by omega) c63 cby hbase0 (W2.heap.size + 1) (by simp) ?_
          intro gg cap w1 hown' hgrow hat hlt'
          have hno : ¬ some po = (Value.slice Ao L.length co).ownBlock := fun e => own_blkne hps2.oo hps2.qo (by decide) e.symm
          have qo3 := (hps2.qo.below X3 lo).grown hgrow hno
          have o3 : w1.cell? ⟨po, 0, none⟩ = some (.slice Ao L.length co) := qo3.cell 0
          have fo3 := qo3.frozen0
          have lo3 := qo3.lt
          have HOW := Lib.hid (v3_push (x := d) rfl hown')
          clear hown'
          go_wp2
          refine bodyPost_ret (results_none rfl _ _ _) rfl ?_
          have hA : Fr (AR po (.slice Ao L.length co)) W (w1.setCell ⟨po, 0, none⟩ (Value.slice (some ⟨gg, 0, none⟩) (L.length + 1) cap)) := ((((Fr.below B2).trans (Fr.below X3) (fun _ _ h => h)).trans (Fr.grown (R := AR po (.slice Ao L.length co)) hgrow (fun b hb => .inl (.inr hb))) (fun _ _ h => h)).trans (Fr.set _ _ _ _ (.inl rfl)) (fun _ _ h => h))
          have hvo : ∀ b, (Value.slice Ao L.length co).ownBlock = some b → base ≤ b ∧ b < W.heap.size := fun b hb => own_lt hps.oo hb
          have hsm : ∀ x, x < base → x ≠ po → ¬ AR po (.slice Ao L.length co) x := fun x h1 h2 h3 => by
            rcases h3 with h3 | h3
            · exact h2 h3
            · have := hvo x h3; omega
          have hAL : Hid (addL t l 0 d r = [d]) := Lib.hid (by rw [addL, if_pos HM.out, if_neg HZ.out])
          refine ⟨⟨_, rfl⟩, ⟨⟨(Value.slice (some ⟨gg, 0, none⟩) (L.length + 1) cap), ⟨hA.toBelow hps.bw hps.bw.size (fun x hx => ?_), hps.qt.fr hA (hsm _ hlt.1 hne.1), qo3.set_ 0 _, hps.ql.fr hA (hsm _ hlt.2.2.1 hne.2.1), hps.qa.fr hA (hsm _ hlt.2.2.2 hne.2.2), ?_⟩, hA, fun b hb => ?_⟩⟩⟩
          · rcases hx with rfl | hx
            · exact hpo
            · have := hvo x hx; omega
          · rw [hAL.out]; exact own_far HOW.out (p := ⟨po, 0, none⟩) (show po < base by omega) _
          · have hgb : gg = b := by simpa [Value.ownBlock] using hb
            subst hgb
            rcases hat with h4 | h4
            · exact .inl h4
            · right; have := B2.size; omega
      · obtain ⟨f, rfl⟩ : ∃ g, f = g + 1 := ⟨f - 1, by omega⟩
        have hr3 : r < 3 := by omega
        have hrr : ¬ ((r : Int) = (t.rates.length : Int)) := by omega
        have hr33 : (r : Int) < 3 := by omega
        obtain ⟨m, hm⟩ : ∃ m : Nat, l.get r = (m : Int) := ⟨(l.get r).toNat, by have := hl.bd r hr3; omega⟩
        have hm8 : m ≤ 8 := by have := (hl.bd r hr3).2; omega
        have hlv := hps2.ql.cell r
        rw [v3_at l hr3, hm] at hlv
        have ll := hps2.ql.lt
        have HMM : Hid (l.get r = (m : Int)) := Lib.hid hm
        clear hm
        go_wp2_with fail
        refine wp_loop (fun a V => Rel (fun a V => ∃ k : Nat, k ≤ m + 1 ∧ (∃ vout' x, AS w0 V t Ar Ah cr ch l pt po pl pa base vout' (L ++ (List.range k).flatMap fun n : Nat => addL t l f (d.set r (n : Int)) (r + 1)) ∧ Fr (AR po vout) W V ∧ (∀ b, vout'.ownBlock = some b → vout.ownBlock = some b ∨ p6 + 1 ≤ b) ∧ Blk V p6 136 (v3C (d.set r x)) ∧ 0 ≤ x ∧ x ≤ 8) ∧ ∃ u : Nat → Value, a = ⟨List.toArray (u 0 :: .int .i64 (r : Int) :: .pointer (some ⟨pt, 0, none⟩) :: .pointer (some ⟨po, 0, none⟩) :: .pointer (some ⟨pl, 0, none⟩) :: .pointer (some ⟨pa, 0, none⟩) :: .pointer (some ⟨p6, 0, none⟩) :: u 7 :: u 8 :: u 9 :: u 10 :: u 11 :: u 12 :: u 13 :: u 14 :: u 15 :: u 16 :: u 17 :: u 18 :: u 19 :: u 20 :: u 21 :: u 22 :: u 23 :: u 24 :: u 25 :: u 26 :: u 27 :: .int .i64 ((m : Int) + 1) :: .int .i64 (k : Int) :: u 30 :: u 31 :: u 32 :: u 33 :: u 34 :: u 35 :: u 36 :: u 37 :: u 38 :: u 39 :: u 40 :: []), []⟩) a V) (fun a _ => (m + 1) - (intOf (a.tmps.getD 29 undef)).toNat) ⟨⟨0, by omega, ⟨vout, d.get r, by rw [List.range_zero, List.flatMap_nil, List.append_nil]; exact hps2, Fr.below B2, fun b hb => .inl hb, by rw [V3.set_get_self]; exact q62, hd r hr3⟩, exFrame (by kernel_rfl)⟩⟩ ?_
        clear a0 a1 a2 a3 lt0 d0 d1 d2 l6 hlv ll q62 hps2 h2 hps1 hb1 q6
        rintro a V ⟨⟨k, hk, ⟨vout', x, hpsV, hfr, hvo', q6, hx⟩, u, rfl⟩⟩
        by_cases hlk : k < m + 1
        · have e0 : V.cell? ⟨p6, r, none⟩ = some (.int .i64 x) := by have := q6.cell r; rw [v3_at _ hr3, V3.set_get _ _ _ _ hr3, if_pos rfl] at this; exact this
          have l6 := q6.lt
          have f6 := q6.frozen0
          have q6s := q6.set_ r (.int .i64 (k : Int))
          rw [v3_set _ hr3, V3.set_set] at q6s
          obtain ⟨d', hd'⟩ : ∃ y, d.set r (k : Int) = y := ⟨_, rfl⟩
          rw [hd'] at q6s
          have HD' := Lib.hid hd'
          have hd8 : HrBd d' := fun i hi => by
            rw [← hd', V3.set_get _ _ _ _ hr3]
            split
            · omega
            · exact hd i hi
          clear hd'
          have hWp := HP6.out
          have hpb : base ≤ p6 := by have := hps.qa.lt; omega
          have hv6 : ¬ vout'.ownBlock = some p6 := fun hb => by
            rcases hvo' _ hb with h | h
            · have := (own_lt hps.oo h).2; omega
            · omega
          have hset : Fr (fun b => b = p6) V (V.setCell ⟨p6, r, none⟩ (.int .i64 (k : Int))) := Fr.set _ _ _ _ rfl
          have hps2 : AS w0 (V.setCell ⟨p6, r, none⟩ (.int .i64 (k : Int))) t Ar Ah cr ch l pt po pl pa base vout' (L ++ (List.range k).flatMap fun n : Nat => addL t l f (d.set r (n : Int)) (r + 1)) := ⟨hset.toBelow hpsV.bw hpsV.bw.size (fun x hx => by omega), hpsV.qt.fr hset (by omega), hpsV.qo.fr hset (by omega), hpsV.ql.fr hset (by omega), hpsV.qa.fr hset (by omega), own_fr hpsV.oo hset (fun b hb e => hv6 (by rw [hb, e]))⟩
          have hz2 := hset.size
          have hfs := hfr.size
          clear hWp hpsV q6
          go_upto_region 9 with fail
          generalize V.setCell ⟨p6, r, none⟩ (.int .i64 (k : Int)) = V2 at *
          clear e0 l6 f6
          have d0 : V2.cell? ⟨p6, 0, none⟩ = some (.int .i64 d'.a) := q6s.cell 0
          have d1 : V2.cell? ⟨p6, 1, none⟩ = some (.int .i64 d'.b) := q6s.cell 1
          have d2 : V2.cell? ⟨p6, 2, none⟩ = some (.int .i64 d'.c) := q6s.cell 2
          have l6 := q6s.lt
          have c5 : V2.cell? ⟨pa, 0, none⟩ = some (.func (.func 124) #[] #[.pointer (some ⟨pt, 0, none⟩), .pointer (some ⟨po, 0, none⟩), .pointer (some ⟨pl, 0, none⟩), .pointer (some ⟨pa, 0, none⟩)]) := hps2.qa.cell 0
          have l5 := hps2.qa.lt
          have hlen : (L ++ (List.range k).flatMap fun n : Nat => addL t l f (d.set r (n : Int)) (r + 1)).length + 9 ^ f ≤ 100000 := by
            have h1 := flatV_len (f := fun n : Nat => addL t l f (d.set r (n : Int)) (r + 1)) (C := 9 ^ f) (l := List.range k) (fun n _ => addL_len hl f _ _ (by omega))
            rw [List.length_range] at h1
            have h2 : k * 9 ^ f ≤ 8 * 9 ^ f := Nat.mul_le_mul_right _ (by omega)
            have h3 : 9 ^ (f + 1) = 9 ^ f * 9 := Nat.pow_succ ..
            rw [List.length_append]
            omega
          have hr6 : (r : Int) ≤ 3 := by omega
          have HH := HIH.out f (by omega) d' (r + 1) vout' _ V2 (by omega) hd8 hlen hps2
          unfold v3C at HH
          rw [show ((r + 1 : Nat) : Int) = (r : Int) + 1 from rfl] at HH
          clear hlen
          go_wp2_with fail
          refine HH.mono ?_
          clear HH
          rintro e V3 ⟨⟨v3, rfl⟩, ⟨⟨vout3, hps3, fr3, vo3⟩⟩⟩
          have hWp := HP6.out
          have hz3 := fr3.size
          have q63 := q6s.fr fr3 (fun h => by rcases h with h | h; omega; exact hv6 h)
          have hfr3 : Fr (AR po vout) W V3 := (hfr.trans hset (fun x hx h => by omega)).trans fr3 (fun x hx h => by
            rcases h with h | h
            · exact .inl h
            · rcases hvo' x h with h | h
              · exact .inr h
              · omega)
          have hvo3 : ∀ b, vout3.ownBlock = some b → vout.ownBlock = some b ∨ p6 + 1 ≤ b := fun b hb => by
            rcases vo3 b hb with h | h
            · exact hvo' b h
            · right; omega
          have HPS3 : Hid (AS w0 V3 t Ar Ah cr ch l pt po pl pa base vout3 (L ++ (List.range (k + 1)).flatMap fun n : Nat => addL t l f (d.set r (n : Int)) (r + 1))) := Lib.hid (by rw [List.range_succ, List.flatMap_append, List.flatMap_singleton, ← List.append_assoc, HD'.out]; exact hps3)
          clear hps3 hps2 hset hWp d0 d1 d2 l6 c5 l5
          go_wp2_with fail
          refine ⟨⟨⟨k + 1, by omega, ⟨vout3, (k : Int), HPS3.out, hfr3, hvo3, by rw [HD'.out]; exact q63, by omega, by omega⟩, exFrame (by kernel_rfl)⟩⟩, ?_⟩
          show (m + 1) - (intOf (.int .i64 ((k : Int) + 1))).toNat < (m + 1) - (intOf (.int .i64 (k : Int))).toNat
          simp [intOf]
          omega
        · obtain rfl : k = m + 1 := by omega
          have HAL : Hid (addL t l (f + 1) d r = (List.range (m + 1)).flatMap fun n : Nat => addL t l f (d.set r (n : Int)) (r + 1)) := Lib.hid (by rw [addL, if_pos HM.out, HMM.out, Int.toNat_natCast])
          have hWp := HP6.out
          go_wp2
          refine bodyPost_end (results_none rfl _ _ _) rfl ?_
          exact ⟨⟨_, rfl⟩, ⟨⟨vout', by rw [HAL.out]; exact hpsV, hfr, fun b hb => by
            rcases hvo' b hb with h | h
            · exact .inl h
            · right; omega⟩⟩⟩
set_option maxRecDepth 100000 in
set_option maxHeartbeats 3200000 in
theorem days_team (t : Tm) (Ar Ah : Option Addr) (cr ch : Nat) (w : World) (htm : TmIn w w.heap.size t Ar Ah) (ht : TmOk t) (l : V3) (hl : HrOk t l) :
    Calls Try.prog 104 #[.agg #[.slice Ar t.rates.length cr, .slice Ah t.hours.length ch, .int .i64 t.limit, .int .i64 t.most], .agg (v3C l)] w fun e w' => (∃ A c, e = .returned (.slice A (daysL t l).length c) ∧ w'.ownsRow w.heap.size 136 3 (.slice A (daysL t l).length c) (daysL t l).length ((daysL t l).flatMap cV3)) ∧ Below w.heap.size w w' := by
  skip
  obtain ⟨i1, hi1, hy0, hy1, hy2⟩ := info_parts left_info
  have hb : Below w.heap.size w ((((w.alloc (.cells #[.slice Ar t.rates.length cr, .slice Ah t.hours.length ch, .int .i64 t.limit, .int .i64 t.most] 59)).alloc (.cells #[.int .i64 l.a, .int .i64 l.b, .int .i64 l.c] 136)).alloc (.cells #[.slice none 0 0] 176)).alloc (.cells #[.func (.func 124) #[] #[.pointer (some ⟨w.heap.size, 0, none⟩), .pointer (some ⟨w.heap.size + 1 + 1, 0, none⟩), .pointer (some ⟨w.heap.size + 1, 0, none⟩), .pointer (some ⟨w.heap.size + 1 + 1 + 1, 0, none⟩)]] 200)) := ex_alloc (ex_alloc (ex_alloc (ex_alloc (Below.refl _ _) _) _) _) _
  have q0 : Blk ((((w.alloc (.cells #[.slice Ar t.rates.length cr, .slice Ah t.hours.length ch, .int .i64 t.limit, .int .i64 t.most] 59)).alloc (.cells #[.int .i64 l.a, .int .i64 l.b, .int .i64 l.c] 136)).alloc (.cells #[.slice none 0 0] 176)).alloc (.cells #[.func (.func 124) #[] #[.pointer (some ⟨w.heap.size, 0, none⟩), .pointer (some ⟨w.heap.size + 1 + 1, 0, none⟩), .pointer (some ⟨w.heap.size + 1, 0, none⟩), .pointer (some ⟨w.heap.size + 1 + 1 + 1, 0, none⟩)]] 200)) (w.heap.size) 59 #[.slice Ar t.rates.length cr, .slice Ah t.hours.length ch, .int .i64 t.limit, .int .i64 t.most] := (((Blk.new' _ _ _ (by simp)).alloc _).alloc _).alloc _
  have q1 : Blk ((((w.alloc (.cells #[.slice Ar t.rates.length cr, .slice Ah t.hours.length ch, .int .i64 t.limit, .int .i64 t.most] 59)).alloc (.cells #[.int .i64 l.a, .int .i64 l.b, .int .i64 l.c] 136)).alloc (.cells #[.slice none 0 0] 176)).alloc (.cells #[.func (.func 124) #[] #[.pointer (some ⟨w.heap.size, 0, none⟩), .pointer (some ⟨w.heap.size + 1 + 1, 0, none⟩), .pointer (some ⟨w.heap.size + 1, 0, none⟩), .pointer (some ⟨w.heap.size + 1 + 1 + 1, 0, none⟩)]] 200)) (w.heap.size + 1) 136 (v3C l) := ((Blk.new' _ _ _ (by simp)).alloc _).alloc _
  have q2 : Blk ((((w.alloc (.cells #[.slice Ar t.rates.length cr, .slice Ah t.hours.length ch, .int .i64 t.limit, .int .i64 t.most] 59)).alloc (.cells #[.int .i64 l.a, .int .i64 l.b, .int .i64 l.c] 136)).alloc (.cells #[.slice none 0 0] 176)).alloc (.cells #[.func (.func 124) #[] #[.pointer (some ⟨w.heap.size, 0, none⟩), .pointer (some ⟨w.heap.size + 1 + 1, 0, none⟩), .pointer (some ⟨w.heap.size + 1, 0, none⟩), .pointer (some ⟨w.heap.size + 1 + 1 + 1, 0, none⟩)]] 200)) (w.heap.size + 1 + 1) 176 #[.slice none 0 0] := (Blk.new' _ _ _ (by simp)).alloc _
  have q3 : Blk ((((w.alloc (.cells #[.slice Ar t.rates.length cr, .slice Ah t.hours.length ch, .int .i64 t.limit, .int .i64 t.most] 59)).alloc (.cells #[.int .i64 l.a, .int .i64 l.b, .int .i64 l.c] 136)).alloc (.cells #[.slice none 0 0] 176)).alloc (.cells #[.func (.func 124) #[] #[.pointer (some ⟨w.heap.size, 0, none⟩), .pointer (some ⟨w.heap.size + 1 + 1, 0, none⟩), .pointer (some ⟨w.heap.size + 1, 0, none⟩), .pointer (some ⟨w.heap.size + 1 + 1 + 1, 0, none⟩)]] 200)) (w.heap.size + 1 + 1 + 1) 200 #[.func (.func 124) #[] #[.pointer (some ⟨w.heap.size, 0, none⟩), .pointer (some ⟨w.heap.size + 1 + 1, 0, none⟩), .pointer (some ⟨w.heap.size + 1, 0, none⟩), .pointer (some ⟨w.heap.size + 1 + 1 + 1, 0, none⟩)]] := Blk.new' _ _ _ (by simp)
  unfold v3C
  have hmf : ∀ (fn : Fn) (first cap : Array Value) (w : World), (Instr.makeFunc fn first cap).run Try.prog w = .ok (.func fn first cap) w := fun _ _ _ _ => rfl
  go_enter Try.func104, Try.ntmps104
  go_upto_region 3 with fail
  show Code.wp _ _ _ _ ((((w.alloc (.cells #[.slice Ar t.rates.length cr, .slice Ah t.hours.length ch, .int .i64 t.limit, .int .i64 t.most] 59)).alloc (.cells #[.int .i64 l.a, .int .i64 l.b, .int .i64 l.c] 136)).alloc (.cells #[.slice none 0 0] 176)).alloc (.cells #[.func (.func 124) #[] #[.pointer (some ⟨w.heap.size, 0, none⟩), .pointer (some ⟨w.heap.size + 1 + 1, 0, none⟩), .pointer (some ⟨w.heap.size + 1, 0, none⟩), .pointer (some ⟨w.heap.size + 1 + 1 + 1, 0, none⟩)]] 200))
  generalize (((w.alloc (.cells #[.slice Ar t.rates.length cr, .slice Ah t.hours.length ch, .int .i64 t.limit, .int .i64 t.most] 59)).alloc (.cells #[.int .i64 l.a, .int .i64 l.b, .int .i64 l.c] 136)).alloc (.cells #[.slice none 0 0] 176)).alloc (.cells #[.func (.func 124) #[] #[.pointer (some ⟨w.heap.size, 0, none⟩), .pointer (some ⟨w.heap.size + 1 + 1, 0, none⟩), .pointer (some ⟨w.heap.size + 1, 0, none⟩), .pointer (some ⟨w.heap.size + 1 + 1 + 1, 0, none⟩)]] 200) = W at *
  have c3 : W.cell? ⟨w.heap.size + 1 + 1 + 1, 0, none⟩ = some (.func (.func 124) #[] #[.pointer (some ⟨w.heap.size, 0, none⟩), .pointer (some ⟨w.heap.size + 1 + 1, 0, none⟩), .pointer (some ⟨w.heap.size + 1, 0, none⟩), .pointer (some ⟨w.heap.size + 1 + 1 + 1, 0, none⟩)]) := q3.cell 0
  have l3 := q3.lt
  have h9 : 9 ^ t.rates.length ≤ 729 := by
    have h3 : t.rates.length = 1 ∨ t.rates.length = 2 ∨ t.rates.length = 3 := by have := ht.len; omega
    rcases h3 with h | h | h <;> rw [h] <;> decide
  have HP := add_any t Ar Ah cr ch w htm ht l hl (w.heap.size) (w.heap.size + 1 + 1) (w.heap.size + 1) (w.heap.size + 1 + 1 + 1) (w.heap.size + 1 + 1 + 1 + 1) (by omega) (by omega) (by omega) (by omega) (by omega) (t.rates.length + 1) t.rates.length (by omega) z3 0 (.slice none 0 0) [] W (by omega) (fun i _ => by rw [z3_get]; decide) (by show 0 + 9 ^ t.rates.length ≤ 100000; omega) ⟨hb, q0, q2, q1, q3, ⟨rfl, .inl ⟨rfl, rfl⟩⟩⟩
  unfold v3C at HP
  go_wp2_with fail
  refine HP.mono ?_
  clear HP
  rintro e W2 ⟨⟨v, rfl⟩, ⟨⟨vout, hps, hfr, hvo⟩⟩⟩
  rw [List.nil_append] at hps
  obtain ⟨Av, cv, rfl⟩ := own_shape hps.oo
  have c2 : W2.cell? ⟨w.heap.size + 1 + 1, 0, none⟩ = some (.slice Av (addL t l t.rates.length z3 0).length cv) := hps.qo.cell 0
  have l2 := hps.qo.lt
  have f2 := hps.qo.frozen0
  have ho := hps.oo
  have hbw := hps.bw
  have po := hps.qo
  clear hfr hvo hps
  go_wp2
  have co' : (W2.setCell ⟨w.heap.size + 1 + 1, 0, none⟩ (.slice Av (addL t l t.rates.length z3 0).length cv)).cell? ⟨w.heap.size + 1 + 1, 0, none⟩ = some (.slice Av (addL t l t.rates.length z3 0).length cv) := (po.set_ 0 _).cell 0
  refine bodyPost_ret (v := .slice Av (addL t l t.rates.length z3 0).length cv) (by simp [results, Try.results104, go_sem, co']) rfl ?_
  have hf : Fr (fun b => b = w.heap.size + 1 + 1) W2 (W2.setCell ⟨w.heap.size + 1 + 1, 0, none⟩ (.slice Av (addL t l t.rates.length z3 0).length cv)) := Fr.set _ _ _ _ rfl
  exact ⟨⟨_, _, rfl, own_base (own_fr ho hf (fun b hb h3 => by have := own_lt ho hb; omega)) (by omega)⟩, hbw.setCell (by show w.heap.size ≤ w.heap.size + 1 + 1; omega) _⟩
end Go.Proofs.Ythihdiilokdidaa
end

section
namespace Go.Proofs.Ythihdiilokdidaa
open Go.RowKit

/-- keys of one type: how they are told apart. -/
structure KeyOk {α : Type} [DecidableEq α] (t : TypeId) (kV : α → Value) : Prop where
  eq : ∀ (s u : α) (w : World), (Op.equal t (kV s) (kV u)).run Try.prog w = .ok (s == u) w
  check : ∀ (em : Bool) (s : α) (w : World), (Instr.checkKey em 10000 t (kV s)).run Try.prog w = .ok () w
  und : ∃ d, Try.prog.underlying t = some d ∧ ∀ (s : α) (e : MapEntry) (es : List MapEntry) (i : Nat), Instr.findNow d (kV s) (e :: es) i = none

section
variable {α β : Type} [DecidableEq α] {t : TypeId} {kV : α → Value} {vV : β → Value}
def mkE (kV : α → Value) (vV : β → Value) (L : List (α × β)) : Array MapEntry := (L.zipIdx.map fun p => { key := kV p.1.1, val := vV p.1.2, born := p.2 }).toArray
/-- a map as the program makes it: the keys, with what is at them, in the order in which they came. -/
def IsMp (kV : α → Value) (vV : β → Value) (W : World) (b : Nat) (L : List (α × β)) : Prop := W.heap[b]? = some (.map (mkE kV vV L) L.length)
theorem mpGetObj {W : World} {b c : Nat} {es : Array MapEntry} (h : W.heap[b]? = some (.map es c)) : (getObj b).run Try.prog W = .ok (.map es c) W := by simp [getObj, Sem.run, h]
theorem mpSetObj {W : World} {b c : Nat} {es : Array MapEntry} (o' : Obj) (h : W.heap[b]? = some (.map es c)) : (setObj b o').run Try.prog W = .ok () (W.putObj b o') := by simp [setObj, Sem.run, h, World.putObj]
/-- what is at a key. -/
def mpAt (s : α) : List (α × β) → Nat → Option (Nat × β)
  | [], _ => none
  | p :: l, i => if p.1 = s then some (i, p.2) else mpAt s l (i + 1)
theorem mp_asking (hk : KeyOk t kV) (s : α) (w : World) : ∀ (l : List (α × β)) (k i : Nat),
    (Instr.findAsking t (kV s) (l.zipIdx k |>.map fun p => { key := kV p.1.1, val := vV p.1.2, born := p.2 }) i).run Try.prog w = .ok ((mpAt s l i).map fun x => (x.1, vV x.2)) w
  | [], _, _ => by simp [Instr.findAsking, mpAt]
  | p :: l, k, i => by
    simp only [List.zipIdx_cons, List.map_cons, Instr.findAsking, Sem.run_bind, hk.eq, Result.andThen_ok]
    by_cases h : p.1 = s
    · have hb : (s == p.1) = true := by simp [h]
      simp [mpAt, h]
    · have hb : (s == p.1) = false := by simpa using fun e => h e.symm
      simp only [hb, Bool.false_eq_true, if_false]
      rw [mp_asking hk s w l (k + 1) (i + 1), mpAt, if_neg h]
theorem mp_find (hk : KeyOk t kV) (s : α) (L : List (α × β)) (w : World) : (Instr.findKey t (kV s) (mkE kV vV L).toList).run Try.prog w = .ok ((mpAt s L 0).map fun x => (x.1, vV x.2)) w := by
  obtain ⟨d, hd, hn⟩ := hk.und
  unfold Instr.findKey
  simp only [Sem.run_bind, run_underlying hd, Result.andThen_ok]
  have h2 : (mkE kV vV L).toList = (L.zipIdx 0 |>.map fun p => { key := kV p.1.1, val := vV p.1.2, born := p.2 }) := by simp [mkE]
  rw [h2]
  cases L with
  | nil => simp [Instr.findNow, mpAt]
  | cons p l =>
    rw [List.zipIdx_cons, List.map_cons, hn]
    exact mp_asking hk s w (p :: l) 0 0
/-- is there something at a key, and what? -/
def mpGet (s : α) (L : List (α × β)) : Option β := (mpAt s L 0).map (·.2)
theorem mpAt_some {s : α} : ∀ {L : List (α × β)} {i : Nat}, ((mpAt s L i).map (·.2)) = ((mpAt s L 0).map (·.2))
  | [], _ => rfl
  | p :: l, i => by
    rw [mpAt, mpAt]
    split
    · rfl
    · rw [mpAt_some (L := l) (i := i + 1), mpAt_some (L := l) (i := 0 + 1)]
theorem mpGet_cons {s : α} {p : α × β} {L : List (α × β)} : mpGet s (p :: L) = if p.1 = s then some p.2 else mpGet s L := by
  unfold mpGet
  rw [mpAt]
  split
  · rfl
  · exact mpAt_some
theorem mpGet_app {s : α} {p : α × β} : ∀ {L : List (α × β)}, mpGet s L = none → mpGet s (L ++ [p]) = if p.1 = s then some p.2 else none
  | [], _ => by rw [List.nil_append, mpGet_cons]; rfl
  | q :: L, h => by
    rw [mpGet_cons] at h
    split at h
    · cases h
    · rename_i hne
      rw [List.cons_append, mpGet_cons, if_neg hne]
      exact mpGet_app h
theorem mpGet_mem {s : α} {v : β} : ∀ {L : List (α × β)}, mpGet s L = some v → (s, v) ∈ L
  | [], h => by cases h
  | q :: L, h => by
    rw [mpGet_cons] at h
    split at h
    · rename_i e; injection h with h; rw [← e, ← h]; simp
    · exact List.mem_cons_of_mem _ (mpGet_mem h)
theorem mpGet_none {s : α} {L : List (α × β)} (h : mpGet s L = none) : mpAt s L 0 = none := by
  unfold mpGet at h
  cases hm : mpAt s L 0 with
  | none => rfl
  | some x => rw [hm] at h; cases h
theorem mpGet_some {s : α} {L : List (α × β)} {v : β} (h : mpGet s L = some v) : ∃ i, mpAt s L 0 = some (i, v) := by
  unfold mpGet at h
  cases hm : mpAt s L 0 with
  | none => rw [hm] at h; cases h
  | some x =>
    rw [hm] at h
    obtain ⟨i, u⟩ := x
    injection h with h
    exact ⟨i, by rw [← h]⟩
theorem mkE_push (L : List (α × β)) (s : α) (v : β) : (mkE kV vV L).push { key := kV s, val := vV v, born := L.length } = mkE kV vV (L ++ [(s, v)]) := by
  simp [mkE, List.zipIdx_append]
theorem IsMp.lt {W : World} {b : Nat} {L : List (α × β)} (h : IsMp kV vV W b L) : b < W.heap.size := (Array.getElem?_eq_some_iff.1 h).1
theorem IsMp.of_block {W W' : World} {b : Nat} {L : List (α × β)} (h : IsMp kV vV W b L) (hb : W'.heap[b]? = W.heap[b]?) : IsMp kV vV W' b L := hb.trans h
theorem IsMp.below {W W' : World} {b : Nat} {L : List (α × β)} (h : IsMp kV vV W b L) (hb : Below W.heap.size W W') : IsMp kV vV W' b L := h.of_block (hb.block b h.lt)
theorem IsMp.fr {R : Nat → Prop} {W W' : World} {b : Nat} {L : List (α × β)} (h : IsMp kV vV W b L) (hf : Fr R W W') (hn : ¬ R b) : IsMp kV vV W' b L := h.of_block (hf.block b h.lt hn)
theorem IsMp.new (W : World) {g : Nat} (hg : W.heap.size = g) : IsMp kV vV (W.alloc (.map #[] 0)) g [] := by
  subst hg; exact World.alloc_heap_new W _
theorem mp_lookup2 {mt et : TypeId} (hm : Try.prog.underlying mt = some (.map t et)) {i0 : TypeInfo} {z : Value} (hi : Try.prog.info? et = some i0) (hz : i0.zero = some z) (hk : KeyOk t kV) {W : World} {b : Nat} {L : List (α × β)} (h : IsMp kV vV W b L) (s : α) :
    (Instr.lookup mt (.map (some b)) (kV s) true).run Try.prog W = .ok (match mpGet s L with | some v => .tuple #[vV v, .bool true] | none => .tuple #[z, .bool false]) W := by
  unfold Instr.lookup
  simp only [Sem.run_bind, run_underlying hm, Result.andThen_ok, mpGetObj h, hk.check, mp_find hk, Sem.run_pure]
  cases hg : mpGet s L with
  | none =>
    rw [mpGet_none hg]
    simp [go_sem, zeroValue, typeInfo, hi, hz]
  | some v =>
    obtain ⟨i, hi⟩ := mpGet_some hg
    rw [hi]
    simp
theorem mp_update {mt et : TypeId} (hm : Try.prog.underlying mt = some (.map t et)) (hk : KeyOk t kV) {W : World} {b : Nat} {L : List (α × β)} (h : IsMp kV vV W b L) (s : α) (v : β) (hs : mpGet s L = none) :
    (Instr.mapUpdate mt (.map (some b)) (kV s) (vV v)).run Try.prog W = .ok () (W.putObj b (.map (mkE kV vV (L ++ [(s, v)])) (L ++ [(s, v)]).length)) := by
  unfold Instr.mapUpdate
  simp only [Sem.run_bind, run_underlying hm, Result.andThen_ok, mpGetObj h, hk.check, mp_find hk, mpGet_none hs]
  simp only [Option.map_none]
  rw [mkE_push, mpSetObj _ h]
  simp
end
end Go.Proofs.Ythihdiilokdidaa
end

section
namespace Go.Proofs.Ythihdiilokdidaa
open Go.RowKit
/-- keys of one type: how they are found. -/
structure KeyFd {α : Type} [DecidableEq α] (t : TypeId) (kV : α → Value) : Prop where
  find : ∀ {β : Type} (vV : β → Value) (s : α) (L : List (α × β)) (w : World), (Instr.findKey t (kV s) (mkE kV vV L).toList).run Try.prog w = .ok ((mpAt s L 0).map fun x => (x.1, vV x.2)) w
  check : ∀ (em : Bool) (s : α) (w : World), (Instr.checkKey em 10000 t (kV s)).run Try.prog w = .ok () w
  stays : ∀ (s : α) (w : World), (Instr.keyThatStays (kV s) (kV s)).run Try.prog w = .ok (kV s) w
theorem KeyFd.of {α : Type} [DecidableEq α] {t : TypeId} {kV : α → Value} (h : KeyOk t kV) (hs : ∀ s w, (Instr.keyThatStays (kV s) (kV s)).run Try.prog w = .ok (kV s) w) : KeyFd t kV := ⟨fun _ s L w => mp_find h s L w, h.check, hs⟩
section
variable {β : Type} {vV : β → Value}
def keyI (n : Int) : Value := .int .i64 n
theorem findNowI (n : Int) : ∀ (l : List (Int × β)) (k i : Nat), Instr.findNow (.int .i64) (keyI n) (l.zipIdx k |>.map fun p => { key := keyI p.1.1, val := vV p.1.2, born := p.2 }) i = some ((mpAt n l i).map fun x => (x.1, vV x.2))
  | [], _, _ => by simp [Instr.findNow, mpAt]
  | p :: l, k, i => by
    rw [List.zipIdx_cons, List.map_cons, mpAt]
    unfold Instr.findNow
    by_cases h : p.1 = n
    · subst h
      simp [Instr.sameNow, keyI]
    · have h2 : (n == p.1) = false := by simpa using fun e => h e.symm
      have ih := findNowI n l (k + 1) (i + 1)
      unfold keyI at ih
      simp [Instr.sameNow, keyI, h, h2, ih]
theorem keyI_ok : KeyFd 3 keyI where
  find := fun {β} vV s L w => by
    unfold Instr.findKey
    simp only [Sem.run_bind, run_underlying Try.underlying3, Result.andThen_ok]
    have h2 : (mkE keyI vV L).toList = (L.zipIdx 0 |>.map fun p => { key := keyI p.1.1, val := vV p.1.2, born := p.2 }) := by simp [mkE]
    rw [h2, findNowI s L 0 0]
    simp
  check := fun em s w => by
    show (Instr.checkKey em (9999 + 1) 3 (.int .i64 s)).run Try.prog w = _
    rw [Instr.checkKey]
    simp [go_sem, run_underlying Try.underlying3]
  stays := fun s w => by simp [Instr.keyThatStays, Instr.sameBits, keyI]
end
section
variable {α β : Type} [DecidableEq α] {t : TypeId} {kV : α → Value} {vV : β → Value}
/-- a map in memory, by what is at each key. -/
def MpIs (kV : α → Value) (vV : β → Value) (W : World) (b : Nat) (F : α → Option β) : Prop := ∃ L, IsMp kV vV W b L ∧ ∀ s, mpGet s L = F s
theorem MpIs.lt {W : World} {b : Nat} {F : α → Option β} (h : MpIs kV vV W b F) : b < W.heap.size := h.choose_spec.1.lt
theorem MpIs.of_block {W W' : World} {b : Nat} {F : α → Option β} (h : MpIs kV vV W b F) (hb : W'.heap[b]? = W.heap[b]?) : MpIs kV vV W' b F := by
  obtain ⟨L, h1, h2⟩ := h
  exact ⟨L, h1.of_block hb, h2⟩
theorem MpIs.below {W W' : World} {b : Nat} {F : α → Option β} (h : MpIs kV vV W b F) (hb : Below W.heap.size W W') : MpIs kV vV W' b F := h.of_block (hb.block b h.lt)
theorem MpIs.fr {R : Nat → Prop} {W W' : World} {b : Nat} {F : α → Option β} (h : MpIs kV vV W b F) (hf : Fr R W W') (hn : ¬ R b) : MpIs kV vV W' b F := h.of_block (hf.block b h.lt hn)
theorem MpIs.new (W : World) {g : Nat} (hg : W.heap.size = g) : MpIs kV vV (W.alloc (.map #[] 0)) g (fun _ => none) := ⟨[], IsMp.new W hg, fun _ => rfl⟩
theorem MpIs.congr {W : World} {b : Nat} {F F' : α → Option β} (h : MpIs kV vV W b F) (e : ∀ s, F s = F' s) : MpIs kV vV W b F' := by
  obtain ⟨L, h1, h2⟩ := h
  exact ⟨L, h1, fun s => (h2 s).trans (e s)⟩
/-- what is at a key. -/
theorem MpIs.at_ {mt et : TypeId} (hm : Try.prog.underlying mt = some (.map t et)) (hk : KeyFd t kV) {W : World} {b : Nat} {F : α → Option β} (h : MpIs kV vV W b F) (s : α) {v : β} (hs : F s = some v) :
    (Instr.lookup mt (.map (some b)) (kV s) false).run Try.prog W = .ok (vV v) W := by
  obtain ⟨L, h1, h2⟩ := h
  unfold Instr.lookup
  simp only [Sem.run_bind, run_underlying hm, Result.andThen_ok, mpGetObj h1, hk.check, hk.find, Sem.run_pure]
  obtain ⟨i, hi⟩ := mpGet_some ((h2 s).trans hs)
  rw [hi]
  simp
theorem MpIs.at_none {mt et : TypeId} (hm : Try.prog.underlying mt = some (.map t et)) {i0 : TypeInfo} {z : Value} (hi : Try.prog.info? et = some i0) (hz : i0.zero = some z) (hk : KeyFd t kV) {W : World} {b : Nat} {F : α → Option β} (h : MpIs kV vV W b F) (s : α) (hs : F s = none) :
    (Instr.lookup mt (.map (some b)) (kV s) false).run Try.prog W = .ok z W := by
  obtain ⟨L, h1, h2⟩ := h
  unfold Instr.lookup
  simp only [Sem.run_bind, run_underlying hm, Result.andThen_ok, mpGetObj h1, hk.check, hk.find, Sem.run_pure]
  rw [mpGet_none ((h2 s).trans hs)]
  simp [go_sem, zeroValue, typeInfo, hi, hz]
theorem MpIs.at2 {mt et : TypeId} (hm : Try.prog.underlying mt = some (.map t et)) {i0 : TypeInfo} {z : Value} (hi : Try.prog.info? et = some i0) (hz : i0.zero = some z) (hk : KeyFd t kV) {W : World} {b : Nat} {F : α → Option β} (h : MpIs kV vV W b F) (s : α) :
    (Instr.lookup mt (.map (some b)) (kV s) true).run Try.prog W = .ok (match F s with | some v => .tuple #[vV v, .bool true] | none => .tuple #[z, .bool false]) W := by
  obtain ⟨L, h1, h2⟩ := h
  unfold Instr.lookup
  simp only [Sem.run_bind, run_underlying hm, Result.andThen_ok, mpGetObj h1, hk.check, hk.find, Sem.run_pure]
  rw [← h2 s]
  cases hg : mpGet s L with
  | none =>
    rw [mpGet_none hg]
    simp [go_sem, zeroValue, typeInfo, hi, hz]
  | some v =>
    obtain ⟨i, hi⟩ := mpGet_some hg
    rw [hi]
    simp
theorem mpAt_at {s : α} {v : β} : ∀ {L : List (α × β)} {k i : Nat}, mpAt s L k = some (i, v) → k ≤ i ∧ L[i - k]? = some (s, v)
  | [], _, _, h => by cases h
  | p :: L, k, i, h => by
    rw [mpAt] at h
    split at h
    · rename_i e
      simp only [Option.some.injEq, Prod.mk.injEq] at h
      obtain ⟨rfl, rfl⟩ := h
      exact ⟨Nat.le_refl _, by simp [← e]⟩
    · obtain ⟨h1, h2⟩ := mpAt_at h
      refine ⟨by omega, ?_⟩
      rw [show i - k = (i - (k + 1)) + 1 by omega]
      simpa using h2
theorem mpGet_set {s : α} {v u : β} : ∀ {L : List (α × β)} {k i : Nat}, mpAt s L k = some (i, u) → ∀ x, mpGet x (L.set (i - k) (s, v)) = if x = s then some v else mpGet x L
  | [], _, _, h, _ => by cases h
  | p :: L, k, i, h, x => by
    rw [mpAt] at h
    split at h
    · rename_i e
      simp only [Option.some.injEq, Prod.mk.injEq] at h
      obtain ⟨rfl, rfl⟩ := h
      rw [show k - k = 0 by omega, List.set_cons_zero, mpGet_cons, mpGet_cons]
      by_cases hx : x = s
      · rw [if_pos hx.symm, if_pos hx]
      · rw [if_neg (fun e => hx e.symm), if_neg hx, if_neg (fun e2 => hx (by rw [← e2, e]))]
    · rename_i hne
      obtain ⟨h1, _⟩ := mpAt_at h
      rw [show i - k = (i - (k + 1)) + 1 by omega, List.set_cons_succ, mpGet_cons, mpGet_cons, mpGet_set h x]
      by_cases hx : p.1 = x
      · rw [if_pos hx, if_pos hx, if_neg (fun e => hne (hx.trans e))]
      · rw [if_neg hx, if_neg hx]
theorem mpGet_push {s x : α} {v : β} : ∀ {L : List (α × β)}, mpGet s L = none → mpGet x (L ++ [(s, v)]) = if x = s then some v else mpGet x L
  | [], _ => by
    rw [List.nil_append, mpGet_cons]
    by_cases h : x = s
    · rw [if_pos h.symm, if_pos h]
    · rw [if_neg (fun e => h e.symm), if_neg h]
  | p :: L, hn => by
    rw [mpGet_cons] at hn
    split at hn
    · cases hn
    · rename_i hne
      rw [List.cons_append, mpGet_cons, mpGet_cons, mpGet_push hn]
      by_cases hx : p.1 = x
      · rw [if_pos hx, if_pos hx, if_neg (fun e => hne (hx.trans e))]
      · rw [if_neg hx, if_neg hx]
theorem mkE_set (L : List (α × β)) (i : Nat) (s : α) (v : β) : (mkE kV vV L).modify i (fun e => { e with key := kV s, val := vV v }) = mkE kV vV (L.set i (s, v)) := by
  refine Array.ext (by simp [mkE]) (fun j h1 h2 => ?_)
  rw [Array.getElem_modify]
  simp only [mkE, List.getElem_toArray, List.getElem_map, List.getElem_zipIdx, Nat.zero_add]
  rw [List.getElem_set]
  split <;> rfl
/-- a key is laid. -/
theorem MpIs.put {mt et : TypeId} (hm : Try.prog.underlying mt = some (.map t et)) (hk : KeyFd t kV) {W : World} {b : Nat} {F : α → Option β} (h : MpIs kV vV W b F) (s : α) (v : β) :
    ∃ o, (Instr.mapUpdate mt (.map (some b)) (kV s) (vV v)).run Try.prog W = .ok () (W.putObj b o) ∧ MpIs kV vV (W.putObj b o) b (fun x => if x = s then some v else F x) := by
  obtain ⟨L, h1, h2⟩ := h
  cases hg : mpGet s L with
  | none =>
    refine ⟨.map (mkE kV vV (L ++ [(s, v)])) (L ++ [(s, v)]).length, ?_, L ++ [(s, v)], World.putObj_heap_same h1.lt, fun x => by rw [mpGet_push hg, h2]⟩
    unfold Instr.mapUpdate
    simp only [Sem.run_bind, run_underlying hm, Result.andThen_ok, mpGetObj h1, hk.check, hk.find, mpGet_none hg]
    simp only [Option.map_none]
    rw [mkE_push, mpSetObj _ h1]
    simp
  | some u =>
    obtain ⟨i, hi⟩ := mpGet_some hg
    obtain ⟨_, hL⟩ := mpAt_at hi
    have hset := mpGet_set (v := v) hi
    simp only [Nat.sub_zero] at hL hset
    refine ⟨.map (mkE kV vV (L.set i (s, v))) (L.set i (s, v)).length, ?_, L.set i (s, v), World.putObj_heap_same h1.lt, fun x => by rw [hset, h2]⟩
    unfold Instr.mapUpdate
    simp only [Sem.run_bind, run_underlying hm, Result.andThen_ok, mpGetObj h1, hk.check, hk.find, hi]
    simp only [Option.map_some]
    have hkey : (((mkE kV vV L)[i]?).map (·.key)).getD (kV s) = kV s := by
      have : (mkE kV vV L)[i]? = some { key := kV s, val := vV u, born := i } := by
        simp [mkE, List.getElem?_zipIdx, hL]
      rw [this]; rfl
    rw [hkey]
    simp only [Sem.run_bind, hk.stays, Result.andThen_ok]
    rw [mkE_set, mpSetObj _ h1]
    simp
theorem fr_putO (R : Nat → Prop) (W : World) (b : Nat) (o : Obj) (h : R b) : Fr R W (W.putObj b o) :=
  ⟨rfl, rfl, rfl, by simp, fun k _ hn => World.putObj_heap_other (fun e => hn (e ▸ h))⟩
end
end Go.Proofs.Ythihdiilokdidaa
end
