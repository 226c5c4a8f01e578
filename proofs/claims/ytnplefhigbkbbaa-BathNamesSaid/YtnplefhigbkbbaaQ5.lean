/- Bath: the fewest readings (plain): sets by bits, their lists, the order; what leave does. · All dips of a works, one for each set of instruments (plain). · The fewest dips of a works, among some of all dips (plain). · Bath: dips (walk). · The library's Reverse at []Dip (the shelf's contract, laid at this dump). · Bath: begun, nearer, known (walks). · Bath: known (walk). · The library's Clone at []int (the shelf's contracts, laid at this dump). -/
import Derived.Shelf.SlicesQ.Reverse
import Derived.Ground.Names2Prog
import Derived.Shelf.Slices.Clone
import Derived.Shelf.Slices.Cells
import Derived.Test.YtnplefhigbkbbaaQ4
import Derived.Test.YtnplefhigbkbbaaQ3
import Derived.Test.YtnplefhigbkbbaaQ2
import Derived.Test.YtnplefhigbkbbaaQ1
import Derived.Test.YtnplefhigbkbbaaProg
set_option linter.unusedVariables false
set_option linter.unusedSimpArgs false
set_option linter.unusedSectionVars false
section
namespace Go.Proofs.Ytnplefhigbkbbaa

/-- how many of the first n bits are 1. -/
def cardB (b : Nat) : Nat → Nat
  | 0 => 0
  | n + 1 => cardB b n + (if b.testBit n = true then 1 else 0)
/-- which of the first n bits are 1. -/
def idxB (b : Nat) : Nat → List Nat
  | 0 => []
  | n + 1 => idxB b n ++ (if b.testBit n = true then [n] else [])
theorem idxB_len {b : Nat} : ∀ {n : Nat}, (idxB b n).length = cardB b n
  | 0 => rfl
  | n + 1 => by
    rw [idxB, cardB, List.length_append, idxB_len]
    split <;> rfl
theorem mem_idxB {b i : Nat} : ∀ {n : Nat}, i ∈ idxB b n ↔ i < n ∧ b.testBit i = true
  | 0 => by simp [idxB]
  | n + 1 => by
    rw [idxB, List.mem_append, mem_idxB]
    split
    · rename_i h
      constructor
      · rintro (h1 | h1)
        · exact ⟨by omega, h1.2⟩
        · rw [List.mem_singleton.1 h1]; exact ⟨by omega, h⟩
      · rintro ⟨h1, h2⟩
        by_cases e : i = n
        · subst e; simp
        · exact .inl ⟨by omega, h2⟩
    · rename_i h
      constructor
      · rintro (h1 | h1)
        · exact ⟨by omega, h1.2⟩
        · cases h1
      · rintro ⟨h1, h2⟩
        refine .inl ⟨?_, h2⟩
        by_cases e : i = n
        · subst e; exact absurd h2 h
        · omega
theorem idxB_congr {b c : Nat} : ∀ {n : Nat}, (∀ i, i < n → b.testBit i = c.testBit i) → idxB b n = idxB c n
  | 0, _ => rfl
  | n + 1, h => by rw [idxB, idxB, idxB_congr (fun i hi => h i (by omega)), h n (by omega)]
/-- one set of readings is in another one. -/
def SubB (n b c : Nat) : Prop := ∀ i, i < n → b.testBit i = true → c.testBit i = true
theorem SubB.refl (n b : Nat) : SubB n b b := fun _ _ h => h
theorem SubB.trans {n b c d : Nat} (h : SubB n b c) (k : SubB n c d) : SubB n b d := fun i hi hb => k i hi (h i hi hb)
theorem SubB.card {b c : Nat} : ∀ {n : Nat}, SubB n b c → cardB b n ≤ cardB c n
  | 0, _ => Nat.le_refl _
  | n + 1, h => by
    have h1 := SubB.card (n := n) (fun i hi => h i (by omega))
    have h2 := h n (by omega)
    rw [cardB, cardB]
    split
    · rename_i h3
      rw [if_pos (h2 h3)]; omega
    · split <;> omega
theorem SubB.back {b c : Nat} : ∀ {n : Nat}, SubB n b c → cardB c n ≤ cardB b n → SubB n c b
  | 0, _, _ => fun i hi => by omega
  | n + 1, h, hc => by
    have h0 : SubB n b c := fun i hi => h i (by omega)
    have h1 := h0.card
    have h2 := h n (by omega)
    rw [cardB, cardB] at hc
    cases hb : b.testBit n
    · simp only [hb, Bool.false_eq_true, if_false] at hc
      split at hc
      · omega
      · rename_i h3
        intro i hi h4
        by_cases e : i = n
        · subst e; exact absurd h4 h3
        · exact SubB.back h0 (by omega) i (by omega) h4
    · simp only [hb, h2 hb, if_true] at hc
      intro i hi h4
      by_cases e : i = n
      · subst e; exact hb
      · exact SubB.back h0 (by omega) i (by omega) h4
theorem card_or {o k : Nat} : ∀ {n : Nat}, o.testBit k = false → cardB (o ||| 2 ^ k) n = cardB o n + (if k < n then 1 else 0)
  | 0, _ => by simp [cardB]
  | n + 1, h => by
    rw [cardB, cardB, card_or h, or_bit]
    by_cases e : k = n
    · subst e
      simp [h]
    · have e2 : (k < n + 1) = (k < n) := by simp only [eq_iff_iff]; omega
      simp only [decide_eq_false e, Bool.or_false, e2]
      omega

/-- one place is before another one. -/
def pltB (p q : Nat × Nat) : Bool := decide (p.1 < q.1 ∨ (p.1 = q.1 ∧ p.2 < q.2))
/-- one list of places is before another one. -/
def ltP : List (Nat × Nat) → List (Nat × Nat) → Bool
  | [], [] => false
  | [], _ :: _ => true
  | _ :: _, [] => false
  | p :: a, q :: b => if p = q then ltP a b else pltB p q
theorem ltP_irr : ∀ {a : List (Nat × Nat)}, ltP a a = false
  | [] => rfl
  | p :: a => by rw [ltP, if_pos rfl]; exact ltP_irr
theorem pltB_iff {p q : Nat × Nat} : pltB p q = true ↔ p.1 < q.1 ∨ (p.1 = q.1 ∧ p.2 < q.2) := by unfold pltB; rw [decide_eq_true_eq]
theorem pair_ne {p q : Nat × Nat} (h : p ≠ q) : p.1 ≠ q.1 ∨ p.2 ≠ q.2 := by
  obtain ⟨a, b⟩ := p
  obtain ⟨c, d⟩ := q
  by_cases h1 : a = c
  · exact .inr (fun h2 => h (by simp only at h1 h2; rw [h1, h2]))
  · exact .inl h1
theorem ltP_trans : ∀ {a b c : List (Nat × Nat)}, ltP a b = true → ltP b c = true → ltP a c = true
  | [], [], _, h, _ => by cases h
  | [], _ :: _, [], _, h => by cases h
  | [], _ :: _, _ :: _, _, _ => rfl
  | _ :: _, [], _, h, _ => by cases h
  | _ :: _, _ :: _, [], _, h => by cases h
  | p :: a, q :: b, r :: c, h, k => by
    rw [ltP] at h k ⊢
    by_cases e1 : p = q
    · subst e1
      rw [if_pos rfl] at h
      by_cases e2 : p = r
      · subst e2
        rw [if_pos rfl] at k ⊢
        exact ltP_trans h k
      · rw [if_neg e2] at k ⊢
        exact k
    · rw [if_neg e1] at h
      by_cases e2 : q = r
      · subst e2
        rw [if_neg e1]
        exact h
      · rw [if_neg e2] at k
        rw [pltB_iff] at h k
        rw [if_neg (fun e => by subst e; omega), pltB_iff]
        omega
theorem ltP_tri : ∀ {a b : List (Nat × Nat)}, ltP a b = false → ltP b a = false → a = b
  | [], [], _, _ => rfl
  | [], _ :: _, h, _ => by cases h
  | _ :: _, [], _, h => by cases h
  | p :: a, q :: b, h, k => by
    rw [ltP] at h k
    by_cases e : p = q
    · subst e
      rw [if_pos rfl] at h k
      rw [ltP_tri h k]
    · rw [if_neg e] at h
      rw [if_neg (fun e' => e e'.symm)] at k
      rw [← Bool.not_eq_true, pltB_iff] at h k
      have := pair_ne e
      omega
/-- not behind. -/
def leP (a b : List (Nat × Nat)) : Prop := ltP b a = false
theorem leP.refl (a : List (Nat × Nat)) : leP a a := ltP_irr
theorem leP_of_lt {a b : List (Nat × Nat)} (h : ltP a b = true) : leP a b := by
  unfold leP
  cases hx : ltP b a
  · rfl
  · have := ltP_trans h hx
    rw [ltP_irr] at this; cases this
theorem leP.trans {a b c : List (Nat × Nat)} (h : leP a b) (k : leP b c) : leP a c := by
  unfold leP at *
  cases hx : ltP c a
  · rfl
  · cases hy : ltP a b
    · have := ltP_tri hy h
      subst this
      rw [k] at hx; cases hx
    · have := ltP_trans hx hy
      rw [k] at this; cases this
/-- the best so far: none is behind all. -/
def leO : Option (List (Nat × Nat)) → Option (List (Nat × Nat)) → Prop
  | _, none => True
  | none, some _ => False
  | some a, some b => leP a b
theorem leO.refl : ∀ (a : Option (List (Nat × Nat))), leO a a
  | none => trivial
  | some a => leP.refl a
theorem leO.trans : ∀ {a b c : Option (List (Nat × Nat))}, leO a b → leO b c → leO a c
  | _, _, none, _, _ => by simp [leO]
  | _, none, some _, _, k => absurd k (by simp [leO])
  | none, some _, some _, h, _ => absurd h (by simp [leO])
  | some _, some _, some _, h, k => leP.trans h k

/-- the places of a set. -/
def plOf (s : Se) (b : Nat) : List (Nat × Nat) := (idxB b (placeL s).length).map (pAt s)
theorem plOf_len {s : Se} {b : Nat} : (plOf s b).length = cardB b (placeL s).length := by rw [plOf, List.length_map, idxB_len]
/-- leaving out these a series does not contradict itself. -/
def Fits (s : Se) (b : Nat) : Prop := ¬ Clash s b
abbrev cardS (s : Se) (b : Nat) : Nat := cardB b (placeL s).length
abbrev SubS (s : Se) (b c : Nat) : Prop := SubB (placeL s).length b c
theorem Clash.mono {s : Se} {b c : Nat} (h : Clash s c) (hs : SubS s b c) : Clash s b := by
  rintro ⟨o, x, ht⟩
  exact h ⟨o, x, ht.mono fun i hi hb => hs i hi hb⟩
/-- what leave does. -/
structure LeaveIs (s : Se) (out many : Nat) (b : Option (List (Nat × Nat))) (found : Bool) (b' : Option (List (Nat × Nat))) : Prop where
  le : leO b' b
  no : found = false → b' = b
  yes : found = true → ∃ T, Fits s T ∧ SubS s out T ∧ cardS s T ≤ cardS s out + many
  all : ∀ S, Fits s S → SubS s out S → cardS s S ≤ cardS s out + many → found = true ∧ ∃ T, Fits s T ∧ SubS s out T ∧ SubS s T S ∧ leO b' (some (plOf s T))
  new : b' = b ∨ ∃ T, b' = some (plOf s T) ∧ Fits s T ∧ SubS s out T ∧ cardS s T ≤ cardS s out + many
section
variable {s : Se} {out many : Nat} {b b' : Option (List (Nat × Nat))}
/-- the better one of the best and a list. -/
def betterO (b : Option (List (Nat × Nat))) (l : List (Nat × Nat)) : Option (List (Nat × Nat)) := match b with | none => some l | some a => if ltP l a = true then some l else some a
theorem betterO_le {l : List (Nat × Nat)} : leO (betterO b l) b ∧ leO (betterO b l) (some l) ∧ (betterO b l = b ∨ betterO b l = some l) := by
  unfold betterO
  cases b with
  | none => exact ⟨trivial, leO.refl _, .inr rfl⟩
  | some a =>
    simp only
    split
    · rename_i h; exact ⟨leP_of_lt h, leO.refl _, .inr rfl⟩
    · rename_i h; exact ⟨leO.refl _, by simpa [leO, leP] using h, .inl rfl⟩
theorem leave_fits (h : Fits s out) : LeaveIs s out many b true (betterO b (plOf s out)) := by
  obtain ⟨h1, h2, h3⟩ := betterO_le (b := b) (l := plOf s out)
  refine ⟨h1, fun h => (by cases h), fun _ => ⟨out, h, SubB.refl _ _, by omega⟩, fun S _ hs _ => ⟨rfl, out, h, SubB.refl _ _, hs, h2⟩, ?_⟩
  rcases h3 with h3 | h3
  · exact .inl h3
  · exact .inr ⟨out, h3, h, SubB.refl _ _, by omega⟩
theorem leave_zero (h : Clash s out) : LeaveIs s out 0 b false b := by
  refine ⟨leO.refl _, fun _ => rfl, fun h => (by cases h), fun S hS hs hc => ?_, .inl rfl⟩
  exact absurd (h.mono (hs.back hc)) hS
/-- so many of a knot have been tried. -/
structure LeaveTo (s : Se) (out many : Nat) (l : List Nat) (k : Nat) (b : Option (List (Nat × Nat))) (found : Bool) (b' : Option (List (Nat × Nat))) : Prop where
  le : leO b' b
  no : found = false → b' = b
  yes : found = true → ∃ T, Fits s T ∧ SubS s out T ∧ cardS s T ≤ cardS s out + (many + 1)
  all : ∀ S, Fits s S → SubS s out S → cardS s S ≤ cardS s out + (many + 1) → (∃ j, ∃ (hj : j < l.length), j < k ∧ S.testBit l[j] = true) → found = true ∧ ∃ T, Fits s T ∧ SubS s out T ∧ SubS s T S ∧ leO b' (some (plOf s T))
  new : b' = b ∨ ∃ T, b' = some (plOf s T) ∧ Fits s T ∧ SubS s out T ∧ cardS s T ≤ cardS s out + (many + 1)
theorem LeaveTo.start {l : List Nat} : LeaveTo s out many l 0 b false b :=
  ⟨leO.refl _, fun _ => rfl, fun h => (by cases h), fun _ _ _ _ ⟨_, _, h, _⟩ => by omega, .inl rfl⟩
theorem sub_or {n o i : Nat} : SubB n o (o ||| 2 ^ i) := fun j _ h => by rw [or_bit, h]; rfl
theorem or_sub {n o i c : Nat} (h : SubB n o c) (hi : c.testBit i = true) : SubB n (o ||| 2 ^ i) c := fun j hj h2 => by
  rw [or_bit, Bool.or_eq_true, decide_eq_true_eq] at h2
  rcases h2 with h2 | h2
  · exact h j hj h2
  · subst h2; exact hi
theorem LeaveTo.step {l : List Nat} {k : Nat} {found f2 : Bool} {b2 : Option (List (Nat × Nat))} (h : LeaveTo s out many l k b found b') (hk : k < l.length) (hl : l[k] < (placeL s).length ∧ out.testBit l[k] = false)
    (h2 : LeaveIs s (out ||| 2 ^ l[k]) many b' f2 b2) : LeaveTo s out many l (k + 1) b (f2 || found) b2 := by
  have hc : cardS s (out ||| 2 ^ l[k]) = cardS s out + 1 := by
    unfold cardS
    rw [card_or hl.2, if_pos hl.1]
  refine ⟨leO.trans h2.le h.le, fun hf => ?_, fun hf => ?_, fun S hS hs hcd hx => ?_, ?_⟩
  · rw [Bool.or_eq_false_iff] at hf
    rw [h2.no hf.1, h.no hf.2]
  · rw [Bool.or_eq_true] at hf
    rcases hf with hf | hf
    · obtain ⟨T, t1, t2, t3⟩ := h2.yes hf
      exact ⟨T, t1, sub_or.trans t2, by omega⟩
    · exact h.yes hf
  · obtain ⟨j, hj, hjk, hjs⟩ := hx
    rcases Nat.lt_succ_iff_lt_or_eq.1 hjk with h3 | h3
    · obtain ⟨h4, T, t1, t2, t3, t4⟩ := h.all S hS hs hcd ⟨j, hj, h3, hjs⟩
      exact ⟨by rw [h4, Bool.or_true], T, t1, t2, t3, leO.trans h2.le t4⟩
    · subst h3
      obtain ⟨h4, T, t1, t2, t3, t4⟩ := h2.all S hS (or_sub hs hjs) (by omega)
      exact ⟨by rw [h4, Bool.true_or], T, t1, sub_or.trans t2, t3, t4⟩
  · rcases h2.new with h3 | ⟨T, t1, t2, t3, t4⟩
    · rw [h3]; exact h.new
    · exact .inr ⟨T, t1, t2, sub_or.trans t3, by omega⟩
theorem LeaveTo.done {l : List Nat} {found : Bool} (h : LeaveTo s out many l l.length b found b') (hk : KnotIs s out l) : LeaveIs s out (many + 1) b found b' :=
  ⟨h.le, h.no, h.yes, fun S hS hs hc => h.all S hS hs hc (by
    obtain ⟨i, hi, hb⟩ := hk.2 S hS
    obtain ⟨j, hj, rfl⟩ := List.getElem_of_mem hi
    exact ⟨j, hj, hj, hb⟩), h.new⟩
end
/-- the fewest readings: the first of the shortest lists without which the series fits. -/
def FewestIs (s : Se) (r : List (Nat × Nat)) : Prop := ∃ T, r = plOf s T ∧ Fits s T ∧ ∀ S, Fits s S → cardS s T ≤ cardS s S ∧ (cardS s S = cardS s T → leP r (plOf s S))
theorem plOf_congr {s : Se} {b c : Nat} (h : SubS s b c) (k : SubS s c b) : plOf s b = plOf s c := by
  unfold plOf
  rw [idxB_congr (b := b) (c := c) (fun i hi => by
    have h1 := h i hi
    have h2 := k i hi
    cases hb : b.testBit i <;> cases hc : c.testBit i <;> simp_all)]
theorem sub_zero {n b : Nat} : SubB n 0 b := fun i _ h => by simp at h
theorem card_zero : ∀ {n : Nat}, cardB 0 n = 0
  | 0 => rfl
  | n + 1 => by rw [cardB, card_zero]; simp
/-- the first number of readings that does. -/
theorem fewest_of {s : Se} {k : Nat} {b' : Option (List (Nat × Nat))} (hlow : ∀ S, Fits s S → k ≤ cardS s S) (h : LeaveIs s 0 k none true b') : ∃ r, b' = some r ∧ FewestIs s r := by
  have hc : cardS s 0 = 0 := card_zero
  obtain ⟨T0, f0, s0, c0⟩ := h.yes rfl
  obtain ⟨_, T1, f1, _, _, l1⟩ := h.all T0 f0 s0 c0
  rcases h.new with h2 | ⟨T, rfl, fT, _, cT⟩
  · rw [h2] at l1; exact l1.elim
  refine ⟨_, rfl, T, rfl, fT, fun S fS => ?_⟩
  have h3 := hlow T fT
  have h4 := hlow S fS
  refine ⟨by omega, fun he => ?_⟩
  obtain ⟨_, T2, f2, _, s2, l2⟩ := h.all S fS sub_zero (by omega)
  have h5 := hlow T2 f2
  have e := plOf_congr s2 (s2.back (by unfold cardS at *; omega))
  rw [e] at l2
  exact l2
theorem low_of {s : Se} {k : Nat} {b' : Option (List (Nat × Nat))} (h : LeaveIs s 0 k none false b') : ∀ S, Fits s S → k + 1 ≤ cardS s S := fun S hS => by
  rcases Nat.lt_or_ge k (cardS s S) with h1 | h1
  · exact h1
  · have := (h.all S hS sub_zero (by have : cardS s 0 = 0 := card_zero; omega)).1
    cases this
theorem FewestIs.uniq {s : Se} {r r' : List (Nat × Nat)} (h : FewestIs s r) (k : FewestIs s r') : r = r' := by
  obtain ⟨T, rfl, fT, hT⟩ := h
  obtain ⟨S, rfl, fS, hS⟩ := k
  have h1 := hT S fS
  have h2 := hS T fT
  exact ltP_tri (h2.2 (by omega)) (h1.2 (by omega))
/-- without any reading there is a truth. -/
theorem fits_all {s : Se} (hok : SeOk s) {b : Nat} (hb : ∀ i, i < (placeL s).length → b.testBit i = true) : Fits s b := fun h => h ⟨fun n => (gR s.offs n).lo, fun b => (gBt s.baths b).heat.lo, ⟨fun n hn => by have := hok.offs n hn; omega, fun b hb => by have := hok.heats b hb; omega, fun i hi ho => by rw [hb i hi] at ho; cases ho⟩⟩
theorem card_full {b : Nat} : ∀ {n : Nat}, cardB b n ≤ n
  | 0 => Nat.le_refl _
  | n + 1 => by rw [cardB]; have := card_full (b := b) (n := n); split <;> omega
end Go.Proofs.Ytnplefhigbkbbaa
end

section
namespace Go.Proofs.Ytnplefhigbkbbaa

theorem inc_ext : ∀ {l m : List Int}, l.Pairwise (· < ·) → m.Pairwise (· < ·) → (∀ x, x ∈ l ↔ x ∈ m) → l = m
  | [], [], _, _, _ => rfl
  | [], y :: m, _, _, h => by have := (h y).2 (by simp); cases this
  | x :: l, [], _, _, h => by have := (h x).1 (by simp); cases this
  | x :: l, y :: m, hl, hm, h => by
    rw [List.pairwise_cons] at hl hm
    have e : x = y := by
      have h1 := (h x).1 (by simp)
      have h2 := (h y).2 (by simp)
      rcases List.mem_cons.1 h1 with e | h1
      · exact e
      · rcases List.mem_cons.1 h2 with e | h2
        · exact e.symm
        · have := hm.1 x h1
          have := hl.1 y h2
          omega
    subst e
    rw [inc_ext hl.2 hm.2 fun z => ?_]
    constructor
    · intro hz
      rcases List.mem_cons.1 ((h z).1 (List.mem_cons_of_mem _ hz)) with e | h1
      · have := hl.1 z hz; omega
      · exact h1
    · intro hz
      rcases List.mem_cons.1 ((h z).2 (List.mem_cons_of_mem _ hz)) with e | h1
      · have := hm.1 z hz; omega
      · exact h1
theorem idxB_inc {b : Nat} : ∀ {n : Nat}, (natI (idxB b n)).Pairwise (· < ·)
  | 0 => by simp [idxB, natI]
  | n + 1 => by
    have ih := idxB_inc (b := b) (n := n)
    rw [idxB]
    split
    · unfold natI at ih ⊢
      rw [List.map_append, List.pairwise_append]
      refine ⟨ih, by simp, fun x hx y hy => ?_⟩
      obtain ⟨i, hi, rfl⟩ := List.mem_map.1 hx
      have h1 := (mem_idxB.1 hi).1
      simp only [List.map_cons, List.map_nil, List.mem_singleton] at hy
      omega
    · rw [List.append_nil]; exact ih
theorem gI_mem {l : List Int} {k : Nat} (h : k < l.length) : gI l k ∈ l := by unfold gI; simp [h]
theorem gI_of {l : List Int} {x : Int} (h : x ∈ l) : ∃ k, k < l.length ∧ gI l k = x := by
  obtain ⟨k, hk, e⟩ := List.getElem_of_mem h
  exact ⟨k, hk, by unfold gI; simp [hk, e]⟩
theorem inc_of {l : List Int} (h : ∀ k, k + 1 < l.length → gI l k < gI l (k + 1)) : l.Pairwise (· < ·) := by
  have h2 : ∀ j i, i < j → j < l.length → gI l i < gI l j := by
    intro j
    induction j with
    | zero => intro i hi; omega
    | succ j ih =>
      intro i hi hj
      have h3 := h j hj
      rcases Nat.lt_succ_iff_lt_or_eq.1 hi with h4 | h4
      · have := ih i h4 (by omega); omega
      · rw [h4]; exact h3
  rw [List.pairwise_iff_getElem]
  intro i j hi hj hij
  have := h2 j i hij hj
  unfold gI at this
  simpa [hi, hj] using this
theorem inc_at {l : List Int} (h : l.Pairwise (· < ·)) {i j : Nat} (hij : i < j) (hj : j < l.length) : gI l i < gI l j := by
  have := (List.pairwise_iff_getElem.1 h) i j (by omega) hj hij
  unfold gI
  simpa [show i < l.length by omega, hj] using this

/-- the dip of some instruments, told by bits. -/
def hotTo (w : Wo) (b : Nat) : Nat → Int
  | 0 => 0
  | k + 1 => if b.testBit k = true then max (hotTo w b k) (gR w.rng k).lo else hotTo w b k
def colTo (w : Wo) (b : Nat) : Nat → Int
  | 0 => 1000
  | k + 1 => if b.testBit k = true then min (colTo w b k) (gR w.rng k).hi else colTo w b k
def dpB (w : Wo) (b : Nat) : Dp := ⟨hotTo w b w.rng.length, natI (idxB b w.rng.length)⟩
theorem hotTo_ge {w : Wo} {b i : Nat} : ∀ {k : Nat}, i < k → b.testBit i = true → (gR w.rng i).lo ≤ hotTo w b k
  | k + 1, hi, hb => by
    rw [hotTo]
    by_cases e : i = k
    · subst e; rw [if_pos hb]; omega
    · have := hotTo_ge (w := w) (k := k) (by omega) hb
      split <;> omega
theorem hotTo_le {w : Wo} {b : Nat} {c : Int} (h0 : 0 ≤ c) : ∀ {k : Nat}, (∀ i, i < k → b.testBit i = true → (gR w.rng i).lo ≤ c) → 0 ≤ hotTo w b k ∧ hotTo w b k ≤ c
  | 0, _ => by rw [hotTo]; omega
  | k + 1, h => by
    have h1 := hotTo_le (w := w) (b := b) h0 (k := k) fun i hi => h i (by omega)
    rw [hotTo]
    split
    · rename_i hb
      have := h k (by omega) hb
      omega
    · exact h1
theorem colTo_ge {w : Wo} {b : Nat} {c : Int} (h0 : c ≤ 1000) : ∀ {k : Nat}, (∀ i, i < k → b.testBit i = true → c ≤ (gR w.rng i).hi) → c ≤ colTo w b k ∧ colTo w b k ≤ 1000
  | 0, _ => by rw [colTo]; omega
  | k + 1, h => by
    have h1 := colTo_ge (w := w) (b := b) h0 (k := k) fun i hi => h i (by omega)
    rw [colTo]
    split
    · rename_i hb
      have := h k (by omega) hb
      omega
    · exact h1
theorem natI_mem {l : List Nat} {x : Int} : x ∈ natI l ↔ ∃ i, i ∈ l ∧ (i : Int) = x := by unfold natI; exact List.mem_map
/-- a right dip's least heat does, too. -/
theorem dpB_hot {w : Wo} {b : Nat} (hw : WoOk w) (h : dipB w (dpB w b) = true) : hotTo w b w.rng.length ≤ colTo w b w.rng.length := by
  have h1 := dipOk_iff.1 h
  have hl := h1.len
  have hhot : hotTo w b w.rng.length ≤ 1000 := by
    have h2 := h1.heat 0 (by show 0 < (dpB w b).ins.length; omega)
    have h3 := h1.ins 0 (by omega)
    have h4 := hw.rng (gI (dpB w b).ins 0).toNat (by omega)
    have h5 : (dpB w b).heat = hotTo w b w.rng.length := rfl
    omega
  refine (colTo_ge hhot fun i hi hb => ?_).1
  obtain ⟨k, hk, e⟩ := gI_of (l := natI (idxB b w.rng.length)) (x := (i : Int)) (natI_mem.2 ⟨i, mem_idxB.2 ⟨hi, hb⟩, rfl⟩)
  have h6 : gI (dpB w b).ins k = (i : Int) := e
  have h2 := (h1.heat k hk).2
  rw [h6] at h2
  rw [Int.toNat_natCast] at h2
  exact h2
/-- all right dips, one for each set. -/
def dipsTo (w : Wo) : Nat → List Dp
  | 0 => []
  | k + 1 => dipsTo w k ++ (if dipB w (dpB w k) = true then [dpB w k] else [])
def dipsL (w : Wo) : List Dp := dipsTo w (2 ^ w.rng.length)
theorem dipsTo_mem {w : Wo} {d : Dp} : ∀ {k : Nat}, d ∈ dipsTo w k ↔ ∃ b, b < k ∧ d = dpB w b ∧ dipB w (dpB w b) = true
  | 0 => by simp [dipsTo]
  | k + 1 => by
    rw [dipsTo, List.mem_append, dipsTo_mem]
    constructor
    · rintro (⟨b, h1, h2⟩ | h)
      · exact ⟨b, by omega, h2⟩
      · split at h
        · rename_i hd
          exact ⟨k, by omega, List.mem_singleton.1 h, hd⟩
        · cases h
    · rintro ⟨b, h1, h2, h3⟩
      by_cases e : b = k
      · subst e
        right
        rw [if_pos h3, h2]; simp
      · exact .inl ⟨b, by omega, h2, h3⟩
theorem dipsTo_len {w : Wo} : ∀ {k : Nat}, (dipsTo w k).length ≤ k
  | 0 => Nat.le_refl _
  | k + 1 => by
    have := dipsTo_len (w := w) (k := k)
    rw [dipsTo, List.length_append]
    split <;> simp <;> omega
theorem dipsL_len {w : Wo} (hw : WoOk w) : (dipsL w).length ≤ 64 := by
  have h1 := dipsTo_len (w := w) (k := 2 ^ w.rng.length)
  have h2 : 2 ^ w.rng.length ≤ 2 ^ 6 := Nat.pow_le_pow_right (by omega) hw.n.2
  unfold dipsL
  omega
theorem dipsL_ok {w : Wo} : ∀ d ∈ dipsL w, DipOk w d := fun d hd => by
  obtain ⟨b, _, e, h⟩ := dipsTo_mem.1 hd
  rw [e]; exact dipOk_iff.1 h
def bitsOf : List Int → Nat
  | [] => 0
  | x :: l => bitsOf l ||| 2 ^ x.toNat
theorem bitsOf_bit : ∀ {l : List Int}, (∀ x ∈ l, 0 ≤ x) → ∀ i : Nat, (bitsOf l).testBit i = true ↔ (i : Int) ∈ l
  | [], _, i => by simp [bitsOf]
  | x :: l, h, i => by
    rw [bitsOf, or_bit, Bool.or_eq_true, bitsOf_bit (fun y hy => h y (List.mem_cons_of_mem _ hy)), decide_eq_true_eq, List.mem_cons]
    have := h x (by simp)
    constructor
    · rintro (h1 | h1)
      · exact .inr h1
      · exact .inl (by omega)
    · rintro (h1 | h1)
      · exact .inr (by omega)
      · exact .inl h1
theorem bitsOf_lt {n : Nat} : ∀ {l : List Int}, (∀ x ∈ l, 0 ≤ x ∧ x < n) → bitsOf l < 2 ^ n
  | [], _ => by rw [bitsOf]; exact Nat.two_pow_pos n
  | x :: l, h => by
    rw [bitsOf]
    refine Nat.or_lt_two_pow (bitsOf_lt fun y hy => h y (List.mem_cons_of_mem _ hy)) ?_
    exact Nat.pow_lt_pow_right (by omega) (by have := h x (by simp); omega)
/-- for each right dip there is one of the same instruments among all. -/
theorem dipsL_full {w : Wo} (hw : WoOk w) {d : Dp} (h : DipOk w d) : ∃ e ∈ dipsL w, e.ins = d.ins := by
  have hx : ∀ x ∈ d.ins, 0 ≤ x ∧ x < w.rng.length := fun x hx => by
    obtain ⟨k, hk, rfl⟩ := gI_of hx
    have := h.ins k hk
    omega
  have hbit := bitsOf_bit (l := d.ins) fun x h => (hx x h).1
  have hins : natI (idxB (bitsOf d.ins) w.rng.length) = d.ins := by
    refine inc_ext idxB_inc (inc_of h.inc) fun x => ?_
    rw [natI_mem]
    constructor
    · rintro ⟨i, hi, rfl⟩
      exact (hbit i).1 (mem_idxB.1 hi).2
    · intro hm
      have := hx x hm
      refine ⟨x.toNat, mem_idxB.2 ⟨by omega, (hbit _).2 ?_⟩, by omega⟩
      rw [Int.toNat_of_nonneg this.1]; exact hm
  have hlen := h.len
  have h0 : 0 ≤ d.heat := by
    have h1 := h.heat 0 (by omega)
    have h2 := h.ins 0 (by omega)
    have h3 := hw.rng (gI d.ins 0).toNat (by omega)
    omega
  have hlo : ∀ i, i < w.rng.length → (bitsOf d.ins).testBit i = true → (gR w.rng i).lo ≤ d.heat := fun i hi hb => by
    obtain ⟨k, hk, e⟩ := gI_of ((hbit i).1 hb)
    have h1 := (h.heat k hk).1
    rw [e, Int.toNat_natCast] at h1
    exact h1
  have hhot := hotTo_le (w := w) (b := bitsOf d.ins) h0 hlo
  refine ⟨dpB w (bitsOf d.ins), dipsTo_mem.2 ⟨_, bitsOf_lt hx, rfl, dipOk_iff.2 ⟨?_, ?_, ?_, ?_⟩⟩, hins⟩
  · show 2 ≤ ((natI (idxB (bitsOf d.ins) w.rng.length)).length : Int) ∧ ((natI (idxB (bitsOf d.ins) w.rng.length)).length : Int) ≤ w.room
    rw [hins]; exact h.len
  · show ∀ k, k < (natI (idxB (bitsOf d.ins) w.rng.length)).length → 0 ≤ gI (natI (idxB (bitsOf d.ins) w.rng.length)) k ∧ gI (natI (idxB (bitsOf d.ins) w.rng.length)) k ≤ (w.rng.length : Int) - 1
    rw [hins]; exact h.ins
  · show ∀ k, k + 1 < (natI (idxB (bitsOf d.ins) w.rng.length)).length → gI (natI (idxB (bitsOf d.ins) w.rng.length)) k < gI (natI (idxB (bitsOf d.ins) w.rng.length)) (k + 1)
    rw [hins]; exact h.inc
  · show ∀ k, k < (natI (idxB (bitsOf d.ins) w.rng.length)).length → (gR w.rng (gI (natI (idxB (bitsOf d.ins) w.rng.length)) k).toNat).lo ≤ hotTo w (bitsOf d.ins) w.rng.length ∧ hotTo w (bitsOf d.ins) w.rng.length ≤ (gR w.rng (gI (natI (idxB (bitsOf d.ins) w.rng.length)) k).toNat).hi
    rw [hins]
    intro k hk
    have h1 := h.heat k hk
    have h2 := h.ins k hk
    refine ⟨hotTo_ge (by omega) ((hbit _).2 ?_), by omega⟩
    rw [Int.toNat_of_nonneg h2.1]; exact gI_mem hk
end Go.Proofs.Ytnplefhigbkbbaa
end

section
namespace Go.Proofs.Ytnplefhigbkbbaa

/-- one dip for each instrument but the standard is enough. -/
theorem RightP.small {w : Wo} {p : List Dp} (h : RightP w p) (hw : WoOk w) : ∃ q, RightP w q ∧ q.length + 1 ≤ w.rng.length := by
  obtain ⟨K, hK, hR⟩ := h.known
  have hp := h.in6 hw
  have hn := hw.n
  have hc : ∀ i, ∃ d, i < w.rng.length → ∀ v : Nat, K.get i = (v : Int) + 1 → d ∈ p ∧ ∃ a b, a < d.ins.length ∧ b < d.ins.length ∧ (gI d.ins b).toNat = i ∧ (gI d.ins a).toNat < w.rng.length ∧ K.get (gI d.ins a).toNat = (v : Int) := fun i => by
    by_cases hi : i < w.rng.length ∧ 1 ≤ K.get i
    · obtain ⟨hi, h1⟩ := hi
      obtain ⟨v, hv⟩ : ∃ v : Nat, K.get i = (v : Int) + 1 := ⟨(K.get i - 1).toNat, by omega⟩
      obtain ⟨k, a, b, f1, f2, f3, f4, f5, _⟩ := hK.prev hp (by omega) hv
      refine ⟨gDp p k, fun _ u hu => ?_⟩
      have e : u = v := by omega
      subst e
      have := (h.dips k f1).ins a f2
      exact ⟨gDp_mem f1, a, b, f2, f3, f4, by omega, f5⟩
    · exact ⟨default, fun hi' v hv => absurd ⟨hi', by omega⟩ hi⟩
  obtain ⟨c, hc⟩ := Classical.axiomOfChoice hc
  have hz : ∀ i, i < 6 → K.get i = 0 → i = 0 := fun i hi e => by
    rcases hK i hi with ⟨e2, _⟩ | ⟨_, h1, _⟩
    · omega
    · rw [e] at h1
      have h1 : Dst p i 0 := h1
      cases h1; rfl
  have hpos : ∀ i, i + 1 < w.rng.length → ∃ v : Nat, K.get (i + 1) = (v : Int) + 1 := fun i hi => by
    have h1 := hR (i + 1) hi
    have h2 : K.get (i + 1) ≠ 0 := fun e => by have := hz (i + 1) (by omega) e; omega
    exact ⟨(K.get (i + 1) - 1).toNat, by omega⟩
  obtain ⟨q, hq⟩ : ∃ q, q = (List.range (w.rng.length - 1)).map fun i => c (i + 1) := ⟨_, rfl⟩
  have hqp : ∀ d ∈ q, d ∈ p := fun d hd => by
    rw [hq] at hd
    obtain ⟨i, hi, rfl⟩ := List.mem_map.1 hd
    have hi := List.mem_range.1 hi
    obtain ⟨v, hv⟩ := hpos i (by omega)
    exact (hc (i + 1) (by omega) v hv).1
  have hqd : ∀ k, k < q.length → DipOk w (gDp q k) := fun k hk => by
    obtain ⟨j, hj, e⟩ := gDp_of (hqp _ (gDp_mem hk))
    rw [← e]; exact h.dips j hj
  have hq6 : In6P q := fun k hk => (hqd k hk).in6 hw
  have hsub := known_sub hK hp hq6 w.rng.length hn.2 fun i v hi e => by
    obtain ⟨i, rfl⟩ : ∃ j, i = j + 1 := by
      cases i with
      | zero => have := (hK.cnt hp).std; omega
      | succ i => exact ⟨i, rfl⟩
    obtain ⟨_, a, b, f⟩ := hc (i + 1) hi v e
    exact ⟨c (i + 1), by rw [hq]; exact List.mem_map.2 ⟨i, List.mem_range.2 (by omega), rfl⟩, a, b, f⟩
  obtain ⟨K', hK', _⟩ := known_ex hq6
  refine ⟨q, ⟨hqd, K', hK', fun i hi => ?_⟩, by rw [hq]; simp; omega⟩
  have h1 := hR i hi
  have h2 := hsub (K.get i).toNat i hi (by omega)
  rcases hK' i (by omega) with ⟨_, h3⟩ | ⟨h3, _, h4⟩
  · exact absurd h2 (h3 _)
  · have := h4 _ h2
    omega
theorem nodup_le {α : Type} [DecidableEq α] : ∀ {l m : List α}, l.Nodup → (∀ x ∈ l, x ∈ m) → l.length ≤ m.length
  | [], _, _, _ => Nat.zero_le _
  | a :: l, m, hn, h => by
    rw [List.nodup_cons] at hn
    have h1 : a ∈ m := h a (by simp)
    have h2 := nodup_le (m := m.erase a) hn.2 fun x hx => by
      have hne : x ≠ a := fun e => hn.1 (e ▸ hx)
      exact (List.mem_erase_of_ne hne).2 (h x (List.mem_cons_of_mem _ hx))
    have h3 := List.length_erase_of_mem h1
    have h4 := List.length_pos_of_mem h1
    rw [List.length_cons]
    omega

theorem Dst.ins {p q : List Dp} (h : ∀ d ∈ p, ∃ e ∈ q, e.ins = d.ins) {i v : Nat} (hd : Dst p i v) : Dst q i v := by
  induction hd with
  | std => exact .std
  | @step m v k i j _ hk hi hj e ih =>
    obtain ⟨d, hd, e2⟩ := h _ (gDp_mem hk)
    obtain ⟨k', hk', rfl⟩ := gDp_of hd
    rw [← e2] at hi hj e ⊢
    exact .step ih hk' hi hj e
theorem KnownIs.ins {p q : List Dp} (h : ∀ d ∈ p, ∃ e ∈ q, e.ins = d.ins) (h' : ∀ d ∈ q, ∃ e ∈ p, e.ins = d.ins) {K : S6} (hK : KnownIs p K) : KnownIs q K := fun i hi => by
  rcases hK i hi with ⟨e, h1⟩ | ⟨e, h1, h2⟩
  · exact .inl ⟨e, fun v hv => h1 v (hv.ins h')⟩
  · exact .inr ⟨e, h1.ins h, fun v hv => h2 v (hv.ins h')⟩
theorem dpB_inj {w : Wo} {b c : Nat} (hb : b < 2 ^ w.rng.length) (hc : c < 2 ^ w.rng.length) (e : (dpB w b).ins = (dpB w c).ins) : b = c := by
  refine Nat.eq_of_testBit_eq fun i => ?_
  rcases Nat.lt_or_ge i w.rng.length with hi | hi
  · have h1 : (i : Int) ∈ natI (idxB b w.rng.length) ↔ (i : Int) ∈ natI (idxB c w.rng.length) := by
      have e : natI (idxB b w.rng.length) = natI (idxB c w.rng.length) := e
      rw [e]
    have h2 : ∀ x, (i : Int) ∈ natI (idxB x w.rng.length) ↔ x.testBit i = true := fun x => by
      rw [natI_mem]
      constructor
      · rintro ⟨j, hj, e⟩
        have : j = i := by omega
        subst this
        exact (mem_idxB.1 hj).2
      · intro h
        exact ⟨i, mem_idxB.2 ⟨hi, h⟩, rfl⟩
    rw [h2, h2] at h1
    cases hx : b.testBit i <;> cases hy : c.testBit i <;> simp_all
  · rw [Nat.testBit_lt_two_pow (Nat.lt_of_lt_of_le hb (Nat.pow_le_pow_right (by omega) hi)), Nat.testBit_lt_two_pow (Nat.lt_of_lt_of_le hc (Nat.pow_le_pow_right (by omega) hi))]
theorem dipsTo_nod {w : Wo} : ∀ {k : Nat}, k ≤ 2 ^ w.rng.length → ((dipsTo w k).map Dp.ins).Nodup
  | 0, _ => by simp [dipsTo]
  | k + 1, hk => by
    have ih := dipsTo_nod (w := w) (k := k) (by omega)
    rw [dipsTo, List.map_append]
    split
    · rw [List.nodup_append]
      refine ⟨ih, by simp, fun a ha b hb => ?_⟩
      simp only [List.map_cons, List.map_nil, List.mem_singleton] at hb
      obtain ⟨d, hd, rfl⟩ := List.mem_map.1 ha
      obtain ⟨c, hc, e, _⟩ := dipsTo_mem.1 hd
      rintro e2
      rw [e, hb] at e2
      have := dpB_inj (by omega) (by omega) e2
      omega
    · simpa using ih
/-- a right plan is no shorter than one of some of all dips. -/
theorem RightP.among {w : Wo} {p : List Dp} (h : RightP w p) (hw : WoOk w) : ∃ q, q.Sublist (dipsL w) ∧ q.length ≤ p.length ∧ RightP w q := by
  obtain ⟨q, hq⟩ : ∃ q, q = (dipsL w).filter fun e => decide (e.ins ∈ p.map Dp.ins) := ⟨_, rfl⟩
  have hs : q.Sublist (dipsL w) := by rw [hq]; exact List.filter_sublist
  have hqp : ∀ d ∈ q, ∃ e ∈ p, e.ins = d.ins := fun d hd => by
    rw [hq] at hd
    exact List.mem_map.1 (of_decide_eq_true (List.mem_filter.1 hd).2)
  have hpq : ∀ d ∈ p, ∃ e ∈ q, e.ins = d.ins := fun d hd => by
    obtain ⟨k, hk, rfl⟩ := gDp_of hd
    obtain ⟨e, he, e2⟩ := dipsL_full hw (h.dips k hk)
    refine ⟨e, ?_, e2⟩
    rw [hq]
    exact List.mem_filter.2 ⟨he, decide_eq_true (List.mem_map.2 ⟨_, hd, e2.symm⟩)⟩
  have hlen : (q.map Dp.ins).length ≤ (p.map Dp.ins).length := nodup_le ((hs.map Dp.ins).nodup (dipsTo_nod (Nat.le_refl _))) fun x hx => by
    obtain ⟨d, hd, rfl⟩ := List.mem_map.1 hx
    obtain ⟨e, he, e2⟩ := hqp d hd
    exact List.mem_map.2 ⟨e, he, e2⟩
  rw [List.length_map, List.length_map] at hlen
  obtain ⟨K, hK, hR⟩ := h.known
  exact ⟨q, hs, hlen, fun k hk => dipsL_ok _ (hs.subset (gDp_mem hk)), K, hK.ins hpq hqp, hR⟩

/-- a plan that begins so can come out right with so many more of the dips from a place on. -/
inductive CanP (w : Wo) (D : List Dp) : List Dp → Nat → Nat → Prop where
  | right {b : List Dp} {from' more : Nat} : RightP w b → CanP w D b from' more
  | step {b : List Dp} {from' more k : Nat} : k < D.length → from' ≤ k → CanP w D (b ++ [gDp D k]) (k + 1) more → CanP w D b from' (more + 1)
theorem CanP.sub {w : Wo} {D : List Dp} : ∀ {l b : List Dp} {from' more : Nat}, l.Sublist (D.drop from') → l.length ≤ more → RightP w (b ++ l) → CanP w D b from' more
  | [], b, _, _, _, _, h => .right (by rwa [List.append_nil] at h)
  | d :: l, b, from', more, hs, hl, h => by
    obtain ⟨r1, r2, e, hm, hs2⟩ := List.cons_sublist_iff.1 hs
    obtain ⟨i, hi, e2⟩ := List.getElem_of_mem hm
    have hD : D.length = from' + (r1.length + r2.length) ∨ D.length ≤ from' := by
      have := congrArg List.length e
      rw [List.length_drop, List.length_append] at this
      omega
    have hlen : D.length = from' + (r1.length + r2.length) := by
      rcases hD with h1 | h1
      · exact h1
      · have := congrArg List.length e
        rw [List.length_drop, List.length_append] at this
        omega
    have e3 : gDp D (from' + i) = d := by
      have h1 : (D.drop from')[i]? = some d := by rw [e, List.getElem?_append_left hi, List.getElem?_eq_getElem hi, e2]
      rw [List.getElem?_drop] at h1
      unfold gDp
      rw [List.getD_eq_getElem?_getD, h1]; rfl
    have hs3 : l.Sublist (D.drop (from' + i + 1)) := by
      refine hs2.trans ?_
      have h1 : D.drop (from' + i + 1) = (r1 ++ r2).drop (i + 1) := by rw [← e, List.drop_drop]; congr 1
      rw [h1, List.drop_append_of_le_length (by omega)]
      exact List.sublist_append_right _ _
    obtain ⟨more, rfl⟩ : ∃ m, more = m + 1 := ⟨more - 1, by rw [List.length_cons] at hl; omega⟩
    refine .step (k := from' + i) (by omega) (by omega) ?_
    rw [e3]
    exact CanP.sub hs3 (by rw [List.length_cons] at hl; omega) (by rw [List.append_assoc]; exact h)
theorem CanP.ex {w : Wo} {D b : List Dp} {from' more : Nat} (h : CanP w D b from' more) : ∃ l, l.length ≤ more ∧ RightP w (b ++ l) := by
  induction h with
  | right h => exact ⟨[], by simp, by rwa [List.append_nil]⟩
  | @step b from' more k _ _ _ ih =>
    obtain ⟨l, h1, h2⟩ := ih
    exact ⟨gDp D k :: l, by rw [List.length_cons]; omega, by rwa [List.append_assoc] at h2⟩
/-- the reference's number of dips. -/
def BestIs (w : Wo) (v : Int) : Prop :=
  (v = -1 ∧ ∀ m, m < w.rng.length → ¬ CanP w (dipsL w) [] 0 m) ∨ (∃ m : Nat, v = (m : Int) ∧ m < w.rng.length ∧ CanP w (dipsL w) [] 0 m ∧ ∀ k, k < m → ¬ CanP w (dipsL w) [] 0 k)
/-- a right plan with the fewest dips. -/
structure MinPl (w : Wo) (p : List Dp) : Prop where
  right : RightP w p
  least : ∀ q, RightP w q → p.length ≤ q.length
theorem BestIs.min {w : Wo} {v : Int} (hb : BestIs w v) (hw : WoOk w) {p : List Dp} (h : MinPl w p) : v = (p.length : Int) := by
  obtain ⟨q, h1, h2⟩ := h.right.small hw
  have h3 := h.least q h1
  obtain ⟨r, h4, h5, h6⟩ := h.right.among hw
  have hcan : CanP w (dipsL w) [] 0 p.length := CanP.sub (by rw [List.drop_zero]; exact h4) h5 h6
  rcases hb with ⟨_, hb⟩ | ⟨m, e, _, hc, hb⟩
  · exact absurd hcan (hb p.length (by omega))
  · obtain ⟨l, g1, g2⟩ := hc.ex
    have g3 := h.least _ g2
    rw [List.nil_append] at g3
    rcases Nat.lt_or_ge p.length m with g4 | g4
    · exact absurd hcan (hb _ g4)
    · omega
theorem BestIs.none {w : Wo} {v : Int} (hb : BestIs w v) (h : ∀ p, ¬ RightP w p) : v = -1 := by
  rcases hb with ⟨e, _⟩ | ⟨m, _, _, hc, _⟩
  · exact e
  · obtain ⟨l, _, g⟩ := hc.ex
    exact absurd g (h _)
end Go.Proofs.Ytnplefhigbkbbaa
end

section
namespace Go.Proofs.Ytnplefhigbkbbaa
open Go.RowKit
attribute [local go_sem] Ex.cell? Ex.frozen?

theorem and_one_i64 (i : Nat) (hi : i < 9223372036854775808) : bits BinOp.and IntKind.i64 (i : Int) 1 = ((i % 2 : Nat) : Int) := by
  have two63 : (2 : Int) ^ 63 = 9223372036854775808 := by decide
  have h := bits_mask .i64 63 (by decide) (fun n h0 h1 => by rw [two63] at h1; rw [IntKind.wrap_i64]; omega) 1 (by decide) (i : Int) (by omega) (by rw [two63]; omega)
  have e : ((2 : Int) ^ 1 - 1) = 1 := by decide
  rw [e] at h
  rw [h]
  omega
theorem bit_i1 {n k : Nat} (x : Bool) (h : n < 68719476736) (ht : n.testBit k = x) : (bits .and .i64 ((n : Int) / 2 ^ k) 1 == 1) = x := by
  have h1 : n / 2 ^ k ≤ n := Nat.div_le_self _ _
  have e : (n : Int) / 2 ^ k = ((n / 2 ^ k : Nat) : Int) := by simp
  rw [e, and_one_i64 (n / 2 ^ k) (by generalize n / 2 ^ k = m at *; omega)]
  rw [Nat.testBit_eq_decide_div_mod_eq] at ht
  generalize n / 2 ^ k = m at *
  subst ht
  rcases Nat.mod_two_eq_zero_or_one m with h2 | h2 <;> rw [h2] <;> rfl

theorem idxB_le {b : Nat} : ∀ {k : Nat}, (natI (idxB b k)).length ≤ k
  | 0 => Nat.le_refl _
  | k + 1 => by
    have ih := idxB_le (b := b) (k := k)
    unfold natI at ih ⊢
    rw [List.length_map] at ih ⊢
    rw [idxB, List.length_append]
    split <;> simp <;> omega
/-- a dip as the call makes it: where its instruments lie. -/
abbrev Xd := Dp × Option Addr × Nat
def xR (x : Xd) : List Value := [.int .i64 x.1.heat, .slice x.2.1 x.1.ins.length x.2.2]
/-- numbers in a row of the call's own. -/
def InsAt (W : World) (B : Nat) (A : Option Addr) (l : List Int) : Prop := ∃ g cur, A = some ⟨g, 0, none⟩ ∧ B ≤ g ∧ Blk W g 3 cur ∧ ∀ i, i < l.length → cur[i]? = some (.int .i64 (gI l i))
section
variable {W W' : World} {B : Nat} {A : Option Addr} {l : List Int}
theorem InsAt.sl (h : InsAt W B A l) : SlAt W W.heap.size 1 A l.length (fI l) := fun _ => by
  obtain ⟨g, cur, e, _, hb, hc⟩ := h
  refine ⟨g, 0, e, hb.lt, fun k j hk hj => ?_⟩
  obtain rfl : j = 0 := by omega
  rw [show 0 + (k * 1 + 0) = k by omega, hb.cell]
  exact hc k hk
theorem InsAt.below (h : InsAt W B A l) (hb : Below W.heap.size W W') : InsAt W' B A l := by
  obtain ⟨g, cur, e, h1, h2, h3⟩ := h
  exact ⟨g, cur, e, h1, h2.below hb h2.lt, h3⟩
theorem InsAt.fr {R : Nat → Prop} (h : InsAt W B A l) (hf : Fr R W W') (hn : ∀ g, A = some ⟨g, 0, none⟩ → ¬ R g) : InsAt W' B A l := by
  obtain ⟨g, cur, e, h1, h2, h3⟩ := h
  exact ⟨g, cur, e, h1, h2.fr hf (hn g e), h3⟩
theorem InsAt.grown {base n sz : Nat} {t : TypeId} {v : Value} {xs : List Value} (h : InsAt W B A l) (hg : W.grownBy W' v.ownBlock) (ho : W.ownsRow base t sz v n xs) (ht : t ≠ 3) : InsAt W' B A l := by
  obtain ⟨g, cur, e, h1, h2, h3⟩ := h
  exact ⟨g, cur, e, h1, h2.grown hg (fun e2 => own_blkne ho h2 ht e2.symm), h3⟩
theorem own_ins {v : Value} (h : W.ownsRow B 3 1 v l.length (l.map (Value.int .i64))) (h0 : 0 < l.length) : ∃ A c, v = .slice A l.length c ∧ InsAt W B A l := by
  rcases h.2 with ⟨_, h1⟩ | ⟨g, cap, cur, rfl, hb, hh, hn, hm, hs, hc⟩
  · omega
  · refine ⟨_, cap, rfl, g, cur, rfl, hb, hh, fun i hi => ?_⟩
    have := congrArg (fun x : List Value => x[i]?) hc
    simp only [List.getElem?_take, Nat.mul_one, hi, if_true, List.getElem?_map] at this
    rw [← Array.getElem?_toList, this, List.getElem?_eq_getElem hi]
    simp [gI, List.getElem?_eq_getElem hi]
end
/-- dips in a row of the call's own. -/
structure XOwn (W : World) (B : Nat) (v : Value) (X : List Xd) : Prop where
  own : W.ownsRow B 112 2 v X.length (X.flatMap xR)
  ins : ∀ x ∈ X, InsAt W B x.2.1 x.1.ins
section
variable {W W' : World} {B : Nat} {v : Value} {X : List Xd}
theorem XOwn.nil : XOwn W B (.slice none 0 0) [] := ⟨⟨by simp, .inl ⟨rfl, rfl⟩⟩, fun x hx => by cases hx⟩
theorem XOwn.below (h : XOwn W B v X) (hb : Below W.heap.size W W') : XOwn W' B v X := ⟨own_below h.own hb, fun x hx => (h.ins x hx).below hb⟩
theorem XOwn.fr {R : Nat → Prop} (h : XOwn W B v X) (hf : Fr R W W') (hn : ∀ g, B ≤ g → g < W.heap.size → ¬ R g) : XOwn W' B v X := by
  refine ⟨own_fr h.own hf (fun b hb => ?_), fun x hx => ?_⟩
  · have h1 := own_ge h.own hb
    rcases h.own.2 with ⟨rfl, _⟩ | ⟨g, cap, cur, rfl, _, hh, _⟩
    · simp [Value.ownBlock] at hb
    · simp only [Value.ownBlock] at hb
      injection hb with hb
      subst hb
      exact hn _ h1 (Array.getElem?_eq_some_iff.1 hh).1
  · obtain ⟨g, cur, e, h1, h2, h3⟩ := h.ins x hx
    exact ⟨g, cur, e, h1, h2.fr hf (hn g h1 h2.lt), h3⟩
/-- as a plan in memory. -/
theorem XOwn.pl (h : XOwn W B v X) : ∃ A c rA rc, v = .slice A (X.map (·.1)).length c ∧ PlIn W W.heap.size (X.map (·.1)) A rA rc := by
  have hg : ∀ k (hk : k < X.length), gDp (X.map (·.1)) k = (X[k]).1 := fun k hk => by unfold gDp; simp [hk]
  obtain ⟨A, c, e, _, _, hs⟩ := own_flat (sz := 2) (l := X) (f := xR) (F := fDp (X.map (·.1)) (fun k => (X.getD k (default, none, 0)).2.1) (fun k => (X.getD k (default, none, 0)).2.2)) (fun _ => rfl) (fun k hk j hj => by
    match j, hj with
    | 0, _ => show some (Value.int .i64 (X[k]).1.heat) = some (Value.int .i64 (gDp (X.map (·.1)) k).heat); rw [hg k hk]
    | 1, _ =>
      show some (Value.slice (X[k]).2.1 (X[k]).1.ins.length (X[k]).2.2) = some (Value.slice (X.getD k (default, none, 0)).2.1 (gDp (X.map (·.1)) k).ins.length (X.getD k (default, none, 0)).2.2)
      rw [hg k hk]; simp [hk]) rfl h.own
  have hl : (X.map (·.1)).length = X.length := List.length_map _
  refine ⟨A, c, fun k => (X.getD k (default, none, 0)).2.1, fun k => (X.getD k (default, none, 0)).2.2, by rw [hl]; exact e, ⟨by rw [hl]; exact hs, fun k hk => ?_⟩⟩
  rw [hl] at hk
  rw [hg k hk]
  have e2 : X.getD k (default, none, 0) = X[k] := by simp [hk]
  show SlAt W W.heap.size 1 (X.getD k (default, none, 0)).2.1 _ _
  rw [e2]
  exact (h.ins _ (List.getElem_mem hk)).sl
end

/-- what the region leaves that narrows a dip's heat. -/
def MidQ (U : World) (qd : Nat) (hot : Int) (F : (Nat → Value) → Array Value) (e : Exit) (a' : Act) (W' : World) : Prop :=
  e = .normal ∧ ∃ Z, Below U.heap.size U Z ∧ W' = Z.setCell ⟨qd, 0, none⟩ (.int .i64 hot) ∧ ∃ u : Nat → Value, a' = ⟨F u, []⟩
theorem dip_info : (Try.prog.info? 112).map (fun i => (i.zero, i.size, i.bytes)) = some (some (.agg #[.int .i64 0, .slice none 0 0]), 2, 32) := by kernel_rfl

set_option maxRecDepth 100000 in
set_option maxHeartbeats 6400000 in
theorem dips_any (w0 : Wo) (Ar : Option Addr) (cr : Nat) (w : World) (hr : SlAt w w.heap.size 2 Ar w0.rng.length (fR w0.rng)) (hw : WoOk w0) :
    Calls Try.prog 85 #[.agg #[.slice Ar w0.rng.length cr, .int .i64 w0.room, .int .i64 w0.steps]] w fun e w' => (∃ A c rA rc, e = .returned (.slice A (dipsL w0).length c) ∧ PlIn w' w'.heap.size (dipsL w0) A rA rc) ∧ Below w.heap.size w w' := by
  obtain ⟨i0, hi0, hz0, hz1, hz2⟩ := info_parts int_info
  obtain ⟨i1, hi1, hy0, hy1, hy2⟩ := info_parts dip_info
  have HI := Lib.hid hi0
  have HJ := Lib.hid hi1
  clear hi0 hi1
  have hn := hw.n
  have hb1 := ex_alloc (Below.refl w.heap.size w) (.cells #[.slice Ar w0.rng.length cr, .int .i64 w0.room, .int .i64 w0.steps] 65)
  have q1 : Blk (w.alloc (.cells #[.slice Ar w0.rng.length cr, .int .i64 w0.room, .int .i64 w0.steps] 65)) w.heap.size 65 #[.slice Ar w0.rng.length cr, .int .i64 w0.room, .int .i64 w0.steps] := Blk.new _ _ _
  obtain ⟨M, hM⟩ : ∃ M, 2 ^ w0.rng.length = M := ⟨_, rfl⟩
  have hM64 : M ≤ 64 := by
    have : 2 ^ w0.rng.length ≤ 2 ^ 6 := Nat.pow_le_pow_right (by omega) hn.2
    omega
  have wM : IntKind.i64.wrap ((2 : Int) ^ w0.rng.length) = (M : Int) := by
    have e : ((2 : Int) ^ w0.rng.length) = ((2 ^ w0.rng.length : Nat) : Int) := by simp
    rw [e, hM]
    exact IntWalk.i64_in _ (by omega)
  have HM : Hid (dipsL w0 = dipsTo w0 M) := Lib.hid (by unfold dipsL; rw [hM])
  clear hM
  have d64 : decide ((w0.rng.length : Int) ≤ 64) = true := decide_eq_true (by omega)
  have n64 : ((w0.rng.length : Int) ≤ 64) := by omega
  go_enter Try.func85, Try.ntmps85
  go_wp2_with fail
  generalize w.alloc (.cells #[.slice Ar w0.rng.length cr, .int .i64 w0.room, .int .i64 w0.steps] 65) = V at *
  refine wp_loop (fun a W => Rel (fun a W => ∃ b : Nat, b ≤ M ∧ ∃ v X, Below w.heap.size w W ∧ Blk W w.heap.size 65 #[.slice Ar w0.rng.length cr, .int .i64 w0.room, .int .i64 w0.steps] ∧ XOwn W V.heap.size v X ∧ Hid (X.map (·.1) = dipsTo w0 b) ∧ V.heap.size ≤ W.heap.size ∧ ∃ u : Nat → Value, a = ⟨List.toArray (u 0 :: .pointer (some ⟨w.heap.size, 0, none⟩) :: v :: u 3 :: u 4 :: u 5 :: u 6 :: u 7 :: u 8 :: u 9 :: u 10 :: .int .i64 (M : Int) :: .int .i64 (b : Int) :: u 13 :: u 14 :: u 15 :: u 16 :: u 17 :: u 18 :: u 19 :: u 20 :: u 21 :: u 22 :: u 23 :: u 24 :: u 25 :: u 26 :: u 27 :: u 28 :: u 29 :: u 30 :: u 31 :: u 32 :: u 33 :: u 34 :: u 35 :: u 36 :: u 37 :: u 38 :: u 39 :: u 40 :: u 41 :: u 42 :: u 43 :: u 44 :: u 45 :: u 46 :: u 47 :: u 48 :: u 49 :: u 50 :: u 51 :: u 52 :: u 53 :: u 54 :: u 55 :: u 56 :: u 57 :: u 58 :: u 59 :: u 60 :: u 61 :: u 62 :: []), []⟩) a W)
    (fun a _ => M - (intOf (a.tmps.getD 12 undef)).toNat) ⟨⟨0, by omega, .slice none 0 0, [], hb1, q1, XOwn.nil, Lib.hid rfl, Nat.le_refl _, exFrame (by kernel_rfl)⟩⟩ ?_
  have hB0 : w.heap.size < V.heap.size := q1.lt
  clear hb1 q1
  generalize V.heap.size = B0 at *
  clear V
  rintro a W ⟨⟨b, hb, v, X, hbl, q0, hx, HX, hBW, u, rfl⟩⟩
  have hws := hbl.size
  have lq := q0.lt
  have a0 : W.cell? ⟨w.heap.size, 0, none⟩ = some (.slice Ar w0.rng.length cr) := q0.cell 0
  by_cases hlt : b < M
  rotate_left
  · obtain rfl : b = M := by omega
    obtain ⟨A, c, rA, rc, rfl, hpl⟩ := hx.pl
    rw [HX.out, ← HM.out] at hpl ⊢
    clear a0 lq
    go_wp2
    go_ret
    exact ⟨⟨A, c, rA, rc, rfl, hpl⟩, hbl⟩
  have hb2 := ex_alloc (Below.refl W.heap.size W) (.cells #[.int .i64 0, .slice none 0 0] 112)
  have p2 : Blk (W.alloc (.cells #[.int .i64 0, .slice none 0 0] 112)) W.heap.size 112 #[.int .i64 (hotTo w0 b 0), .slice none 0 0] := Blk.new _ _ _
  have o2 : (W.alloc (.cells #[.int .i64 0, .slice none 0 0] 112)).ownsRow (W.alloc (.cells #[.int .i64 0, .slice none 0 0] 112)).heap.size 3 1 (.slice none 0 0) (natI (idxB b 0)).length ((natI (idxB b 0)).map (Value.int .i64)) := ⟨by simp [natI, idxB], .inl ⟨rfl, rfl⟩⟩
  have hqd : W.heap.size < (W.alloc (.cells #[.int .i64 0, .slice none 0 0] 112)).heap.size := p2.lt
  go_wp2_with fail
  have F2 : Fr (fun x => x = W.heap.size) W (W.alloc (.cells #[.int .i64 0, .slice none 0 0] 112)) := Fr.below hb2
  have HI0 : Hid ((natI (idxB b 0)).length = 0) := Lib.hid rfl
  rw [HI0.out] at o2
  generalize W.alloc (.cells #[.int .i64 0, .slice none 0 0] 112) = W2 at *
  obtain ⟨qd, hqdE⟩ : ∃ qd, W.heap.size = qd := ⟨_, rfl⟩
  have HQ := Lib.hid hqdE
  rw [hqdE] at p2 F2 hqd ⊢
  clear hqdE HI0 lq a0 hb2
  refine wp_loop (fun a Y => Rel (fun a Y => ∃ k : Nat, k ≤ w0.rng.length ∧ Fr (fun x => x = qd) W Y ∧ W2.heap.size ≤ Y.heap.size ∧ ∃ A2 c2, Blk Y qd 112 #[.int .i64 (hotTo w0 b k), .slice A2 (natI (idxB b k)).length c2] ∧ Y.ownsRow W2.heap.size 3 1 (.slice A2 (natI (idxB b k)).length c2) (natI (idxB b k)).length ((natI (idxB b k)).map (Value.int .i64)) ∧ ∃ u : Nat → Value, a = ⟨List.toArray (u 0 :: .pointer (some ⟨w.heap.size, 0, none⟩) :: v :: .int .i64 (b : Int) :: .pointer (some ⟨qd, 0, none⟩) :: .int .i64 (colTo w0 b k) :: u 6 :: u 7 :: u 8 :: u 9 :: u 10 :: .int .i64 (M : Int) :: .int .i64 (b : Int) :: u 13 :: u 14 :: u 15 :: u 16 :: .slice Ar w0.rng.length cr :: .int .i64 (w0.rng.length : Int) :: .int .i64 (k : Int) :: u 20 :: u 21 :: u 22 :: u 23 :: u 24 :: u 25 :: u 26 :: u 27 :: u 28 :: u 29 :: u 30 :: u 31 :: u 32 :: u 33 :: u 34 :: u 35 :: u 36 :: u 37 :: u 38 :: u 39 :: u 40 :: u 41 :: u 42 :: u 43 :: u 44 :: u 45 :: u 46 :: u 47 :: u 48 :: u 49 :: u 50 :: u 51 :: u 52 :: u 53 :: u 54 :: u 55 :: u 56 :: u 57 :: u 58 :: u 59 :: u 60 :: u 61 :: u 62 :: []), []⟩) a Y)
    (fun a _ => w0.rng.length - (intOf (a.tmps.getD 19 undef)).toNat) ⟨⟨0, by omega, F2, Nat.le_refl _, none, 0, p2, o2, exFrame (by kernel_rfl)⟩⟩ ?_
  clear F2 p2 o2
  rintro a Y ⟨⟨k, hk, F, hYs, A2, c2, p0, own, u, rfl⟩⟩
  have hbY : Below w.heap.size w Y := F.toBelow hbl hws (fun x hx => by rw [show x = qd from hx, ← HQ.out]; exact hws)
  have qY := q0.fr F (show ¬ w.heap.size = qd by rw [← HQ.out]; have := q0.lt; omega)
  have lqY := qY.lt
  have lp := p0.lt
  by_cases hkn : k < w0.rng.length
  · obtain ⟨br, orr, rfl, hbr, r0, r1⟩ := IsRgs.at_ (hr.below hbY) hkn
    have lbr : br < Y.heap.size := by have := hbY.size; omega
    have hrk := hw.rng k hkn
    have HH : Hid (hotTo w0 b (k + 1) = if b.testBit k = true then max (hotTo w0 b k) (gR w0.rng k).lo else hotTo w0 b k) := Lib.hid rfl
    have HC : Hid (colTo w0 b (k + 1) = if b.testBit k = true then min (colTo w0 b k) (gR w0.rng k).hi else colTo w0 b k) := Lib.hid rfl
    have HL : Hid (natI (idxB b (k + 1)) = natI (idxB b k) ++ (if b.testBit k = true then [(k : Int)] else [])) := Lib.hid (by
      rw [idxB]
      split <;> simp [natI])
    have hlen : (natI (idxB b k)).length ≤ 6 := by have := idxB_le (b := b) (k := k); omega
    obtain ⟨lo, hlo⟩ : ∃ lo, (gR w0.rng k).lo = lo := ⟨_, rfl⟩
    obtain ⟨hi, hhi⟩ : ∃ hi, (gR w0.rng k).hi = hi := ⟨_, rfl⟩
    rw [hlo] at r0 HH
    rw [hhi] at r1 HC
    clear hlo hhi hrk
    obtain ⟨ln, hln⟩ : ∃ ln, natI (idxB b k) = ln := ⟨_, rfl⟩
    rw [hln] at HL p0 own hlen
    obtain ⟨hot, hhot⟩ : ∃ x, hotTo w0 b k = x := ⟨_, rfl⟩
    obtain ⟨col, hcol⟩ : ∃ x, colTo w0 b k = x := ⟨_, rfl⟩
    rw [hhot] at HH p0
    rw [hcol] at HC ⊢
    clear hln hhot hcol
    have hbX := ex_alloc (Below.refl Y.heap.size Y) (.cells #[.int .i64 lo, .int .i64 hi] 41)
    have g2 : Blk (Y.alloc (.cells #[.int .i64 lo, .int .i64 hi] 41)) Y.heap.size 41 #[.int .i64 lo, .int .i64 hi] := Blk.new _ _ _
    have p2 := p0.below hbX lp
    have own2 := own_below own hbX
    have F2 := F.trans (Fr.below (R := fun x => x = qd) hbX) (fun _ _ h => h)
    have s64 : ((k : Int) ≤ 64) := by omega
    cases hbit : b.testBit k
    · have e1 := bit_i1 false (show b < 68719476736 by omega) hbit
      rw [hbit] at HH HC HL
      simp only [Bool.false_eq_true, if_false, List.append_nil] at HH HC HL
      clear hbit
      go_wp2_with fail
      generalize Y.alloc (.cells #[.int .i64 lo, .int .i64 hi] 41) = Z at *
      refine ⟨⟨⟨k + 1, by omega, F2, by have := hbX.size; omega, A2, c2, by rw [HH.out, HL.out]; exact p2, by rw [HL.out]; exact own2, by rw [HC.out]; exact exFrame (by kernel_rfl)⟩⟩, ?_⟩
      show w0.rng.length - (intOf (.int .i64 ((k : Int) + 1))).toNat < w0.rng.length - (intOf (.int .i64 (k : Int))).toNat
      simp [intOf]
      omega
    · have e1 := bit_i1 true (show b < 68719476736 by omega) hbit
      rw [hbit] at HH HC HL
      simp only [if_true] at HH HC HL
      clear hbit
      have p21 : (Y.alloc (.cells #[.int .i64 lo, .int .i64 hi] 41)).cell? ⟨qd, 1, none⟩ = some (.slice A2 ln.length c2) := p2.cell 1
      have l63 : ln.length + 1 ≤ maxLen := by unfold maxLen; omega
      have lby : (ln.length + 1) * 8 ≤ 140737488355328 := by omega
      have y4 := own2.alloc (.cells #[.int .i64 (k : Int)] 3)
      have hbX2 := ex_alloc hbX (.cells #[.int .i64 (k : Int)] 3)
      have p3 := p2.alloc (.cells #[.int .i64 (k : Int)] 3)
      have g3 := g2.alloc (.cells #[.int .i64 (k : Int)] 3)
      have F3 := F.trans (Fr.below (R := fun x => x = qd) hbX2) (fun _ _ h => h)
      have hbase : W2.heap.size ≤ ((Y.alloc (.cells #[.int .i64 lo, .int .i64 hi] 41)).alloc (.cells #[.int .i64 (k : Int)] 3)).heap.size := by simp; omega
      have hge := fun (j : Nat) (hj : (Value.slice A2 ln.length c2).ownBlock = some j) => own_ge y4 hj
      have hnq : some qd ≠ (Value.slice A2 ln.length c2).ownBlock := fun e => by have := hge _ e.symm; omega
      have hnr : some Y.heap.size ≠ (Value.slice A2 ln.length c2).ownBlock := fun e => own_blkne y4 g3 (by decide) e.symm
      go_wp2_with (at_builtin; refine wpList_append_lies _ rfl _ _ _ rfl W2.heap.size 3 i0 _ 1 8 Try.underlying52 HI.out hz0 hz1 hz2 rfl (by omega) (.slice A2 ln.length c2) _ _ rfl y4 ⟨Y.heap.size + 1, 0, none⟩ 1 1 [.int .i64 (k : Int)] rfl rfl (World.news_of_block (heap_alloc_at _ _ (by simp))) (by simp [Value.oneCell']) (by omega) l63 lby hbase (Y.heap.size + 1 + 1) (by simp) ?_; intro gg cap w1 hown' hgrow hat hlt'; have p4 := p3.grown hgrow hnq; have g4 := g3.grown hgrow hnr; have p41 : w1.cell? ⟨qd, 1, none⟩ = some (.slice A2 ln.length c2) := p4.cell 1; have lp4 := p4.lt; have fp4 := p4.frozen0)
      have p5 := p4.set_ 1 (.slice (some ⟨gg, 0, none⟩) (ln.length + 1) cap)
      simp only [List.setIfInBounds_toArray, List.set_cons_zero, List.set_cons_succ] at p5
      have g5 := g4.far (p := ⟨qd, 1, none⟩) (by show Y.heap.size ≠ qd; omega) (.slice (some ⟨gg, 0, none⟩) (ln.length + 1) cap)
      have own5 := own_far hown' (p := ⟨qd, 1, none⟩) hqd (.slice (some ⟨gg, 0, none⟩) (ln.length + 1) cap)
      have F5 : Fr (fun x => x = qd) W (w1.setCell ⟨qd, 1, none⟩ (.slice (some ⟨gg, 0, none⟩) (ln.length + 1) cap)) :=
        (F3.trans (Fr.grown (R := fun b => (Value.slice A2 ln.length c2).ownBlock = some b) hgrow (fun b e => .inl e)) (fun x hx h => by have h1 := hge x h; have h2 := HQ.out; omega)).andSet rfl
      have hs5 : W2.heap.size ≤ w1.heap.size := by have := hgrow.size; omega
      have hs6 : W2.heap.size ≤ (w1.setCell ⟨qd, 1, none⟩ (.slice (some ⟨gg, 0, none⟩) (ln.length + 1) cap)).heap.size := by simpa using hs5
      generalize w1.setCell ⟨qd, 1, none⟩ (.slice (some ⟨gg, 0, none⟩) (ln.length + 1) cap) = U at *
      obtain ⟨qr, hqr⟩ : ∃ qr, Y.heap.size = qr := ⟨_, rfl⟩
      rw [hqr] at g5
      clear p41 lp4 fp4 p4 g4 hgrow hat hlt' hown' hs5 p3 g3 F3 hbX2 y4 hbX F2 own2 p2 g2 hnq hnr hge hbase r0 r1 F p0 own lp qY lqY hbY hbr lbr
      have c0 : U.cell? ⟨qd, 0, none⟩ = some (.int .i64 hot) := p5.cell 0
      have d0 : U.cell? ⟨qr, 0, none⟩ = some (.int .i64 lo) := g5.cell 0
      have d1 : U.cell? ⟨qr, 1, none⟩ = some (.int .i64 hi) := g5.cell 1
      have lc := p5.lt
      have ld := g5.lt
      rw [hqr]
      clear hqr
      refine Code.wp_mono (Q := MidQ U qd (max hot lo) (fun u => List.toArray (u 0 :: .pointer (some ⟨w.heap.size, 0, none⟩) :: v :: .int .i64 (b : Int) :: .pointer (some ⟨qd, 0, none⟩) :: .int .i64 ((min col hi)) :: u 6 :: u 7 :: u 8 :: u 9 :: u 10 :: .int .i64 (M : Int) :: .int .i64 (b : Int) :: u 13 :: u 14 :: u 15 :: u 16 :: .slice (some ⟨br, orr, none⟩) w0.rng.length cr :: .int .i64 (w0.rng.length : Int) :: .int .i64 (k : Int) :: u 20 :: u 21 :: u 22 :: u 23 :: u 24 :: u 25 :: u 26 :: u 27 :: u 28 :: u 29 :: u 30 :: u 31 :: u 32 :: u 33 :: u 34 :: u 35 :: u 36 :: u 37 :: u 38 :: u 39 :: u 40 :: u 41 :: u 42 :: u 43 :: u 44 :: u 45 :: u 46 :: u 47 :: u 48 :: u 49 :: u 50 :: u 51 :: u 52 :: u 53 :: u 54 :: u 55 :: u 56 :: u 57 :: u 58 :: u 59 :: u 60 :: u 61 :: u 62 :: []))) ?_ ?_
      · rintro e a' W' ⟨rfl, Z, hZ, rfl, u, rfl⟩
        have p6 := (p5.below hZ lc).set_ 0 (.int .i64 (max hot lo))
        simp only [List.setIfInBounds_toArray, List.set_cons_zero] at p6
        have own6 := own_far (own_below own5 hZ) (p := ⟨qd, 0, none⟩) hqd (.int .i64 (max hot lo))
        have F6 := ((F5.trans (Fr.below (R := fun x => x = qd) hZ) (fun _ _ h => h)).andSet (i := 0) (v := .int .i64 (max hot lo)) rfl)
        have HL2 : Hid ((natI (idxB b (k + 1))).length = ln.length + 1) := Lib.hid (by rw [HL.out]; simp)
        have HL3 : Hid ((natI (idxB b (k + 1))).map (Value.int .i64) = ln.map (Value.int .i64) ++ [.int .i64 (k : Int)]) := Lib.hid (by rw [HL.out]; simp)
        have hsz := hZ.size
        go_wp2_with fail
        refine ⟨⟨⟨k + 1, by omega, F6, by simp; omega, some ⟨gg, 0, none⟩, cap, by rw [HH.out, HL2.out]; exact p6, by rw [HL2.out, HL3.out]; exact own6, by rw [HC.out]; exact exFrame (by kernel_rfl)⟩⟩, ?_⟩
        show w0.rng.length - (intOf (.int .i64 ((k : Int) + 1))).toNat < w0.rng.length - (intOf (.int .i64 (k : Int))).toNat
        simp [intOf]
        omega
      · refine wp_region_ext_tree 12 (.quiet 0 (.quiet 1 (.quiet 2 (.quiet 3 (.quiet 6 (.quiet 7 (.quiet 8 (.fork 4 (.fork 5 (.quiet 11 (.loud 9 (.loud 10 .done))) 9 (.loud 5 (.quiet 11 (.loud 10 .done)))) 9 (.loud 4 (.loud 5 (.quiet 11 (.loud 10 .done))))))))))) ) (by kernel_rfl) (by kernel_rfl) (by rintro d v c a w ⟨h, _⟩; cases h) ?_
        have hX0 := (Below.refl U.heap.size U).drew
        repeat (refine tree_quiet rfl ?_; go_big_quiet_step (fail); refine wpQuiet_nil ?_)
        have hA := ex_alloc hX0 (.cells #[.int .i64 hot, .int .i64 lo] 3)
        have hB := ex_alloc hX0 (.cells #[.int .i64 col, .int .i64 hi] 3)
        have hAB := ex_alloc hA (.cells #[.int .i64 col, .int .i64 hi] 3)
        have hBA := ex_alloc hB (.cells #[.int .i64 hot, .int .i64 lo] 3)
        have fz := p5.frozen0
        refine tree_fork rfl rfl ?_ ?_
        · go_wp2_with fail
          refine ⟨inEx hA, ?_⟩
          refine tree_fork rfl rfl ?_ ?_
          · go_wp2_with fail
            refine (greatest2 U.heap.size 2 hot lo _ (by simp [go_sem]) (by simp [go_sem])).mono ?_
            rintro e w' ⟨rfl, rfl⟩
            go_wp2_with fail
            refine ⟨inEx hA, ?_⟩
            repeat (refine tree_quiet rfl ?_; go_big_quiet_step (fail); refine wpQuiet_nil ?_)
            refine tree_loud rfl ?_
            go_wp2_with fail
            refine ⟨inEx hAB, ?_⟩
            refine tree_loud rfl ?_
            go_wp2_with fail
            refine (least2 (U.heap.size + 1) 2 col hi _ (by simp [go_sem]) (by simp [go_sem])).mono ?_
            rintro e w' ⟨rfl, rfl⟩
            go_wp2_with fail
            refine ⟨inEx hAB, ?_⟩
            refine tree_done (r := [_, _]) rfl ?_
            go_wp2_with fail
            exact ⟨rfl, _, hAB, by simp [go_sem, lc], exFrame' (by kernel_rfl)⟩
          · go_wp2_with fail
            refine ⟨inEx hAB, ?_⟩
            refine tree_loud rfl ?_
            go_wp2_with fail
            refine (greatest2 U.heap.size 2 hot lo _ (by simp [go_sem]) (by simp [go_sem])).mono ?_
            rintro e w' ⟨rfl, rfl⟩
            go_wp2_with fail
            refine ⟨inEx hAB, ?_⟩
            repeat (refine tree_quiet rfl ?_; go_big_quiet_step (fail); refine wpQuiet_nil ?_)
            refine tree_loud rfl ?_
            go_wp2_with fail
            refine (least2 (U.heap.size + 1) 2 col hi _ (by simp [go_sem]) (by simp [go_sem])).mono ?_
            rintro e w' ⟨rfl, rfl⟩
            go_wp2_with fail
            refine ⟨inEx hAB, ?_⟩
            refine tree_done (r := [_, _]) rfl ?_
            go_wp2_with fail
            exact ⟨rfl, _, hAB, by simp [go_sem, lc], exFrame' (by kernel_rfl)⟩
        · go_wp2_with fail
          refine ⟨inEx hB, ?_⟩
          refine tree_loud rfl ?_
          go_wp2_with fail
          refine ⟨inEx hBA, ?_⟩
          refine tree_loud rfl ?_
          go_wp2_with fail
          refine (greatest2 (U.heap.size + 1) 2 hot lo _ (by simp [go_sem]) (by simp [go_sem])).mono ?_
          rintro e w' ⟨rfl, rfl⟩
          go_wp2_with fail
          refine ⟨inEx hBA, ?_⟩
          repeat (refine tree_quiet rfl ?_; go_big_quiet_step (fail); refine wpQuiet_nil ?_)
          refine tree_loud rfl ?_
          go_wp2_with fail
          refine (least2 U.heap.size 2 col hi _ (by simp [go_sem]) (by simp [go_sem])).mono ?_
          rintro e w' ⟨rfl, rfl⟩
          go_wp2_with fail
          refine ⟨inEx hBA, ?_⟩
          refine tree_done (r := [_, _]) rfl ?_
          go_wp2_with fail
          exact ⟨rfl, _, hBA, by simp [go_sem, lc], exFrame' (by kernel_rfl)⟩
  obtain rfl : k = w0.rng.length := by omega
  have HD : Hid (dipsTo w0 (b + 1) = dipsTo w0 b ++ (if dipB w0 (dpB w0 b) = true then [dpB w0 b] else [])) := Lib.hid rfl
  have HT : Hid (dipB w0 (dpB w0 b) = true → hotTo w0 b w0.rng.length ≤ colTo w0 b w0.rng.length) := Lib.hid (dpB_hot hw)
  have hXl : X.length ≤ 64 := by
    have h1 := congrArg List.length HX.out
    have h2 := dipsTo_len (w := w0) (k := b)
    rw [List.length_map] at h1
    omega
  have hFs := F.size
  have hBY : B0 ≤ Y.heap.size := by omega
  have hxY := hx.fr F (fun g h1 h2 => by have := HQ.out; show ¬ g = qd; omega)
  have e1 : hotTo w0 b w0.rng.length = (dpB w0 b).heat := rfl
  have e2 : natI (idxB b w0.rng.length) = (dpB w0 b).ins := rfl
  rw [e1, e2] at p0
  rw [e2] at own
  rw [e1] at HT
  have hlen : (dpB w0 b).ins.length ≤ 6 := by have := idxB_le (b := b) (k := w0.rng.length); rw [e2] at this; omega
  clear e1 e2
  obtain ⟨d, hd⟩ : ∃ d, dpB w0 b = d := ⟨_, rfl⟩
  obtain ⟨col, hcol⟩ : ∃ x, colTo w0 b w0.rng.length = x := ⟨_, rfl⟩
  rw [hd] at p0 own HT HD hlen
  rw [hcol] at HT ⊢
  clear hd hcol
  have b0 : Y.cell? ⟨qd, 0, none⟩ = some (.int .i64 d.heat) := p0.cell 0
  have b1 : Y.cell? ⟨qd, 1, none⟩ = some (.slice A2 d.ins.length c2) := p0.cell 1
  have a0 : Y.cell? ⟨w.heap.size, 0, none⟩ = some (.slice Ar w0.rng.length cr) := qY.cell 0
  have a1 : Y.cell? ⟨w.heap.size, 1, none⟩ = some (.int .i64 w0.room) := qY.cell 1
  have a2 : Y.cell? ⟨w.heap.size, 2, none⟩ = some (.int .i64 w0.steps) := qY.cell 2
  by_cases hle : d.heat ≤ col
  rotate_left
  ·
    have HN : Hid (X.map (·.1) = dipsTo w0 (b + 1)) := Lib.hid (by
      rw [HD.out, if_neg (fun h => hle (HT.out h)), List.append_nil]; exact HX.out)
    have c1 : decide (d.heat ≤ col) = false := decide_eq_false hle
    clear hle
    go_wp2_with fail
    refine ⟨⟨⟨b + 1, by omega, v, X, hbY, qY, hxY, HN, by omega, exFrame (by kernel_rfl)⟩⟩, ?_⟩
    show M - (intOf (.int .i64 ((b : Int) + 1))).toNat < M - (intOf (.int .i64 (b : Int))).toNat
    simp [intOf]
    omega
  have c1 : decide (d.heat ≤ col) = true := decide_eq_true hle
  have hsl : SlAt Y Y.heap.size 1 A2 d.ins.length (fI d.ins) := by
    obtain ⟨A', c', e, _, h⟩ := own_sl own
    injection e with e
    rw [e]; exact h
  clear hle
  cases hdb : dipB w0 d
  ·
    have HN : Hid (X.map (·.1) = dipsTo w0 (b + 1)) := Lib.hid (by
      rw [HD.out, if_neg (by rw [hdb]; decide), List.append_nil]; exact HX.out)
    have HB := Lib.hid hdb
    clear hdb
    go_wp2_with fail
    refine (dip_any w0 d Ar A2 cr c2 Y ((hr.below hbY).up hbY.size) hsl (by omega) (by omega)).mono ?_
    rintro e Z ⟨rfl, hZ⟩
    rw [HB.out]
    have hbZ := ex_trans hbY hZ
    have qZ := qY.below hZ lqY
    have hxZ := hxY.below hZ
    have hsz := hZ.size
    clear b0 b1 a0 a1 a2
    go_wp2_with fail
    refine ⟨⟨⟨b + 1, by omega, v, X, hbZ, qZ, hxZ, HN, by omega, exFrame (by kernel_rfl)⟩⟩, ?_⟩
    show M - (intOf (.int .i64 ((b : Int) + 1))).toNat < M - (intOf (.int .i64 (b : Int))).toNat
    simp [intOf]
    omega
  ·
    have HN : Hid ((X ++ [(d, A2, c2)]).map (·.1) = dipsTo w0 (b + 1)) := Lib.hid (by
      rw [HD.out, if_pos hdb, List.map_append, HX.out]; rfl)
    have hd2 := (dipOk_iff.1 hdb).len
    have HB := Lib.hid hdb
    clear hdb
    obtain ⟨A3, c3, e3, hins⟩ := own_ins own (by omega)
    have e4 : A3 = A2 := by injection e3 with e; exact e.symm
    rw [e4] at hins
    clear own e3 e4 c3
    go_wp2_with fail
    refine (dip_any w0 d Ar A2 cr c2 Y ((hr.below hbY).up hbY.size) hsl (by omega) (by omega)).mono ?_
    rintro e Z ⟨rfl, hZ⟩
    rw [HB.out]
    have hbZ := ex_trans hbY hZ
    have qZ := qY.below hZ lqY
    have pZ := p0.below hZ lp
    have hxZ := hxY.below hZ
    have hiZ := hins.below hZ
    have hsz := hZ.size
    clear b0 b1 a0 a1 a2 hsl hins
    have b0 : Z.cell? ⟨qd, 0, none⟩ = some (.int .i64 d.heat) := pZ.cell 0
    have b1 : Z.cell? ⟨qd, 1, none⟩ = some (.slice A2 d.ins.length c2) := pZ.cell 1
    have lz := pZ.lt
    have hbX := ex_alloc (Below.refl Z.heap.size Z) (.cells #[.int .i64 d.heat, .slice A2 d.ins.length c2] 112)
    have hx4 := hxZ.below hbX
    have hi4 := hiZ.below hbX
    have q4 := qZ.below hbX qZ.lt
    have hb4 := ex_trans hbZ hbX
    have y4 := hx4.own
    have l63 : X.length + 1 ≤ maxLen := by unfold maxLen; omega
    have lby : (X.length + 1) * 32 ≤ 140737488355328 := by omega
    have hbase : B0 ≤ (Z.alloc (.cells #[.int .i64 d.heat, .slice A2 d.ins.length c2] 112)).heap.size := by simp; omega
    have hge := fun (j : Nat) (hj : v.ownBlock = some j) => own_ge y4 hj
    go_wp2_with (at_builtin; refine wpList_append_lies _ rfl _ _ _ rfl B0 112 i1 _ 2 32 Try.underlying67 HJ.out hy0 hy1 hy2 rfl (by omega) v _ _ rfl y4 ⟨Z.heap.size, 0, none⟩ 1 1 [.int .i64 d.heat, .slice A2 d.ins.length c2] rfl rfl (World.news_of_block (heap_alloc_new Z _)) (by simp [Value.oneCell']) (by omega) l63 lby hbase (Z.heap.size + 1) (by simp) ?_; intro gg cap w1 hown' hgrow hat hlt')
    have hb5 := hb4.grown hgrow hb4.size (fun j hj => by have := hge j hj; omega)
    have q5 := q4.grown hgrow (fun e => by have := hge _ e.symm; omega)
    have hx5 : XOwn w1 B0 (.slice (some ⟨gg, 0, none⟩) (X.length + 1) cap) (X ++ [(d, A2, c2)]) := by
      refine ⟨?_, fun x hx => ?_⟩
      · rw [List.length_append, List.flatMap_append]
        exact hown'
      · rcases List.mem_append.1 hx with h | h
        · exact (hx4.ins x h).grown hgrow y4 (by decide)
        · rw [List.mem_singleton.1 h]
          obtain ⟨g, cur, f1, f2, f3, f4⟩ := hi4.grown hgrow y4 (by decide)
          exact ⟨g, cur, f1, by have := HQ.out; omega, f3, f4⟩
    have hs1 := hgrow.size
    have hs2 := hbX.size
    refine ⟨⟨b + 1, by omega, _, _, hb5, q5, hx5, HN, by omega, exFrame (by kernel_rfl)⟩, ?_⟩
    show M - (intOf (.int .i64 ((b : Int) + 1))).toNat < M - (intOf (.int .i64 (b : Int))).toNat
    simp [intOf]
    omega
end Go.Proofs.Ytnplefhigbkbbaa
end

section
namespace Go.Proofs.Ytnplefhigbkbbaa
open Go.Shelf
def rev_ren : Go.Shelf.Ren := ⟨fun | 35 => 89 | n => n, fun | 22 => 67 | 23 => 112 | 3 => 3 | 4 => 4 | 0 => 0 | n => n, fun | n => n⟩
theorem rev_lays : SlLaysE0.n35 Try.prog rev_ren := {
  mixed := by kernel_rfl
  f35 := ⟨"slices.Reverse[[]meniscus/bath.Dip,meniscus/bath.Dip]", by decide, Try.func89.trans (congrArg some (by kernel_rfl))⟩
  t0 := Try.underlying0
  a0 := Try.isAgg0
  z0 := Try.sizeOf0
  v0 := Try.zeroValue0
  t3 := Try.underlying3
  a3 := Try.isAgg3
  z3 := Try.sizeOf3
  v3 := Try.zeroValue3
  t4 := Try.underlying4
  a4 := Try.isAgg4
  z4 := Try.sizeOf4
  v4 := Try.zeroValue4
  t22 := Try.underlying67
  a22 := Try.isAgg67
  z22 := Try.sizeOf67
  v22 := Try.zeroValue67 }
theorem xR_one : ∀ x : Xd, ∀ v ∈ xR x, v.oneCell' = true := fun x v hv => by
  simp [xR] at hv
  rcases hv with rfl | rfl <;> rfl
open Go.RowKit Go.Lib Go.Sort in
theorem rev_any (blk off cap : Nat) (d : Array Xd) (w : World) (hH : HoldsK xR 2 w blk off d) (hsz : d.size ≤ 9223372036854775807) :
    Calls Try.prog 89 #[.slice (some ⟨blk, off, none⟩) d.size cap] w fun e w' => e = .returned (.tuple #[]) ∧ ∃ n, w' = putRowK xR 2 (Sort.ahead w n) blk off d.reverse :=
  AnyQ.slices_Reverse rev_lays 2 Try.isAgg112 Try.sizeOf112 xR (fun _ => rfl) xR_one blk off cap d w hH hsz
open Go.RowKit Go.Lib Go.Sort in
theorem rev_own {W : World} {B : Nat} {v : Value} {X : List Xd} (h : XOwn W B v X) (hl : X.length ≤ 1000000) :
    Calls Try.prog 89 #[v] W fun e W' => e = .returned (.tuple #[]) ∧ Fr (fun b => v.ownBlock = some b) W W' ∧ ∃ A c rA rc, v = .slice A (X.reverse.map (·.1)).length c ∧ PlIn W' W'.heap.size (X.reverse.map (·.1)) A rA rc := by
  have hlr : (X.reverse.map (·.1)).length = X.length := by simp
  rcases h.own.2 with ⟨rfl, h0⟩ | ⟨g, cap, cur, rfl, hb, hh, hn, hm, hs, hc⟩
  · refine (AnyQ.slices_Reverse_empty rev_lays none 0 W).mono ?_
    rintro e W' ⟨rfl, rfl⟩
    refine ⟨rfl, Fr.refl _ _, none, 0, fun _ => none, fun _ => 0, by rw [hlr, h0], ⟨fun h1 => by omega, fun k hk => by omega⟩⟩
  · have hG : ∀ t, t < X.length * 2 → W.cell? ⟨g, 0 + t, none⟩ = some ((flatK xR 2 X.toArray)[t]!) ∧ W.frozen? ⟨g, 0 + t, none⟩ = false := fun t ht => by
      refine ⟨?_, ?_⟩
      · rw [get_flatK xR 2 X.toArray t (by simpa using ht), cell_of_row W g _ cur _ (0, 0) hh, ← Array.getElem?_toList, Nat.zero_add]
        have h1 := congrArg (fun l : List Value => l[t]?) hc
        simp only [List.getElem?_take] at h1
        rw [if_pos (by omega)] at h1
        rw [h1]
        have h2 := flat_get (f := xR) (sz := 2) (l := X) (k := t / 2) (j := t % 2) (fun _ => rfl) (by omega) (by omega)
        rw [show t / 2 * 2 + t % 2 = t by omega] at h2
        rw [h2]
        have h3 : t / 2 < X.length := by omega
        have h4 : t % 2 < (xR X[t / 2]).length := by show t % 2 < 2; omega
        rw [List.getElem?_eq_getElem h4, getElem!_pos (xR _) (t % 2) (by show t % 2 < 2; omega)]
        simp [getElem!_pos, h3]
      · have hB : Blk W g 112 cur := hh
        exact hB.frozen _
    have hH : HoldsK xR 2 W g 0 X.toArray := fun t ht => hG t (by simpa using ht)
    have hcall := rev_any g 0 cap X.toArray W hH (by simp; omega)
    rw [show X.toArray.size = X.length by simp] at hcall
    refine hcall.mono ?_
    rintro e W' ⟨rfl, n, rfl⟩
    have hH2 := holdsK_putRowK xR 2 (Sort.ahead W n) g 0 X.toArray X.toArray.reverse (holdsK_ahead xR 2 W n g 0 X.toArray hH) (by simp)
    have hF : Fr (fun b => (Value.slice (some ⟨g, 0, none⟩) X.length cap).ownBlock = some b) W (putRowK xR 2 (Sort.ahead W n) g 0 X.toArray.reverse) := by
      refine ⟨rfl, rfl, rfl, by simp [putRowK, putRow, mapBlock, Sort.ahead], fun k hk hne => ?_⟩
      have hkg : k ≠ g := fun e => hne (by rw [e]; rfl)
      show (mapBlock (Sort.ahead W n) g _).heap[k]? = _
      unfold mapBlock
      simp only [Array.getElem?_modify, if_neg (fun e : g = k => hkg e.symm)]
      rfl
    generalize putRowK xR 2 (Sort.ahead W n) g 0 X.toArray.reverse = W' at *
    have hgl : g < W'.heap.size := by have := hF.size; have := (Array.getElem?_eq_some_iff.1 hh).1; omega
    refine ⟨rfl, hF, some ⟨g, 0, none⟩, cap, fun k => (X.reverse.getD k (default, none, 0)).2.1, fun k => (X.reverse.getD k (default, none, 0)).2.2, by rw [hlr], ?_, fun k hk => ?_⟩
    · intro _
      refine ⟨g, 0, rfl, hgl, fun k j hk hj => ?_⟩
      rw [hlr] at hk
      have h1 := (hH2.cell (i := k) (c := j) (by simpa using hk) hj).1
      rw [Nat.add_assoc] at h1
      rw [h1]
      have h3 : k < X.reverse.length := by simpa using hk
      have e1 : X.toArray.reverse[k]! = X.reverse[k] := by
        rw [getElem!_pos X.toArray.reverse k (by simpa using hk)]
        simp
      have e2 : gDp (X.reverse.map (·.1)) k = (X.reverse[k]).1 := by unfold gDp; rw [List.getD_eq_getElem?_getD, List.getElem?_map, List.getElem?_eq_getElem h3]; rfl
      have e3 : X.reverse.getD k (default, none, 0) = X.reverse[k] := by rw [List.getD_eq_getElem?_getD, List.getElem?_eq_getElem h3]; rfl
      rw [e1]
      match j, hj with
      | 0, _ => show some (Value.int .i64 (X.reverse[k]).1.heat) = some (Value.int .i64 (gDp (X.reverse.map (·.1)) k).heat); rw [e2]
      | 1, _ =>
        show some (Value.slice (X.reverse[k]).2.1 (X.reverse[k]).1.ins.length (X.reverse[k]).2.2) = some (Value.slice (X.reverse.getD k (default, none, 0)).2.1 (gDp (X.reverse.map (·.1)) k).ins.length (X.reverse.getD k (default, none, 0)).2.2)
        rw [e2, e3]
    · rw [hlr] at hk
      have h3 : k < X.reverse.length := by simpa using hk
      have e2 : gDp (X.reverse.map (·.1)) k = (X.reverse[k]).1 := by unfold gDp; rw [List.getD_eq_getElem?_getD, List.getElem?_map, List.getElem?_eq_getElem h3]; rfl
      have e3 : X.reverse.getD k (default, none, 0) = X.reverse[k] := by rw [List.getD_eq_getElem?_getD, List.getElem?_eq_getElem h3]; rfl
      show SlAt W' W'.heap.size 1 (X.reverse.getD k (default, none, 0)).2.1 _ _
      rw [e2, e3]
      obtain ⟨q, cq, f1, f2, f3, f4⟩ := h.ins (X.reverse[k]) (List.mem_reverse.1 (List.getElem_mem h3))
      have hq : InsAt W' B (X.reverse[k]).2.1 (X.reverse[k]).1.ins := ⟨q, cq, f1, f2, f3.fr hF (fun e => own_blkne h.own f3 (by decide) e), f4⟩
      exact hq.sl
end Go.Proofs.Ytnplefhigbkbbaa
end

section
namespace Go.Proofs.Ytnplefhigbkbbaa
open Go.RowKit
attribute [local go_sem] Ex.cell? Ex.frozen?

/-- of six, the first so many told as none. -/
def bgTo : Nat → S6
  | 0 => ⟨0, 0, 0, 0, 0, 0⟩
  | k + 1 => (bgTo k).set k (-1)
theorem Blk.s6 {W : World} {b : Nat} {t : TypeId} {s : S6} (h : Blk W b t (sC s)) {i : Nat} (hi : i < 6) (v : Int) : Blk (W.setCell ⟨b, i, none⟩ (.int .i64 v)) b t (sC (s.set i v)) := by
  rw [← sC_set hi]; exact h.set_ i _
/-- six numbers, closed to the walk. -/
def sV (s : S6) : Value := .agg (sC s)
theorem sV_lit (s : S6) : sV s = .agg #[.int .i64 s.a, .int .i64 s.b, .int .i64 s.c, .int .i64 s.d, .int .i64 s.e, .int .i64 s.f] := rfl
/-- all six are stored. -/
def st6 (W : World) (b : Nat) (s : S6) : World := (((((W.setCell ⟨b, 0, none⟩ (.int .i64 s.a)).setCell ⟨b, 1, none⟩ (.int .i64 s.b)).setCell ⟨b, 2, none⟩ (.int .i64 s.c)).setCell ⟨b, 3, none⟩ (.int .i64 s.d)).setCell ⟨b, 4, none⟩ (.int .i64 s.e)).setCell ⟨b, 5, none⟩ (.int .i64 s.f)
theorem Blk.six {W : World} {b : Nat} {t : TypeId} {s : S6} (h : Blk W b t (sC s)) (r : S6) : Blk (st6 W b r) b t (sC r) := (((((h.set_ 0 (.int .i64 r.a)).set_ 1 (.int .i64 r.b)).set_ 2 (.int .i64 r.c)).set_ 3 (.int .i64 r.d)).set_ 4 (.int .i64 r.e)).set_ 5 (.int .i64 r.f)
theorem st6_below {w W : World} {b : Nat} (h : Below w.heap.size w W) (hb : w.heap.size ≤ b) (r : S6) : Below w.heap.size w (st6 W b r) :=
  ex_set (p := ⟨b, 5, none⟩) (ex_set (p := ⟨b, 4, none⟩) (ex_set (p := ⟨b, 3, none⟩) (ex_set (p := ⟨b, 2, none⟩) (ex_set (p := ⟨b, 1, none⟩) (ex_set (p := ⟨b, 0, none⟩) h hb _) hb _) hb _) hb _) hb _) hb _
theorem Blk.cells6 {W : World} {b : Nat} {t : TypeId} {s : S6} (h : Blk W b t (sC s)) : W.cell? ⟨b, 0, none⟩ = some (.int .i64 s.a) ∧ W.cell? ⟨b, 1, none⟩ = some (.int .i64 s.b) ∧ W.cell? ⟨b, 2, none⟩ = some (.int .i64 s.c) ∧ W.cell? ⟨b, 3, none⟩ = some (.int .i64 s.d) ∧ W.cell? ⟨b, 4, none⟩ = some (.int .i64 s.e) ∧ W.cell? ⟨b, 5, none⟩ = some (.int .i64 s.f) :=
  ⟨h.cell 0, h.cell 1, h.cell 2, h.cell 3, h.cell 4, h.cell 5⟩
theorem Blk.s6c {W : World} {b : Nat} {t : TypeId} {s : S6} (h : Blk W b t (sC s)) {i : Nat} (hi : i < 6) : W.cell? ⟨b, i, none⟩ = some (.int .i64 (s.get i)) := (h.cell i).trans (sC_get hi)

set_option maxRecDepth 100000 in
set_option maxHeartbeats 3200000 in
theorem begun_any (w : World) :
    Calls Try.prog 86 #[] w fun e w' => e = .returned (sV begun6) ∧ Below w.heap.size w w' := by
  have hb1 := ex_alloc (Below.refl w.heap.size w) (.cells #[.int .i64 0, .int .i64 0, .int .i64 0, .int .i64 0, .int .i64 0, .int .i64 0] 145)
  have q1 : Blk (w.alloc (.cells #[.int .i64 0, .int .i64 0, .int .i64 0, .int .i64 0, .int .i64 0, .int .i64 0] 145)) w.heap.size 145 (sC (bgTo 0)) := Blk.new _ _ _
  go_enter Try.func86, Try.ntmps86
  go_wp2_with fail
  generalize w.alloc (.cells #[.int .i64 0, .int .i64 0, .int .i64 0, .int .i64 0, .int .i64 0, .int .i64 0] 145) = V at *
  refine wp_loop (fun a W => Rel (fun a W => ∃ k : Nat, k ≤ 6 ∧ Below w.heap.size w W ∧ Blk W w.heap.size 145 (sC (bgTo k)) ∧ ∃ u : Nat → Value, a = ⟨List.toArray (.pointer (some ⟨w.heap.size, 0, none⟩) :: u 1 :: .int .i64 (k : Int) :: u 3 :: u 4 :: u 5 :: u 6 :: u 7 :: u 8 :: u 9 :: []), []⟩) a W)
    (fun a _ => 6 - (intOf (a.tmps.getD 2 undef)).toNat) ⟨⟨0, by omega, hb1, q1, exFrame (by kernel_rfl)⟩⟩ ?_
  clear hb1 q1
  rintro a W ⟨⟨k, hk, hbl, q0, u, rfl⟩⟩
  have l0 := q0.lt
  have f0 := q0.frozen0
  by_cases hlt : k < 6
  · have a0 := q0.s6c hlt
    have q1 := q0.s6 hlt (-1)
    have hb2 := ex_set hbl (p := ⟨w.heap.size, k, none⟩) (Nat.le_refl _) (.int .i64 (-1))
    go_wp2_with fail
    refine ⟨⟨⟨k + 1, by omega, hb2, q1, exFrame (by kernel_rfl)⟩⟩, ?_⟩
    show 6 - (intOf (.int .i64 ((k : Int) + 1))).toNat < 6 - (intOf (.int .i64 (k : Int))).toNat
    simp [intOf]
    omega
  · obtain rfl : k = 6 := by omega
    have q1 := q0.s6 (show 0 < 6 by omega) 0
    have q2 : Blk (W.setCell ⟨w.heap.size, 0, none⟩ (.int .i64 0)) w.heap.size 145 (sC begun6) := q1
    have hb2 := ex_set hbl (p := ⟨w.heap.size, 0, none⟩) (Nat.le_refl _) (.int .i64 0)
    obtain ⟨a0, a1, a2, a3, a4, a5⟩ := q0.cells6
    rw [show bgTo 6 = ⟨-1, -1, -1, -1, -1, -1⟩ from rfl] at a0 a1 a2 a3 a4 a5
    simp only at a0 a1 a2 a3 a4 a5
    go_wp2_with fail
    refine bodyPost_ret (results_cell_row rfl _ _ w.heap.size 145 (sC begun6) (0, 0) _ rfl (q2.six begun6) rfl rfl rfl) rfl ?_
    exact ⟨rfl, st6_below hb2 (Nat.le_refl _) begun6⟩
set_option maxRecDepth 100000 in
set_option maxHeartbeats 6400000 in
theorem nearer_any (s : S6) (h0 : Int) (d : List Int) (Ad : Option Addr) (cd : Nat) (w : World) (hd : SlAt w w.heap.size 1 Ad d.length (fI d)) (hl : d.length ≤ 1000000) (h6 : In6 d) (hb : Bd6 1000 s) :
    Calls Try.prog 87 #[.agg (sC s), .agg #[.int .i64 h0, .slice Ad d.length cd]] w fun e w' => e = .returned (sV (nearer s d)) ∧ Below w.heap.size w w' := by
  have hb1 := ex_alloc (ex_alloc (ex_alloc (Below.refl w.heap.size w) (.cells #[.int .i64 s.a, .int .i64 s.b, .int .i64 s.c, .int .i64 s.d, .int .i64 s.e, .int .i64 s.f] 145)) (.cells #[.int .i64 h0, .slice Ad d.length cd] 112)) (.cells #[.int .i64 0, .int .i64 0, .int .i64 0, .int .i64 0, .int .i64 0, .int .i64 0] 145)
  have q0 : Blk (((w.alloc (.cells #[.int .i64 s.a, .int .i64 s.b, .int .i64 s.c, .int .i64 s.d, .int .i64 s.e, .int .i64 s.f] 145)).alloc (.cells #[.int .i64 h0, .slice Ad d.length cd] 112)).alloc (.cells #[.int .i64 0, .int .i64 0, .int .i64 0, .int .i64 0, .int .i64 0, .int .i64 0] 145)) w.heap.size 145 (sC s) := ((Blk.new _ _ _).alloc _).alloc _
  have q1 : Blk (((w.alloc (.cells #[.int .i64 s.a, .int .i64 s.b, .int .i64 s.c, .int .i64 s.d, .int .i64 s.e, .int .i64 s.f] 145)).alloc (.cells #[.int .i64 h0, .slice Ad d.length cd] 112)).alloc (.cells #[.int .i64 0, .int .i64 0, .int .i64 0, .int .i64 0, .int .i64 0, .int .i64 0] 145)) (w.heap.size + 1) 112 #[.int .i64 h0, .slice Ad d.length cd] := (Blk.new' _ _ _ (by simp)).alloc _
  have q2 : Blk (((w.alloc (.cells #[.int .i64 s.a, .int .i64 s.b, .int .i64 s.c, .int .i64 s.d, .int .i64 s.e, .int .i64 s.f] 145)).alloc (.cells #[.int .i64 h0, .slice Ad d.length cd] 112)).alloc (.cells #[.int .i64 0, .int .i64 0, .int .i64 0, .int .i64 0, .int .i64 0, .int .i64 0] 145)) (w.heap.size + 1 + 1) 145 (sC ⟨0, 0, 0, 0, 0, 0⟩) := Blk.new' _ _ _ (by simp)
  show Calls Try.prog 87 #[.agg #[.int .i64 s.a, .int .i64 s.b, .int .i64 s.c, .int .i64 s.d, .int .i64 s.e, .int .i64 s.f], .agg #[.int .i64 h0, .slice Ad d.length cd]] w fun e w' => e = .returned (sV (nearer s d)) ∧ Below w.heap.size w w'
  go_enter Try.func87, Try.ntmps87
  go_wp2_with fail
  generalize ((w.alloc (.cells #[.int .i64 s.a, .int .i64 s.b, .int .i64 s.c, .int .i64 s.d, .int .i64 s.e, .int .i64 s.f] 145)).alloc (.cells #[.int .i64 h0, .slice Ad d.length cd] 112)).alloc (.cells #[.int .i64 0, .int .i64 0, .int .i64 0, .int .i64 0, .int .i64 0, .int .i64 0] 145) = V at *
  -- the first that is known
  refine wp_loop (fun a W => Rel (fun a W => ∃ k : Nat, k ≤ d.length ∧ Below w.heap.size w W ∧ Blk W w.heap.size 145 (sC s) ∧ Blk W (w.heap.size + 1) 112 #[.int .i64 h0, .slice Ad d.length cd] ∧ Blk W (w.heap.size + 1 + 1) 145 (sC ⟨0, 0, 0, 0, 0, 0⟩) ∧ ∃ u : Nat → Value, a = ⟨List.toArray (u 0 :: u 1 :: .pointer (some ⟨w.heap.size, 0, none⟩) :: .pointer (some ⟨w.heap.size + 1, 0, none⟩) :: .pointer (some ⟨w.heap.size + 1 + 1, 0, none⟩) :: .int .i64 (fstTo s d k) :: u 6 :: u 7 :: u 8 :: u 9 :: u 10 :: .slice Ad d.length cd :: .int .i64 (d.length : Int) :: .int .i64 (k : Int) :: u 14 :: u 15 :: u 16 :: u 17 :: u 18 :: u 19 :: u 20 :: u 21 :: u 22 :: u 23 :: u 24 :: u 25 :: u 26 :: u 27 :: u 28 :: u 29 :: u 30 :: u 31 :: u 32 :: u 33 :: u 34 :: u 35 :: u 36 :: u 37 :: u 38 :: u 39 :: u 40 :: u 41 :: u 42 :: u 43 :: u 44 :: u 45 :: u 46 :: u 47 :: u 48 :: u 49 :: u 50 :: u 51 :: u 52 :: u 53 :: u 54 :: u 55 :: u 56 :: u 57 :: u 58 :: u 59 :: u 60 :: u 61 :: u 62 :: u 63 :: u 64 :: []), []⟩) a W)
    (fun a _ => d.length - (intOf (a.tmps.getD 13 undef)).toNat) ⟨⟨0, by omega, hb1, q0, q1, q2, exFrame (by kernel_rfl)⟩⟩ ?_
  clear hb1 q0 q1 q2
  rintro a W ⟨⟨k, hk, hbl, q0, q1, q2, u, rfl⟩⟩
  have hws := hbl.size
  have l0 := q0.lt
  have l1 := q1.lt
  by_cases hlt : k < d.length
  · obtain ⟨bd, od, rfl, hbd, g0⟩ := IsInts.at_ (hd.below hbl) hlt
    have lbd : bd < W.heap.size := by omega
    have h6k := h6 k hlt
    have HN : Hid (fstTo s d (k + 1) = if s.get (gI d k).toNat ≠ -1 ∧ (fstTo s d k = -1 ∨ s.get (gI d k).toNat < fstTo s d k) then s.get (gI d k).toNat else fstTo s d k) := Lib.hid rfl
    have a0 := q0.s6c (i := (gI d k).toNat) (by omega)
    obtain ⟨i, hi⟩ : ∃ i : Nat, gI d k = (i : Int) := ⟨(gI d k).toNat, by omega⟩
    rw [hi, Int.toNat_natCast] at a0 HN
    rw [hi] at g0 h6k
    have hi6 : i < 6 := by omega
    clear hi h6k
    obtain ⟨f, hf⟩ : ∃ f, fstTo s d k = f := ⟨_, rfl⟩
    obtain ⟨x, hx⟩ : ∃ x, s.get i = x := ⟨_, rfl⟩
    rw [hx] at a0 HN
    rw [hf] at HN ⊢
    clear hf hx
    by_cases c1 : x = -1
    · subst c1
      have HN2 : Hid (fstTo s d (k + 1) = f) := Lib.hid (by rw [HN.out, if_neg (by omega)])
      clear HN
      go_wp2_with fail
      refine ⟨⟨⟨k + 1, by omega, hbl, q0, q1, q2, by rw [HN2.out]; exact exFrame (by kernel_rfl)⟩⟩, ?_⟩
      show d.length - (intOf (.int .i64 ((k : Int) + 1))).toNat < d.length - (intOf (.int .i64 (k : Int))).toNat
      simp [intOf]
      omega
    have e1 : (x == -1) = false := by simp [c1]
    have e2 : (x != -1) = true := by simp [c1]
    by_cases c2 : f = -1
    · subst c2
      have HN2 : Hid (fstTo s d (k + 1) = x) := Lib.hid (by rw [HN.out, if_pos ⟨c1, .inl rfl⟩])
      clear HN c1
      go_wp2_with fail
      refine ⟨⟨⟨k + 1, by omega, hbl, q0, q1, q2, by rw [HN2.out]; exact exFrame (by kernel_rfl)⟩⟩, ?_⟩
      show d.length - (intOf (.int .i64 ((k : Int) + 1))).toNat < d.length - (intOf (.int .i64 (k : Int))).toNat
      simp [intOf]
      omega
    have e3 : (f == -1) = false := by simp [c2]
    by_cases c3 : x < f
    · have HN2 : Hid (fstTo s d (k + 1) = x) := Lib.hid (by rw [HN.out, if_pos ⟨c1, .inr c3⟩])
      have e4 : decide (x < f) = true := decide_eq_true c3
      clear HN c1 c2
      go_wp2_with fail
      refine ⟨⟨⟨k + 1, by omega, hbl, q0, q1, q2, by rw [HN2.out]; exact exFrame (by kernel_rfl)⟩⟩, ?_⟩
      show d.length - (intOf (.int .i64 ((k : Int) + 1))).toNat < d.length - (intOf (.int .i64 (k : Int))).toNat
      simp [intOf]
      omega
    · have HN2 : Hid (fstTo s d (k + 1) = f) := Lib.hid (by rw [HN.out, if_neg (fun h => h.2.elim c2 c3)])
      have e4 : decide (x < f) = false := decide_eq_false c3
      clear HN c1 c2
      go_wp2_with fail
      refine ⟨⟨⟨k + 1, by omega, hbl, q0, q1, q2, by rw [HN2.out]; exact exFrame (by kernel_rfl)⟩⟩, ?_⟩
      show d.length - (intOf (.int .i64 ((k : Int) + 1))).toNat < d.length - (intOf (.int .i64 (k : Int))).toNat
      simp [intOf]
      omega
  obtain rfl : k = d.length := by omega
  have HT : Hid (nrTo s d (fstTo s d d.length) d.length = nearer s d) := Lib.hid rfl
  have hfb := fstTo_bd hb h6 (by omega) (Nat.le_refl d.length)
  have HF0 : Hid (nrTo s d (fstTo s d d.length) 0 = s) := Lib.hid rfl
  have hnb : ∀ k, k ≤ d.length → Bd6 1001 (nrTo s d (fstTo s d d.length) k) := fun k hk => nrTo_bd hb h6 hfb hk
  obtain ⟨f, hf⟩ : ∃ f, fstTo s d d.length = f := ⟨_, rfl⟩
  rw [hf] at HT hfb HF0 hnb ⊢
  clear hf hlt
  have a3 : W.cell? ⟨w.heap.size + 1, 1, none⟩ = some (.slice Ad d.length cd) := q1.cell 1
  go_wp2_with fail
  clear a3
  refine wp_loop (fun a W => Rel (fun a W => ∃ k : Nat, k ≤ d.length ∧ Below w.heap.size w W ∧ Blk W w.heap.size 145 (sC (nrTo s d f k)) ∧ Blk W (w.heap.size + 1 + 1) 145 (sC ⟨0, 0, 0, 0, 0, 0⟩) ∧ ∃ u : Nat → Value, a = ⟨List.toArray (u 0 :: u 1 :: .pointer (some ⟨w.heap.size, 0, none⟩) :: .pointer (some ⟨w.heap.size + 1, 0, none⟩) :: .pointer (some ⟨w.heap.size + 1 + 1, 0, none⟩) :: .int .i64 f :: u 6 :: u 7 :: u 8 :: u 9 :: u 10 :: u 11 :: u 12 :: u 13 :: u 14 :: u 15 :: u 16 :: u 17 :: u 18 :: u 19 :: u 20 :: u 21 :: u 22 :: u 23 :: u 24 :: u 25 :: u 26 :: u 27 :: u 28 :: u 29 :: u 30 :: u 31 :: u 32 :: u 33 :: u 34 :: u 35 :: u 36 :: .slice Ad d.length cd :: .int .i64 (d.length : Int) :: .int .i64 (k : Int) :: u 40 :: u 41 :: u 42 :: u 43 :: u 44 :: u 45 :: u 46 :: u 47 :: u 48 :: u 49 :: u 50 :: u 51 :: u 52 :: u 53 :: u 54 :: u 55 :: u 56 :: u 57 :: u 58 :: u 59 :: u 60 :: u 61 :: u 62 :: u 63 :: u 64 :: []), []⟩) a W)
    (fun a _ => d.length - (intOf (a.tmps.getD 39 undef)).toNat) ⟨⟨0, by omega, hbl, by rw [HF0.out]; exact q0, q2, exFrame (by kernel_rfl)⟩⟩ ?_
  clear hbl q0 q1 q2 l0 l1 HF0 hws
  rintro a W ⟨⟨k, hk, hbl, q0, q2, u, rfl⟩⟩
  have hws := hbl.size
  have l0 := q0.lt
  have f0 := q0.frozen0
  by_cases hlt : k < d.length
  · obtain ⟨bd, od, rfl, hbd, g0⟩ := IsInts.at_ (hd.below hbl) hlt
    have lbd : bd < W.heap.size := by omega
    have h6k := h6 k hlt
    have HN : Hid (nrTo s d f (k + 1) = if f ≠ -1 ∧ ((nrTo s d f k).get (gI d k).toNat = -1 ∨ (nrTo s d f k).get (gI d k).toNat > f + 1) then (nrTo s d f k).set (gI d k).toNat (f + 1) else nrTo s d f k) := Lib.hid rfl
    have hnk := hnb k hk
    obtain ⟨i, hi⟩ : ∃ i : Nat, gI d k = (i : Int) := ⟨(gI d k).toNat, by omega⟩
    rw [hi, Int.toNat_natCast] at HN
    rw [hi] at g0 h6k
    have hi6 : i < 6 := by omega
    clear hi h6k
    have hxb := hnk i hi6
    obtain ⟨t, ht⟩ : ∃ t, nrTo s d f k = t := ⟨_, rfl⟩
    rw [ht] at HN q0 hxb
    have a0 := q0.s6c hi6
    obtain ⟨x, hx⟩ : ∃ x, t.get i = x := ⟨_, rfl⟩
    rw [hx] at a0 HN hxb
    clear ht hx hnk
    have wf : IntKind.i64.wrap (f + 1) = f + 1 := IntWalk.i64_in _ (by omega)
    by_cases c1 : f = -1
    · subst c1
      have HN2 : Hid (nrTo s d (-1) (k + 1) = t) := Lib.hid (by rw [HN.out, if_neg (by omega)])
      clear HN
      go_wp2_with fail
      refine ⟨⟨⟨k + 1, by omega, hbl, by rw [HN2.out]; exact q0, q2, exFrame (by kernel_rfl)⟩⟩, ?_⟩
      show d.length - (intOf (.int .i64 ((k : Int) + 1))).toNat < d.length - (intOf (.int .i64 (k : Int))).toNat
      simp [intOf]
      omega
    have e1 : (f == -1) = false := by simp [c1]
    have e2 : (f != -1) = true := by simp [c1]
    have q3 := q0.s6 hi6 (f + 1)
    have hb2 := ex_set hbl (p := ⟨w.heap.size, i, none⟩) (Nat.le_refl _) (.int .i64 (f + 1))
    have q4 := q2.far (p := ⟨w.heap.size, i, none⟩) (by show w.heap.size + 1 + 1 ≠ w.heap.size; omega) (.int .i64 (f + 1))
    by_cases c2 : x = -1
    · subst c2
      have HN2 : Hid (nrTo s d f (k + 1) = t.set i (f + 1)) := Lib.hid (by rw [HN.out, if_pos ⟨c1, .inl rfl⟩])
      clear HN c1
      go_wp2_with fail
      refine ⟨⟨⟨k + 1, by omega, hb2, by rw [HN2.out]; exact q3, q4, exFrame (by kernel_rfl)⟩⟩, ?_⟩
      show d.length - (intOf (.int .i64 ((k : Int) + 1))).toNat < d.length - (intOf (.int .i64 (k : Int))).toNat
      simp [intOf]
      omega
    have e3 : (x == -1) = false := by simp [c2]
    by_cases c3 : f + 1 < x
    · have HN2 : Hid (nrTo s d f (k + 1) = t.set i (f + 1)) := Lib.hid (by rw [HN.out, if_pos ⟨c1, .inr c3⟩])
      have e4 : decide (f + 1 < x) = true := decide_eq_true c3
      clear HN c1 c2
      go_wp2_with fail
      refine ⟨⟨⟨k + 1, by omega, hb2, by rw [HN2.out]; exact q3, q4, exFrame (by kernel_rfl)⟩⟩, ?_⟩
      show d.length - (intOf (.int .i64 ((k : Int) + 1))).toNat < d.length - (intOf (.int .i64 (k : Int))).toNat
      simp [intOf]
      omega
    · have HN2 : Hid (nrTo s d f (k + 1) = t) := Lib.hid (by rw [HN.out, if_neg (fun h => h.2.elim c2 c3)])
      have e4 : decide (f + 1 < x) = false := decide_eq_false c3
      clear HN c1 c2
      go_wp2_with fail
      refine ⟨⟨⟨k + 1, by omega, hbl, by rw [HN2.out]; exact q0, q2, exFrame (by kernel_rfl)⟩⟩, ?_⟩
      show d.length - (intOf (.int .i64 ((k : Int) + 1))).toNat < d.length - (intOf (.int .i64 (k : Int))).toNat
      simp [intOf]
      omega
  obtain rfl : k = d.length := by omega
  rw [HT.out] at q0
  obtain ⟨r, hr⟩ : ∃ r, nearer s d = r := ⟨_, rfl⟩
  rw [hr] at q0
  have HR := Lib.hid hr
  clear hr
  obtain ⟨a0, a1, a2, a3, a4, a5⟩ := q0.cells6
  have f2 := q2.frozen0
  have l2 := q2.lt
  obtain ⟨z0, z1, z2, z3, z4, z5⟩ := q2.cells6
  go_wp2_with fail
  refine bodyPost_ret (results_cell_row rfl _ _ (w.heap.size + 1 + 1) 145 (sC r) (0, 0) _ rfl (q2.six r) rfl rfl rfl) rfl ?_
  exact ⟨by rw [HR.out]; rfl, st6_below hbl (by omega) r⟩
end Go.Proofs.Ytnplefhigbkbbaa
end

section
namespace Go.Proofs.Ytnplefhigbkbbaa
open Go.RowKit
attribute [local go_sem] Ex.cell? Ex.frozen?

theorem run_eql_s6 (t : TypeId) (ht : t = 145) (a b c d e f a' b' c' d' e' f' : Int) (w : World) :
    (Op.equalIn 10000 t (.agg #[.int .i64 a, .int .i64 b, .int .i64 c, .int .i64 d, .int .i64 e, .int .i64 f]) (.agg #[.int .i64 a', .int .i64 b', .int .i64 c', .int .i64 d', .int .i64 e', .int .i64 f'])).run Try.prog w = .ok (decide (a = a' ∧ b = b' ∧ c = c' ∧ d = d' ∧ e = e' ∧ f = f')) w := by
  subst ht; exact eq_ints6 _ _ _ _ _ _ _ _ _ _ _ _ w
theorem PlIn.at_ {w : World} {B : Nat} {p : List Dp} {A : Option Addr} {rA : Nat → Option Addr} {rc : Nat → Nat} (h : PlIn w B p A rA rc) {k : Nat} (hk : k < p.length) :
    ∃ b off, A = some ⟨b, off, none⟩ ∧ b < B ∧ w.cell? ⟨b, off + k * 2, none⟩ = some (.int .i64 (gDp p k).heat) ∧ w.cell? ⟨b, off + k * 2 + 1, none⟩ = some (.slice (rA k) (gDp p k).ins.length (rc k)) := IsDps.at_ h.rows hk
theorem Blk.six_far {W : World} {g : Nat} {t : TypeId} {cs : Array Value} (h : Blk W g t cs) {b : Nat} (hb : g ≠ b) (r : S6) : Blk (st6 W b r) g t cs := (((((h.far (p := ⟨b, 0, none⟩) hb (.int .i64 r.a)).far (p := ⟨b, 1, none⟩) hb (.int .i64 r.b)).far (p := ⟨b, 2, none⟩) hb (.int .i64 r.c)).far (p := ⟨b, 3, none⟩) hb (.int .i64 r.d)).far (p := ⟨b, 4, none⟩) hb (.int .i64 r.e)).far (p := ⟨b, 5, none⟩) hb (.int .i64 r.f)
/-- what is left to be told, as it lies in memory. -/
def potW (W : World) (b : Nat) : Nat := pv (intOf ((W.cell? ⟨b, 0, none⟩).getD undef)) + pv (intOf ((W.cell? ⟨b, 1, none⟩).getD undef)) + pv (intOf ((W.cell? ⟨b, 2, none⟩).getD undef)) + pv (intOf ((W.cell? ⟨b, 3, none⟩).getD undef)) + pv (intOf ((W.cell? ⟨b, 4, none⟩).getD undef)) + pv (intOf ((W.cell? ⟨b, 5, none⟩).getD undef))
theorem potW_eq {W : World} {b : Nat} {t : TypeId} {s : S6} (h : Blk W b t (sC s)) : potW W b = pot s := by
  obtain ⟨a0, a1, a2, a3, a4, a5⟩ := h.cells6
  unfold potW pot
  rw [a0, a1, a2, a3, a4, a5]
  rfl
theorem Cnt.bd1000 {s : S6} (h : Cnt s) : Bd6 1000 s := fun i hi => by have := h.bd i hi; omega

set_option maxRecDepth 100000 in
set_option maxHeartbeats 6400000 in
theorem known_any (p : List Dp) (Ap : Option Addr) (cp : Nat) (rA : Nat → Option Addr) (rc : Nat → Nat) (w : World) (hp : PlIn w w.heap.size p Ap rA rc) (h6 : In6P p) (hsm : SmPl p) :
    Calls Try.prog 83 #[.slice Ap p.length cp] w fun e w' => ∃ K, e = .returned (sV K) ∧ KnownIs p K ∧ Below w.heap.size w w' := by
  have hlen := hsm.len
  have hb0 := ex_alloc (Below.refl w.heap.size w) (.cells #[.int .i64 0, .int .i64 0, .int .i64 0, .int .i64 0, .int .i64 0, .int .i64 0] 145)
  have z0 : Blk (w.alloc (.cells #[.int .i64 0, .int .i64 0, .int .i64 0, .int .i64 0, .int .i64 0, .int .i64 0] 145)) w.heap.size 145 (sC ⟨0, 0, 0, 0, 0, 0⟩) := Blk.new _ _ _
  go_enter Try.func83, Try.ntmps83
  go_wp2_with fail
  generalize w.alloc (.cells #[.int .i64 0, .int .i64 0, .int .i64 0, .int .i64 0, .int .i64 0, .int .i64 0] 145) = V0 at *
  refine (begun_any V0).mono ?_
  rintro e V1 ⟨rfl, hb1⟩
  have z1 := z0.below hb1 z0.lt
  have B1 := ex_trans hb0 hb1
  clear z0 hb0 hb1
  have hb2 := ex_alloc (Below.refl V1.heap.size V1) (.cells #[.int .i64 begun6.a, .int .i64 begun6.b, .int .i64 begun6.c, .int .i64 begun6.d, .int .i64 begun6.e, .int .i64 begun6.f] 145)
  have y2 : Blk (V1.alloc (.cells #[.int .i64 begun6.a, .int .i64 begun6.b, .int .i64 begun6.c, .int .i64 begun6.d, .int .i64 begun6.e, .int .i64 begun6.f] 145)) V1.heap.size 145 (sC begun6) := Blk.new _ _ _
  rw [sV_lit begun6]
  go_wp2_with fail
  have hqs : w.heap.size < V1.heap.size := z1.lt
  have B2 := ex_trans B1 hb2
  have z2 := z1.below hb2 hqs
  generalize V1.alloc (.cells #[.int .i64 begun6.a, .int .i64 begun6.b, .int .i64 begun6.c, .int .i64 begun6.d, .int .i64 begun6.e, .int .i64 begun6.f] 145) = V2 at *
  generalize V1.heap.size = qs at *
  clear B1 z1 hb2
  refine wp_loop (fun a W => Rel (fun a W => ∃ s, Below w.heap.size w W ∧ Blk W w.heap.size 145 (sC ⟨0, 0, 0, 0, 0, 0⟩) ∧ Blk W qs 145 (sC s) ∧ Hid (Cnt s) ∧ Hid (Sound p s) ∧ ∃ u : Nat → Value, a = ⟨List.toArray (.slice Ap p.length cp :: u 1 :: .pointer (some ⟨w.heap.size, 0, none⟩) :: .pointer (some ⟨qs, 0, none⟩) :: u 4 :: u 5 :: u 6 :: u 7 :: u 8 :: u 9 :: u 10 :: u 11 :: u 12 :: u 13 :: u 14 :: u 15 :: u 16 :: u 17 :: u 18 :: u 19 :: u 20 :: u 21 :: u 22 :: u 23 :: []), []⟩) a W)
    (fun _ W => potW W qs) ⟨⟨begun6, B2, z2, y2, Lib.hid Cnt.begun, Lib.hid (Sound.begun p), exFrame (by kernel_rfl)⟩⟩ ?_
  clear B2 z2 y2
  rintro a W ⟨⟨s, hbl, z0, y0, HC, HS, u, rfl⟩⟩
  have hws := hbl.size
  have ly := y0.lt
  obtain ⟨a0, a1, a2, a3, a4, a5⟩ := y0.cells6
  have hb2 := ex_alloc (Below.refl W.heap.size W) (.cells #[.int .i64 s.a, .int .i64 s.b, .int .i64 s.c, .int .i64 s.d, .int .i64 s.e, .int .i64 s.f] 145)
  have x2 : Blk (W.alloc (.cells #[.int .i64 s.a, .int .i64 s.b, .int .i64 s.c, .int .i64 s.d, .int .i64 s.e, .int .i64 s.f] 145)) W.heap.size 145 (sC (rndTo s p 0)) := Blk.new _ _ _
  have y2 := y0.below hb2 ly
  have z2 := z0.below hb2 z0.lt
  have B2 := ex_trans hbl hb2
  have hqn : qs < W.heap.size := ly
  have HP : Hid (potW W qs = pot s) := Lib.hid (potW_eq y0)
  have HW : Hid (Below w.heap.size w W) := Lib.hid hbl
  go_wp2_with fail
  generalize W.alloc (.cells #[.int .i64 s.a, .int .i64 s.b, .int .i64 s.c, .int .i64 s.d, .int .i64 s.e, .int .i64 s.f] 145) = V at *
  obtain ⟨qn, hqnE⟩ : ∃ qn, W.heap.size = qn := ⟨_, rfl⟩
  have hwn : w.heap.size ≤ qn := by omega
  rw [hqnE] at x2 hqn ⊢
  clear a0 a1 a2 a3 a4 a5 hbl z0 y0 ly hb2 hqnE hws
  refine wp_loop (fun a Y => Rel (fun a Y => ∃ k : Nat, k ≤ p.length ∧ Below w.heap.size w Y ∧ Blk Y w.heap.size 145 (sC ⟨0, 0, 0, 0, 0, 0⟩) ∧ Blk Y qs 145 (sC s) ∧ Blk Y qn 145 (sC (rndTo s p k)) ∧ ∃ u : Nat → Value, a = ⟨List.toArray (.slice Ap p.length cp :: u 1 :: .pointer (some ⟨w.heap.size, 0, none⟩) :: .pointer (some ⟨qs, 0, none⟩) :: .pointer (some ⟨qn, 0, none⟩) :: u 5 :: u 6 :: u 7 :: u 8 :: .slice Ap p.length cp :: .int .i64 (p.length : Int) :: .int .i64 (k : Int) :: u 12 :: u 13 :: u 14 :: u 15 :: u 16 :: u 17 :: u 18 :: u 19 :: u 20 :: u 21 :: u 22 :: u 23 :: []), []⟩) a Y)
    (fun a _ => p.length - (intOf (a.tmps.getD 11 undef)).toNat) ⟨⟨0, by omega, B2, z2, y2, x2, exFrame (by kernel_rfl)⟩⟩ ?_
  clear B2 z2 y2 x2
  rintro a Y ⟨⟨k, hk, hbl, z0, y0, x0, u, rfl⟩⟩
  have hws := hbl.size
  have lx := x0.lt
  by_cases hlt : k < p.length
  · have hp1 := hp.below hbl
    have h6k := h6 k hlt
    have hcb := (rndTo_cnt HC.out h6 (k := k) (by omega)).bd1000
    have HN : Hid (rndTo s p (k + 1) = nearer (rndTo s p k) (gDp p k).ins) := Lib.hid rfl
    have hlk := hsm.ins k hlt
    obtain ⟨b, off, rfl, hb, g0, g1⟩ := hp1.at_ hlt
    have hins := hp1.ins k hlt
    clear hp1
    generalize gDp p k = dp at *
    obtain ⟨hh, ins⟩ := dp
    simp only at g0 g1 h6k HN hlk hins
    have hb2 := ex_alloc (Below.refl Y.heap.size Y) (.cells #[.int .i64 hh, .slice (rA k) ins.length (rc k)] 112)
    have e2 : Blk (Y.alloc (.cells #[.int .i64 hh, .slice (rA k) ins.length (rc k)] 112)) Y.heap.size 112 #[.int .i64 hh, .slice (rA k) ins.length (rc k)] := Blk.new _ _ _
    have z2 := z0.below hb2 z0.lt
    have y2 := y0.below hb2 y0.lt
    have x2 := x0.below hb2 lx
    have B2 := ex_trans hbl hb2
    have hins2 := (hins.below hb2).up hb2.size
    generalize rndTo s p k = t at *
    obtain ⟨a0, a1, a2, a3, a4, a5⟩ := x0.cells6
    go_wp2_with fail
    generalize Y.alloc (.cells #[.int .i64 hh, .slice (rA k) ins.length (rc k)] 112) = U at *
    refine (nearer_any t hh ins (rA k) (rc k) U hins2 hlk h6k hcb).mono ?_
    rintro e U2 ⟨rfl, hU⟩
    have z3 := z2.below hU z2.lt
    have y3 := y2.below hU y2.lt
    have x3 := x2.below hU x2.lt
    have B3 := ex_trans B2 hU
    rw [← HN.out, sV_lit (rndTo s p (k + 1))]
    clear z0 y0 x0 z2 y2 x2 e2 B2 hU hb2 hins hins2 g0 g1 a0 a1 a2 a3 a4 a5 lx hbl HN
    obtain ⟨r, hr⟩ : ∃ r, rndTo s p (k + 1) = r := ⟨_, rfl⟩
    rw [hr]
    have HR := Lib.hid hr
    clear hr
    obtain ⟨a0, a1, a2, a3, a4, a5⟩ := x3.cells6
    have lx := x3.lt
    have fx := x3.frozen0
    have x4 := x3.six r
    have y4 := y3.six_far (b := qn) (by omega) r
    have z4 := z3.six_far (b := qn) (by omega) r
    have B4 := st6_below B3 (b := qn) (by omega) r
    go_wp2_with fail
    refine ⟨⟨⟨k + 1, by omega, B4, z4, y4, by rw [HR.out]; exact x4, exFrame (by kernel_rfl)⟩⟩, ?_⟩
    show p.length - (intOf (.int .i64 ((k : Int) + 1))).toNat < p.length - (intOf (.int .i64 (k : Int))).toNat
    simp [intOf]
    omega
  · obtain rfl : k = p.length := by omega
    have hrp := rndTo_pot HC.out h6 (Nat.le_refl p.length)
    have HC2 : Hid (Cnt (rndTo s p p.length)) := Lib.hid (rndTo_cnt HC.out h6 (Nat.le_refl _))
    have HS2 : Hid (Sound p (rndTo s p p.length)) := Lib.hid (Sound.rnd HS.out HC.out h6 (Nat.le_refl _))
    have HKN : Hid (rndTo s p p.length = s → KnownIs p s) := Lib.hid (fun e => by
      rcases hrp with ⟨_, h⟩ | h
      · exact known_of HC.out h6 HS.out h
      · rw [e] at h; omega)
    have HPL : Hid (rndTo s p p.length ≠ s → pot (rndTo s p p.length) < pot s) := Lib.hid (fun e => by
      rcases hrp with ⟨h, _⟩ | h
      · exact absurd h e
      · exact h)
    clear hrp
    generalize rndTo s p p.length = t at *
    obtain ⟨a0, a1, a2, a3, a4, a5⟩ := x0.cells6
    obtain ⟨c0, c1, c2, c3, c4, c5⟩ := y0.cells6
    have ly := y0.lt
    have heq : decide (t.a = s.a ∧ t.b = s.b ∧ t.c = s.c ∧ t.d = s.d ∧ t.e = s.e ∧ t.f = s.f) = decide (t = s) := s6_eq t s
    by_cases hts : t = s
    · have e1 : ∀ w, (Op.equalIn 10000 145 (.agg #[.int .i64 t.a, .int .i64 t.b, .int .i64 t.c, .int .i64 t.d, .int .i64 t.e, .int .i64 t.f]) (.agg #[.int .i64 s.a, .int .i64 s.b, .int .i64 s.c, .int .i64 s.d, .int .i64 s.e, .int .i64 s.f])).run Try.prog w = .ok true w := fun w => (run_eql_s6 _ rfl _ _ _ _ _ _ _ _ _ _ _ _ w).trans (by rw [heq, decide_eq_true hts])
      have HK2 := Lib.hid (HKN.out hts)
      have z4 := z0.six s
      have lz := z0.lt
      have fz := z0.frozen0
      obtain ⟨d0, d1, d2, d3, d4, d5⟩ := z0.cells6
      have B4 := st6_below hbl (b := w.heap.size) (by omega) s
      clear heq hts
      go_wp2_with fail
      refine bodyPost_ret (results_cell_row rfl _ _ w.heap.size 145 (sC s) (0, 0) _ rfl z4 rfl rfl rfl) rfl ?_
      exact ⟨s, rfl, HK2.out, B4⟩
    · have e1 : ∀ w, (Op.equalIn 10000 145 (.agg #[.int .i64 t.a, .int .i64 t.b, .int .i64 t.c, .int .i64 t.d, .int .i64 t.e, .int .i64 t.f]) (.agg #[.int .i64 s.a, .int .i64 s.b, .int .i64 s.c, .int .i64 s.d, .int .i64 s.e, .int .i64 s.f])).run Try.prog w = .ok false w := fun w => (run_eql_s6 _ rfl _ _ _ _ _ _ _ _ _ _ _ _ w).trans (by rw [heq, decide_eq_false hts])
      have HPL2 := Lib.hid (HPL.out hts)
      have y4 := y0.six t
      have z4 := z0.six_far (b := qs) (by omega) t
      have fy := y0.frozen0
      have B4 := st6_below hbl (b := qs) (by omega) t
      clear heq hts
      go_wp2_with fail
      refine ⟨⟨⟨t, B4, z4, y4, HC2, HS2, exFrame (by kernel_rfl)⟩⟩, ?_⟩
      show potW (st6 Y qs t) qs < potW W qs
      rw [HP.out, potW_eq y4]
      exact HPL2.out
end Go.Proofs.Ytnplefhigbkbbaa
end

section
namespace Go.Proofs.Ytnplefhigbkbbaa
open Go.Shelf
def laysNm215_ren : Go.Shelf.Ren := ⟨fun | 15 => 88 | n => n, fun | 22 => 52 | 3 => 3 | 4 => 4 | n => n, fun | n => n⟩
theorem laysNm215 : Go.Proofs.Lays2.n15 Try.prog laysNm215_ren := {
  mixed := by kernel_rfl
  f15 := Try.func88.trans (congrArg some (by kernel_rfl))
  t3 := Try.underlying3
  a3 := Try.isAgg3
  z3 := Try.sizeOf3
  v3 := Try.zeroValue3
  t4 := Try.underlying4
  a4 := Try.isAgg4
  z4 := Try.sizeOf4
  v4 := Try.zeroValue4
  t22 := Try.underlying52
  a22 := Try.isAgg52
  z22 := Try.sizeOf52
  v22 := Try.zeroValue52
  i3 := by kernel_rfl }
open Go.RowKit Go.Lib in
theorem slices_Clone_int (b off n c : Nat) (zs : List Int) (w : World) (hz : n ≤ zs.length) (hbig : n * 8 ≤ 140737488355328) (hc : ∀ j, j < zs.length → w.cell? ⟨b, off + j, none⟩ = some (.int .i64 (zs.getD j 0))) :
    Calls Try.prog 88 #[.slice (some ⟨b, off, none⟩) n c] w fun e w' => ∃ v', e = .returned v' ∧ w'.ownsRow w.heap.size 3 1 v' n ((zs.take n).map (Value.int .i64)) ∧ v' ≠ .slice none 0 0 ∧ Below w.heap.size w w' := Any.slices_Clone_int laysNm215 b off n c zs w hz hbig hc
open Go.RowKit Go.Lib in
theorem slices_Clone_int_nil (n c : Nat) (w : World) :
    Calls Try.prog 88 #[.slice none n c] w fun e w' => e = .returned (.slice none 0 0) ∧ w' = w := Any.slices_Clone_int_nil laysNm215 n c w
open Go.RowKit Go.Lib in
theorem slices_Clone_int_zero (a : Addr) (c : Nat) (w : World) :
    Calls Try.prog 88 #[.slice (some a) 0 c] w fun e w' => ∃ v', e = .returned v' ∧ w'.ownsRow w.heap.size 3 1 v' 0 [] ∧ v' ≠ .slice none 0 0 ∧ Below w.heap.size w w' := Any.slices_Clone_int_zero laysNm215 a c w
end Go.Proofs.Ytnplefhigbkbbaa
end
