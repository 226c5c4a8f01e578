/- GlassBlames (plain): the least list that need not be believed, and the lists of one. · The reference's Less and Fewest (walk). · The reference's Fewest (walk). · The law GlassBlames (walk). · The row GlassBlames: the fewest of any ices that need not be believed, and the one that is alone to blame, are as the document says, or the error is. -/
import Derived.WalkKit
import Derived.ProofKit
import Derived.OpenShut
import Derived.Test.YtlgmeofpkfliaaaGj
import Derived.Test.YtlgmeofpkfliaaaGl
import Derived.Test.YtlgmeofpkfliaaaGf
import Derived.Test.YtlgmeofpkfliaaaRows
import Derived.Test.YtlgmeofpkfliaaaGi
set_option linter.unusedVariables false
set_option linter.unusedSimpArgs false
set_option linter.unusedSectionVars false
section
namespace Go.Proofs.Ytlgmeofpkfliaaa

def lexL : List Int → List Int → Bool
  | x :: a, y :: b => if x = y then lexL a b else decide (x < y)
  | _, _ => false
/-- is a list shorter than another one, or as long, and before it? -/
def lessL (a b : List Int) : Bool := if a.length = b.length then lexL a b else decide (a.length < b.length)
theorem lexL_irr : ∀ a : List Int, lexL a a = false
  | [] => rfl
  | x :: a => by rw [lexL, if_pos rfl]; exact lexL_irr a
theorem lexL_trans : ∀ {a b c : List Int}, lexL a b = true → lexL b c = true → lexL a c = true
  | [], _, _, h, _ => by simp [lexL] at h
  | _ :: _, [], _, h, _ => by simp [lexL] at h
  | _ :: _, _ :: _, [], _, h => by simp [lexL] at h
  | x :: a, y :: b, z :: c, h, k => by
    rw [lexL] at h k ⊢
    by_cases hxy : x = y
    · subst hxy
      by_cases hyz : x = z
      · subst hyz
        rw [if_pos rfl] at h k ⊢
        exact lexL_trans h k
      · rw [if_neg hyz] at k ⊢; exact k
    · rw [if_neg hxy] at h
      have h1 := of_decide_eq_true h
      by_cases hyz : y = z
      · subst hyz; rw [if_neg hxy]; exact h
      · rw [if_neg hyz] at k
        have h2 := of_decide_eq_true k
        rw [if_neg (by omega)]
        exact decide_eq_true (by omega)
theorem lexL_tri : ∀ {a b : List Int}, a.length = b.length → a ≠ b → lexL a b = true ∨ lexL b a = true
  | [], [], _, h => absurd rfl h
  | [], _ :: _, h, _ => by simp at h
  | _ :: _, [], h, _ => by simp at h
  | x :: a, y :: b, h, k => by
    rw [lexL, lexL]
    by_cases hxy : x = y
    · subst hxy
      rw [if_pos rfl, if_pos rfl]
      exact lexL_tri (by simpa using h) (fun e => k (by rw [e]))
    · rw [if_neg hxy, if_neg (fun e => hxy e.symm)]
      rcases Int.lt_or_gt_of_ne hxy with h1 | h1
      · exact .inl (decide_eq_true h1)
      · exact .inr (decide_eq_true h1)
theorem lexL_app : ∀ {v a b : List Int}, lexL (v ++ a) (v ++ b) = lexL a b
  | [], _, _ => rfl
  | x :: v, a, b => by
    rw [List.cons_append, List.cons_append, lexL, if_pos rfl]
    exact lexL_app
theorem lessL_irr (a : List Int) : lessL a a = false := by unfold lessL; rw [if_pos rfl]; exact lexL_irr a
theorem lessL_trans {a b c : List Int} (h : lessL a b = true) (k : lessL b c = true) : lessL a c = true := by
  unfold lessL at *
  split at h
  · rename_i e1
    split at k
    · rename_i e2
      rw [if_pos (e1.trans e2)]
      exact lexL_trans h k
    · rename_i e2
      have := of_decide_eq_true k
      rw [if_neg (by omega)]
      exact decide_eq_true (by omega)
  · have h1 := of_decide_eq_true h
    split at k
    · rename_i e2
      rw [if_neg (by omega)]
      exact decide_eq_true (by omega)
    · have h2 := of_decide_eq_true k
      rw [if_neg (by omega)]
      exact decide_eq_true (by omega)
theorem lessL_tri {a b : List Int} (h : a ≠ b) : lessL a b = true ∨ lessL b a = true := by
  unfold lessL
  by_cases e : a.length = b.length
  · rw [if_pos e, if_pos e.symm]; exact lexL_tri e h
  · rw [if_neg e, if_neg (fun k => e k.symm)]
    rcases Nat.lt_or_gt_of_ne e with h1 | h1
    · exact .inl (decide_eq_true h1)
    · exact .inr (decide_eq_true h1)

/-- the rising lists of f numbers from n on. -/
def subsF (n : Nat) : Nat → List (List Int)
  | 0 => [[]]
  | f + 1 => (subsF (n + 1) f).map (fun s => (n : Int) :: s) ++ subsF (n + 1) f
theorem nil_subsF : ∀ {f n : Nat}, [] ∈ subsF n f
  | 0, _ => by simp [subsF]
  | f + 1, n => by rw [subsF]; exact List.mem_append.2 (.inr nil_subsF)
theorem subsF_ge : ∀ {f n : Nat} {s : List Int}, s ∈ subsF n f → ∀ x ∈ s, (n : Int) ≤ x
  | 0, n, s, h, x, hx => by
    simp [subsF] at h
    subst h; cases hx
  | f + 1, n, s, h, x, hx => by
    rw [subsF, List.mem_append, List.mem_map] at h
    rcases h with ⟨t, h1, rfl⟩ | h
    · rcases List.mem_cons.1 hx with rfl | hx
      · exact Int.le_refl _
      · have := subsF_ge h1 x hx; omega
    · have := subsF_ge h x hx; omega

/-- do all ices but those of a list agree? -/
def AgL (A : (Nat → Bool) → Bool) (L : List Int) : Prop := A (fun j => hasB L (j : Int)) = true
theorem setO_has {lv : List Int} {n : Nat} : setO (fun j : Nat => hasB lv (j : Int)) n = fun j : Nat => hasB (lv ++ [(n : Int)]) (j : Int) := by
  funext j
  rw [Bool.eq_iff_iff]
  unfold setO hasB
  split
  · rename_i e; simp [e]
  · rename_i e
    rw [decide_eq_true_iff, decide_eq_true_iff, List.mem_append, List.mem_singleton]
    constructor
    · exact .inl
    · rintro (h | h)
      · exact h
      · omega
theorem pickL_none {A : (Nat → Bool) → Bool} {many f : Nat} {lv : List Int} {o : Nat → Bool} {n : Nat} (h : lv.length ≠ many) : loopL A many f lv o n = pickL A many f lv o n := by unfold pickL; rw [if_neg h]
theorem pick_best {A : (Nat → Bool) → Bool} {many : Nat} : ∀ (f n : Nat) (lv : List Int),
    (∀ r ls, pickL A many f lv (fun j => hasB lv (j : Int)) n = r :: ls → (∃ s, s ∈ subsF n f ∧ r = lv ++ s) ∧ AgL A r ∧ r.length = many ∧ ∀ s', s' ∈ subsF n f → (lv ++ s').length = many → AgL A (lv ++ s') → lexL (lv ++ s') r = false) ∧
    (pickL A many f lv (fun j => hasB lv (j : Int)) n = [] → ∀ s', s' ∈ subsF n f → (lv ++ s').length = many → ¬ AgL A (lv ++ s')) := by
  have base : ∀ (f n : Nat) (lv : List Int), lv.length = many →
      (∀ r ls, pickL A many f lv (fun j => hasB lv (j : Int)) n = r :: ls → (∃ s, s ∈ subsF n f ∧ r = lv ++ s) ∧ AgL A r ∧ r.length = many ∧ ∀ s', s' ∈ subsF n f → (lv ++ s').length = many → AgL A (lv ++ s') → lexL (lv ++ s') r = false) ∧
      (pickL A many f lv (fun j => hasB lv (j : Int)) n = [] → ∀ s', s' ∈ subsF n f → (lv ++ s').length = many → ¬ AgL A (lv ++ s')) := fun f n lv hm => by
    have hz : ∀ s' : List Int, (lv ++ s').length = many → s' = [] := fun s' h => by
      rw [List.length_append] at h
      exact List.eq_nil_of_length_eq_zero (by omega)
    unfold pickL
    rw [if_pos hm]
    constructor
    · intro r ls h
      split at h
      · rename_i ha
        injection h with h _
        subst h
        exact ⟨⟨[], nil_subsF, by simp⟩, ha, hm, fun s' _ h2 _ => by rw [hz s' h2, List.append_nil]; exact lexL_irr _⟩
      · cases h
    · intro h s' _ h2 h3
      rw [hz s' h2, List.append_nil] at h3
      unfold AgL at h3
      rw [if_pos h3] at h
      cases h
  intro f
  induction f with
  | zero =>
    intro n lv
    by_cases hm : lv.length = many
    · exact base 0 n lv hm
    · rw [← pickL_none hm]
      refine ⟨fun r ls h => by simp [loopL] at h, fun _ s' h1 h2 => ?_⟩
      simp [subsF] at h1
      subst h1
      rw [List.append_nil] at h2
      exact absurd h2 hm
  | succ f ih =>
    intro n lv
    by_cases hm : lv.length = many
    · exact base (f + 1) n lv hm
    · rw [← pickL_none hm, loopL_succ, setO_has, pickL_none hm]
      obtain ⟨i1, i2⟩ := ih (n + 1) (lv ++ [(n : Int)])
      obtain ⟨j1, j2⟩ := ih (n + 1) lv
      have hsplit : ∀ s', s' ∈ subsF n (f + 1) → (∃ t, t ∈ subsF (n + 1) f ∧ s' = (n : Int) :: t) ∨ s' ∈ subsF (n + 1) f := fun s' h => by
        rw [subsF, List.mem_append, List.mem_map] at h
        rcases h with ⟨t, h1, rfl⟩ | h
        · exact .inl ⟨t, h1, rfl⟩
        · exact .inr h
      have happ : ∀ t : List Int, lv ++ (n : Int) :: t = (lv ++ [(n : Int)]) ++ t := fun t => by simp
      cases hP : pickL A many f (lv ++ [(n : Int)]) (fun j => hasB (lv ++ [(n : Int)]) (j : Int)) (n + 1) with
      | nil =>
        rw [List.nil_append]
        constructor
        · intro r ls h
          obtain ⟨⟨s, k1, k2⟩, k3, k4, k5⟩ := j1 r ls h
          refine ⟨⟨s, by rw [subsF]; exact List.mem_append.2 (.inr k1), k2⟩, k3, k4, fun s' h1 h2 h3 => ?_⟩
          rcases hsplit s' h1 with ⟨t, h4, rfl⟩ | h4
          · rw [happ] at h2 h3
            exact absurd h3 (i2 hP t h4 h2)
          · exact k5 s' h4 h2 h3
        · intro h s' h1 h2 h3
          rcases hsplit s' h1 with ⟨t, h4, rfl⟩ | h4
          · rw [happ] at h2 h3
            exact i2 hP t h4 h2 h3
          · exact j2 h s' h4 h2 h3
      | cons r0 ls0 =>
        constructor
        · intro r ls h
          injection h with h _
          subst h
          obtain ⟨⟨s, k1, k2⟩, k3, k4, k5⟩ := i1 r0 ls0 hP
          refine ⟨⟨(n : Int) :: s, by rw [subsF]; exact List.mem_append.2 (.inl (List.mem_map.2 ⟨s, k1, rfl⟩)), by rw [k2]; exact (happ s).symm⟩, k3, k4, fun s' h1 h2 h3 => ?_⟩
          rcases hsplit s' h1 with ⟨t, h4, rfl⟩ | h4
          · rw [happ] at h2 h3 ⊢
            exact k5 t h4 h2 h3
          · rw [k2, ← happ, lexL_app]
            cases s' with
            | nil => rfl
            | cons x t =>
              have := subsF_ge h4 x (by simp)
              rw [lexL, if_neg (by omega)]
              exact decide_eq_false (by omega)
        · intro h; cases h

/-- no list that agrees is less. -/
def Least (A : (Nat → Bool) → Bool) (n : Nat) (r : List Int) : Prop := (AgL A r ∨ r = seqL n) ∧ r ∈ subsF 0 n ∧ ∀ s, s ∈ subsF 0 n → AgL A s → lessL s r = false
theorem subs_six : ∀ n : Fin 7, (∀ s, s ∈ subsF 0 n.val → s.length ≤ n.val ∧ (s.length = n.val → s = seqL n.val)) ∧ (∀ s, s ∈ subsF 0 n.val → ∃ b : Fin 64, b.val < 2 ^ n.val ∧ ofL ((b.val : Nat) : Int) n.val = s) ∧ (∀ b : Fin 64, b.val < 2 ^ n.val → ofL ((b.val : Nat) : Int) n.val ∈ subsF 0 n.val) ∧ seqL n.val ∈ subsF 0 n.val ∧ ofL (2 ^ n.val - 1) n.val = seqL n.val := by decide +kernel
theorem least_uniq {A : (Nat → Bool) → Bool} {n : Nat} (hn : n ≤ 6) {r r' : List Int} (h : Least A n r) (k : Least A n r') : r = r' := by
  obtain ⟨hs, _⟩ := subs_six ⟨n, by omega⟩
  simp only at hs
  have half : ∀ {r r' : List Int}, Least A n r → Least A n r' → lessL r r' = true → r = r' := fun {r r'} h k hl => by
    rcases h.1 with h1 | h1
    · have := k.2.2 r h.2.1 h1; rw [hl] at this; cases this
    · subst h1
      have h2 := hs _ h.2.1
      have h3 := hs _ k.2.1
      have h4 : (seqL n).length = n := seqL_len n
      have h5 : r'.length = n := by
        unfold lessL at hl
        split at hl
        · omega
        · have := of_decide_eq_true hl; omega
      exact (h3.2 h5).symm
  by_cases e : r = r'
  · exact e
  · rcases lessL_tri e with hl | hl
    · exact half h k hl
    · exact (half k h hl).symm
section
variable {g : Gl} {h : List Rg} {l : List Ic}
/-- what Fewest tells is the least. -/
theorem few_least (hn : l.length ≤ 6) {r : List Int} (hf : FewIs (listsL g h l) l.length r) : Least (agreeB g h l) l.length r := by
  obtain ⟨hs, _, _, hq, _⟩ := subs_six ⟨l.length, by omega⟩
  have ho : off0 = fun j : Nat => hasB [] (j : Int) := rfl
  have hL : ∀ k, listsL g h l k = pickL (agreeB g h l) k l.length [] (fun j => hasB [] (j : Int)) 0 := fun k => by unfold listsL; rw [ho]
  have hno : ∀ k, listsL g h l k = [] → ∀ s, s ∈ subsF 0 l.length → AgL (agreeB g h l) s → s.length ≠ k := fun k h0 s h1 h2 h3 => by
    rw [hL] at h0
    exact (pick_best l.length 0 []).2 h0 s h1 h3 h2
  rcases hf with ⟨k, hk, h1, ls, h2⟩ | ⟨h1, rfl⟩
  · rw [hL] at h2
    obtain ⟨⟨s, k1, k2⟩, k3, k4, k5⟩ := (pick_best l.length 0 []).1 r ls h2
    rw [List.nil_append] at k2
    subst k2
    refine ⟨.inl k3, k1, fun s h3 h4 => ?_⟩
    unfold lessL
    split
    · rename_i e
      exact k5 s h3 (by rw [List.nil_append]; omega) h4
    · rename_i e
      refine decide_eq_false (fun hlt => ?_)
      exact hno s.length (h1 _ (by omega)) s h3 h4 rfl
  · refine ⟨.inr rfl, hq, fun s h3 h4 => ?_⟩
    have h5 := hs s h3
    have h6 : s.length = l.length := by
      rcases Nat.lt_or_ge s.length l.length with h7 | h7
      · exact absurd rfl (hno s.length (h1 _ h7) s h3 h4)
      · have := h5.1; simp only at this; omega
    rw [h5.2 h6]
    exact lessL_irr _

/-- how far the loop over the bits has come. -/
def Tried (A : (Nat → Bool) → Bool) (n k : Nat) (r : List Int) : Prop := (AgL A r ∨ r = seqL n) ∧ r ∈ subsF 0 n ∧ ∀ b : Nat, b < k → AgL A (ofL (b : Int) n) → lessL (ofL (b : Int) n) r = false
theorem tried0 {A : (Nat → Bool) → Bool} {n : Nat} (hn : n ≤ 6) : Tried A n 0 (seqL n) := by
  obtain ⟨_, _, _, hq, _⟩ := subs_six ⟨n, by omega⟩
  exact ⟨.inr rfl, hq, fun b hb => by omega⟩
theorem tried_no {A : (Nat → Bool) → Bool} {n k : Nat} {r : List Int} (h : Tried A n k r) (hx : lessL (ofL (k : Int) n) r = false ∨ ¬ AgL A (ofL (k : Int) n)) : Tried A n (k + 1) r :=
  ⟨h.1, h.2.1, fun b hb ha => by
    rcases Nat.lt_succ_iff_lt_or_eq.1 hb with h1 | h1
    · exact h.2.2 b h1 ha
    · subst h1
      rcases hx with hx | hx
      · exact hx
      · exact absurd ha hx⟩
theorem tried_yes {A : (Nat → Bool) → Bool} {n k : Nat} (hn : n ≤ 6) (hk : k < 2 ^ n) {r : List Int} (h : Tried A n k r) (hl : lessL (ofL (k : Int) n) r = true) (ha : AgL A (ofL (k : Int) n)) : Tried A n (k + 1) (ofL (k : Int) n) := by
  obtain ⟨_, _, hb, _, _⟩ := subs_six ⟨n, by omega⟩
  have h64 : 2 ^ n ≤ 64 := Nat.pow_le_pow_right (by omega : 2 > 0) hn
  refine ⟨.inl ha, hb ⟨k, by omega⟩ hk, fun b hb ha' => ?_⟩
  rcases Nat.lt_succ_iff_lt_or_eq.1 hb with h1 | h1
  · cases hx : lessL (ofL (b : Int) n) (ofL (k : Int) n)
    · rfl
    · have := h.2.2 b h1 ha'; rw [lessL_trans hx hl] at this; cases this
  · subst h1; exact lessL_irr _
theorem tried_all {A : (Nat → Bool) → Bool} {n : Nat} (hn : n ≤ 6) {r : List Int} (h : Tried A n (2 ^ n) r) : Least A n r := by
  obtain ⟨_, hs, _, _, _⟩ := subs_six ⟨n, by omega⟩
  refine ⟨h.1, h.2.1, fun s h1 h2 => ?_⟩
  obtain ⟨b, hb, rfl⟩ := hs s h1
  exact h.2.2 b.val hb h2

/-- the lists of one. -/
def ones (A : (Nat → Bool) → Bool) : Nat → List Nat
  | 0 => []
  | k + 1 => ones A k ++ if A (fun j => hasB [(k : Int)] (j : Int)) = true then [k] else []
theorem ones_len {A : (Nat → Bool) → Bool} : ∀ {k : Nat}, (ones A k).length ≤ k
  | 0 => by simp [ones]
  | k + 1 => by
    have := ones_len (A := A) (k := k)
    rw [ones, List.length_append]
    split
    · simp; omega
    · simp; omega
theorem pick_one_ones {A : (Nat → Bool) → Bool} : ∀ (f n : Nat), (ones A n).map (fun i : Nat => [(i : Int)]) ++ pickL A 1 f [] (fun j => hasB [] (j : Int)) n = (ones A (n + f)).map (fun i : Nat => [(i : Int)])
  | 0, n => by
    rw [← pickL_none (by simp), loopL]
    simp
  | f + 1, n => by
    rw [← pickL_none (by simp), loopL_succ, setO_has, pickL_none (by simp), ← List.append_assoc]
    have e : pickL A 1 f ([] ++ [(n : Int)]) (fun j => hasB ([] ++ [(n : Int)]) (j : Int)) (n + 1) = if A (fun j => hasB [(n : Int)] (j : Int)) = true then [[(n : Int)]] else [] := by
      unfold pickL
      rw [if_pos (by simp)]
      rfl
    rw [e]
    have e2 : (ones A n).map (fun i : Nat => [(i : Int)]) ++ (if A (fun j => hasB [(n : Int)] (j : Int)) = true then [[(n : Int)]] else []) = (ones A (n + 1)).map (fun i : Nat => [(i : Int)]) := by
      rw [ones, List.map_append]
      split <;> rfl
    rw [e2, pick_one_ones f (n + 1), show n + 1 + f = n + (f + 1) by omega]
theorem lists_one : listsL g h l 1 = (ones (agreeB g h l) l.length).map (fun i : Nat => [(i : Int)]) := by
  have := pick_one_ones (A := agreeB g h l) l.length 0
  rw [Nat.zero_add] at this
  exact this
theorem few_nil_iff {r : List Int} (hf : FewIs (listsL g h l) l.length r) : r.length = 0 → agreeB g h l off0 = true ∨ l.length = 0 := fun hr => by
  rcases hf with ⟨k, hk, h1, ls, h2⟩ | ⟨h1, rfl⟩
  · have hr' : r ∈ listsL g h l k := by rw [h2]; simp
    have := listsL_mem hr'
    have hk0 : k = 0 := by omega
    subst hk0
    refine .inl ?_
    cases ha : agreeB g h l off0
    · unfold listsL pickL at h2
      rw [ha] at h2
      simp at h2
    · rfl
  · rw [seqL_len] at hr; exact .inr hr
/-- the law's last look. -/
theorem blame_end {r : List Int} {k ev : Int} {many : Nat} {alone : Int} (hf : FewIs (listsL g h l) l.length r) (hb : BlameV g h l k ev) (hm : many = (ones (agreeB g h l) l.length).length) (ha : ∀ x, ones (agreeB g h l) l.length = [x] → alone = (x : Int)) :
    ((r.length = 0 ∨ many ≠ 1) ∧ k = 0 ∧ ev = 7) ∨ (r.length ≠ 0 ∧ many = 1 ∧ k = alone ∧ ev = 0) := by
  have h1 := lists_one (g := g) (h := h) (l := l)
  have hl : (listsL g h l 1).length = many := by rw [h1, hm, List.length_map]
  rcases hb with ⟨h2, h3, h4⟩ | ⟨h2, h3, h4⟩
  · refine .inl ⟨?_, h3, h4⟩
    rcases h2 with h2 | h2
    · left; rw [few_none h2 hf]; rfl
    · right; omega
  · have hm1 : many = 1 := by rw [← hl, h3]; rfl
    refine .inr ⟨fun h0 => ?_, hm1, ?_, h4⟩
    · rcases few_nil_iff hf h0 with h5 | h5
      · rw [h2] at h5; cases h5
      · have := ones_len (A := agreeB g h l) (k := l.length)
        omega
    · rw [h1] at h3
      cases ho : ones (agreeB g h l) l.length with
      | nil => rw [ho] at h3; simp at h3
      | cons x t =>
        rw [ho] at h3
        simp at h3
        obtain ⟨h5, h6⟩ := h3
        rw [ha x (by rw [ho, h6])]
        exact h5.symm
end
end Go.Proofs.Ytlgmeofpkfliaaa
end

section
namespace Go.Proofs.Ytlgmeofpkfliaaa
open Go.RowKit
attribute [local go_sem] Ex.cell? Ex.frozen?

theorem lex_at : ∀ {k : Nat} {a b : List Int}, (∀ i, i < k → gI a i = gI b i) → k < a.length → k < b.length → gI a k ≠ gI b k → lexL a b = decide (gI a k < gI b k)
  | 0, x :: a, y :: b, _, _, _, h => by
    have h' : x ≠ y := h
    rw [lexL, if_neg h']
    rfl
  | k + 1, x :: a, y :: b, hp, h1, h2, h => by
    have h0 : x = y := hp 0 (by omega)
    rw [lexL, if_pos h0]
    exact lex_at (k := k) (a := a) (b := b) (fun i hi => hp (i + 1) (by omega)) (by simpa using h1) (by simpa using h2) h
  | _, [], _, _, h1, _, _ => by simp at h1
  | _, _ :: _, [], _, _, h2, _ => by simp at h2
theorem lex_same {a b : List Int} (hl : a.length = b.length) (h : ∀ i, i < a.length → gI a i = gI b i) : a = b := by
  refine List.ext_getElem hl (fun i h1 h2 => ?_)
  have := h i h1
  simpa [gI, h1, h2] using this

set_option maxRecDepth 100000 in
set_option maxHeartbeats 3200000 in
theorem Less_any (A B : Option Addr) (c d : Nat) (a b : List Int) (w : World) (hl : a.length ≤ 1000000) (hl2 : b.length ≤ 1000000) (hA : SlAt w w.heap.size 1 A a.length (fI a)) (hB : SlAt w w.heap.size 1 B b.length (fI b)) :
    Calls Try.prog 68 #[.slice A a.length c, .slice B b.length d] w fun e w' => e = .returned (.bool (lessL a b)) ∧ Below w.heap.size w w' := by
  by_cases heq : a.length = b.length
  rotate_left
  · have HR : Hid (lessL a b = decide (a.length < b.length)) := Lib.hid (by unfold lessL; rw [if_neg heq])
    have e1 : (a.length == b.length) = false := by simp [heq]
    have e2 : ((a.length : Int) == (b.length : Int)) = false := by rw [beq_eq_false_iff_ne]; omega
    have HD : Hid (decide ((a.length : Int) < (b.length : Int)) = decide (a.length < b.length)) := Lib.hid (by rw [decide_eq_decide]; omega)
    rw [HR.out]
    clear HR heq
    go_enter Try.func68, Try.ntmps68
    go_wp2_with fail
    refine wp_loop (fun a' W => Rel (fun a' W => W = w ∧ ∃ u : Nat → Value, a' = ⟨List.toArray (.slice A a.length c :: .slice B b.length d :: u 2 :: u 3 :: u 4 :: .int .i64 0 :: u 6 :: u 7 :: u 8 :: u 9 :: u 10 :: u 11 :: u 12 :: u 13 :: u 14 :: u 15 :: u 16 :: u 17 :: u 18 :: u 19 :: u 20 :: u 21 :: u 22 :: u 23 :: u 24 :: u 25 :: u 26 :: u 27 :: u 28 :: u 29 :: u 30 :: u 31 :: u 32 :: u 33 :: u 34 :: u 35 :: u 36 :: u 37 :: u 38 :: u 39 :: u 40 :: u 41 :: []), []⟩) a' W)
      (fun _ _ => 0) ⟨⟨rfl, exFrame (by kernel_rfl)⟩⟩ ?_
    rintro a' W ⟨⟨rfl, u, rfl⟩⟩
    go_wp2 <;> (go_ret; exact ⟨rfl, Below.refl _ _⟩)
  · have e1 : (a.length == b.length) = true := by simp [heq]
    have e2 : ((a.length : Int) == (b.length : Int)) = true := by rw [beq_iff_eq]; omega
    have HL := Lib.hid heq
    have HR : Hid (lessL a b = lexL a b) := Lib.hid (by unfold lessL; rw [if_pos heq])
    rw [HR.out]
    clear HR
    obtain ⟨n, hn⟩ : ∃ n, a.length = n := ⟨_, rfl⟩
    have hbn : b.length = n := by omega
    have HN := Lib.hid hn
    have HBN := Lib.hid hbn
    rw [hn] at hl hA e1 e2 ⊢
    rw [hbn] at hB e1 e2 ⊢
    clear hn hbn hl2 heq e1 e2
    go_enter Try.func68, Try.ntmps68
    go_wp2_with fail
    refine wp_loop (fun a' W => Rel (fun a' W => ∃ k : Nat, k ≤ n ∧ Below w.heap.size w W ∧ Hid (∀ i, i < k → gI a i = gI b i) ∧ ∃ u : Nat → Value, a' = ⟨List.toArray (.slice A n c :: .slice B n d :: u 2 :: u 3 :: u 4 :: .int .i64 (k : Int) :: u 6 :: u 7 :: u 8 :: u 9 :: u 10 :: u 11 :: u 12 :: u 13 :: u 14 :: u 15 :: u 16 :: u 17 :: u 18 :: u 19 :: u 20 :: u 21 :: u 22 :: u 23 :: u 24 :: u 25 :: u 26 :: u 27 :: u 28 :: u 29 :: u 30 :: u 31 :: u 32 :: u 33 :: u 34 :: u 35 :: u 36 :: u 37 :: u 38 :: u 39 :: u 40 :: u 41 :: []), []⟩) a' W)
      (fun a' _ => n - (intOf (a'.tmps.getD 5 undef)).toNat) ⟨⟨0, by omega, Below.refl _ _, Lib.hid (fun i hi => by omega), exFrame (by kernel_rfl)⟩⟩ ?_
    rintro a' W ⟨⟨k, hk, hbl, HP, u, rfl⟩⟩
    by_cases hlt : k < n
    · have ha := (hA.below hbl).up hbl.size
      have hb := (hB.below hbl).up hbl.size
      obtain ⟨bi, oi, rfl, hbi, g0⟩ := IsInts.at_ ha hlt
      obtain ⟨bj, oj, rfl, hbj, k0⟩ := IsInts.at_ hb hlt
      by_cases hx : gI a k = gI b k
      · have HP2 := Lib.hid (show ∀ i, i < k + 1 → gI a i = gI b i from fun i hi => by
          rcases Nat.lt_succ_iff_lt_or_eq.1 hi with h3 | h3
          · exact HP.out i h3
          · subst h3; exact hx)
        rw [hx] at g0
        generalize gI b k = xb at *
        clear hx
        go_wp2_with fail
        refine wp_region_ext_mix 8 [(false, 0), (false, 1), (false, 2), (false, 3), (false, 4), (false, 5), (false, 6), (false, 7)] (by kernel_rfl) (by kernel_rfl) (by intro d _ _ _ _ h; cases d <;> exact h) ?_
        have hX0 := (Below.refl W.heap.size W).drew
        repeat (refine mix_quiet rfl ?_; go_big_quiet_step (fail); refine wpQuiet_nil ?_)
        refine mix_nil rfl ?_
        have hbX := ex_trans hbl hX0
        go_wp2_with fail
        refine ⟨⟨⟨k + 1, by omega, hbX, HP2, exFrame (by kernel_rfl)⟩⟩, ?_⟩
        show n - (intOf (.int .i64 ((k : Int) + 1))).toNat < n - (intOf (.int .i64 (k : Int))).toNat
        simp [intOf]
        omega
      · have HV : Hid (lexL a b = decide (gI a k < gI b k)) := Lib.hid (lex_at HP.out (by rw [HN.out]; exact hlt) (by rw [HBN.out]; exact hlt) hx)
        have e3 : (gI a k != gI b k) = true := by simp [hx]
        have e4 : (gI a k == gI b k) = false := by simp [hx]
        generalize gI a k = xa at *
        generalize gI b k = xb at *
        clear hx
        go_wp2_with fail
        refine wp_region_ext_mix 8 [(false, 0), (false, 1), (false, 2), (false, 3), (false, 4), (false, 5), (false, 6), (false, 7)] (by kernel_rfl) (by kernel_rfl) (by intro d _ _ _ _ h; cases d <;> exact h) ?_
        have hX0 := (Below.refl W.heap.size W).drew
        repeat (refine mix_quiet rfl ?_; go_big_quiet_step (fail); refine wpQuiet_nil ?_)
        refine mix_nil rfl ?_
        have g0' : W.drew.cell? ⟨bi, oi + k, none⟩ = some (.int .i64 xa) := g0
        have k0' : W.drew.cell? ⟨bj, oj + k, none⟩ = some (.int .i64 xb) := k0
        have hbi' : bi < W.drew.heap.size := hbi
        have hbj' : bj < W.drew.heap.size := hbj
        have hbX := ex_trans hbl hX0
        clear ha hb
        generalize W.drew = V at *
        go_wp2_with fail
        refine wp_region_ext_mix 8 [(false, 0), (false, 1), (false, 2), (false, 3), (false, 4), (false, 5), (false, 6), (false, 7)] (by kernel_rfl) (by kernel_rfl) (by intro d _ _ _ _ h; cases d <;> exact h) ?_
        have hX1 := (Below.refl V.heap.size V).drew
        repeat (refine mix_quiet rfl ?_; go_big_quiet_step (fail); refine wpQuiet_nil ?_)
        refine mix_nil (r := [_, _]) rfl ?_
        go_wp2
        go_ret
        exact ⟨by rw [HV.out]; rfl, ex_trans hbX hX1⟩
    · have hkE : k = n := by omega
      subst hkE
      have HV : Hid (lexL a b = false) := Lib.hid (by rw [lex_same HL.out (fun i hi => HP.out i (by rw [HN.out] at hi; exact hi))]; exact lexL_irr _)
      go_wp2
      go_ret
      exact ⟨by rw [HV.out]; rfl, hbl⟩
end Go.Proofs.Ytlgmeofpkfliaaa
end

section
namespace Go.Proofs.Ytlgmeofpkfliaaa
open Go.RowKit
attribute [local go_sem] Ex.cell? Ex.frozen?

theorem two_pow {n : Nat} (hn : n ≤ 6) : ((2 ^ n : Nat) : Int) ≤ 64 ∧ 1 ≤ ((2 ^ n : Nat) : Int) := by
  have h1 : 2 ^ n ≤ 2 ^ 6 := Nat.pow_le_pow_right (by omega) hn
  have h2 : 1 ≤ 2 ^ n := Nat.one_le_two_pow
  have h3 : (2 : Nat) ^ 6 = 64 := rfl
  omega
set_option maxRecDepth 100000 in
set_option maxHeartbeats 3200000 in
theorem FewestR_any (g : Gl) (Ab Ad Ah Ai : Option Addr) (cb cd ch ci : Nat) (h : List Rg) (l : List Ic) (w : World) (hg : GlIn w w.heap.size g Ab Ad) (hh : SlAt w w.heap.size 2 Ah h.length (fR h)) (hi : SlAt w w.heap.size 3 Ai l.length (fC l)) (hok : Ok g h) (hbd : IcesBd l) (hl6 : l.length ≤ 6) :
    Calls Try.prog 37 #[.agg #[.int .i64 g.base, .slice Ab g.bands.length cb, .slice Ad g.depths.length cd, .int .i64 g.blo, .int .i64 g.bhi], .slice Ah h.length ch, .slice Ai l.length ci] w fun e w' => (∃ A c r, e = .returned (.slice A (r : List Int).length c) ∧ Hid (Least (agreeB g h l) l.length r) ∧ SlAt w' w'.heap.size 1 A r.length (fI r)) ∧ Below w.heap.size w w' := by
  have hb1 := ex_alloc (Below.refl w.heap.size w) (.cells #[.int .i64 g.base, .slice Ab g.bands.length cb, .slice Ad g.depths.length cd, .int .i64 g.blo, .int .i64 g.bhi] 27)
  have q1 : Blk (w.alloc (.cells #[.int .i64 g.base, .slice Ab g.bands.length cb, .slice Ad g.depths.length cd, .int .i64 g.blo, .int .i64 g.bhi] 27)) w.heap.size 27 #[.int .i64 g.base, .slice Ab g.bands.length cb, .slice Ad g.depths.length cd, .int .i64 g.blo, .int .i64 g.bhi] := Blk.new _ _ _
  have HK := Lib.hid hok
  have HBD := Lib.hid hbd
  clear hok hbd
  obtain ⟨hs6, _, _, _, hall⟩ := subs_six ⟨l.length, by omega⟩
  simp only at hs6 hall
  obtain ⟨P, hP⟩ : ∃ P : Nat, 2 ^ l.length = P := ⟨_, rfl⟩
  have hPi : (2 : Int) ^ l.length = (P : Int) := by rw [← hP]; simp
  have hPb := two_pow hl6
  rw [hP] at hPb
  have w1 : wrap64 ((2 : Int) ^ l.length) = (P : Int) := by rw [hPi]; unfold wrap64; omega
  have w2 : wrap64 ((P : Int) - 1) = (P : Int) - 1 := by unfold wrap64; omega
  have HPP := Lib.hid hP
  have HS6 := Lib.hid hs6
  have HALL : Hid (ofL ((P : Int) - 1) l.length = seqL l.length) := Lib.hid (by rw [← hPi]; exact hall)
  clear hPi hP hs6 hall
  go_enter Try.func37, Try.ntmps37
  go_wp2_with fail
  refine (Of_any l.length ((P : Int) - 1) _ (by omega) (by omega) (by omega)).mono ?_
  rintro e w3 ⟨⟨v, rfl, hv⟩, hb3⟩
  obtain ⟨A0, c0, rfl, _, hs0⟩ := own_sl hv
  rw [HALL.out] at hs0 ⊢
  have hB3 := ex_trans hb1 hb3
  have p1 := q1.below hb3 q1.lt
  have T0 := Lib.hid (tried0 (A := agreeB g h l) hl6)
  clear q1 hv hb1 hb3
  go_wp2_with fail
  refine wp_loop (fun a W => Rel (fun a W => ∃ b : Nat, b ≤ P ∧ ∃ (r : List Int) (A : Option Addr) (c : Nat), Below w.heap.size w W ∧ Blk W w.heap.size 27 #[.int .i64 g.base, .slice Ab g.bands.length cb, .slice Ad g.depths.length cd, .int .i64 g.blo, .int .i64 g.bhi] ∧ SlAt W W.heap.size 1 A r.length (fI r) ∧ Hid (Tried (agreeB g h l) l.length b r) ∧ ∃ u : Nat → Value, a = ⟨List.toArray (u 0 :: .slice Ah h.length ch :: .slice Ai l.length ci :: .pointer (some ⟨w.heap.size, 0, none⟩) :: u 4 :: u 5 :: u 6 :: .slice A r.length c :: .int .i64 (b : Int) :: u 9 :: u 10 :: u 11 :: u 12 :: u 13 :: u 14 :: u 15 :: u 16 :: u 17 :: u 18 :: u 19 :: u 20 :: u 21 :: u 22 :: u 23 :: u 24 :: u 25 :: u 26 :: u 27 :: u 28 :: u 29 :: u 30 :: u 31 :: u 32 :: u 33 :: u 34 :: u 35 :: u 36 :: u 37 :: u 38 :: u 39 :: u 40 :: u 41 :: []), []⟩) a W)
    (fun a _ => P - (intOf (a.tmps.getD 8 undef)).toNat) ⟨⟨0, by omega, _, A0, c0, hB3, p1, hs0, T0, exFrame (by kernel_rfl)⟩⟩ ?_
  clear hB3 p1 hs0 T0
  rintro a W ⟨⟨b, hb, r, A, c, hbl, p1, hs, HT, u, rfl⟩⟩
  by_cases hlt : b < P
  · have hrl := (HS6.out r HT.out.2.1).1
    have c1 : decide ((b : Int) < (P : Int)) = true := decide_eq_true (by omega)
    go_wp2_with fail
    refine (Of_any l.length (b : Int) W (by omega) (by omega) (by omega)).mono ?_
    rintro e w4 ⟨⟨v, rfl, hv⟩, hb4⟩
    obtain ⟨A4, c4, rfl, _, hs4⟩ := own_sl hv
    have hL4 := ofL_len (b := (b : Int)) (n := l.length)
    obtain ⟨L, hL⟩ : ∃ L, ofL (b : Int) l.length = L := ⟨_, rfl⟩
    have HL := Lib.hid hL
    rw [hL] at hs4 hL4 ⊢
    have hB4 := ex_trans hbl hb4
    have s4 := (hs.below hb4).up hb4.size
    replace p1 := p1.below hb4 p1.lt
    clear hv hL hs
    have a0 : w4.cell? ⟨w.heap.size, 0, none⟩ = some (.int .i64 g.base) := p1.cell 0
    have a1 : w4.cell? ⟨w.heap.size, 1, none⟩ = some (.slice Ab g.bands.length cb) := p1.cell 1
    have a2 : w4.cell? ⟨w.heap.size, 2, none⟩ = some (.slice Ad g.depths.length cd) := p1.cell 2
    have a3 : w4.cell? ⟨w.heap.size, 3, none⟩ = some (.int .i64 g.blo) := p1.cell 3
    have a4 : w4.cell? ⟨w.heap.size, 4, none⟩ = some (.int .i64 g.bhi) := p1.cell 4
    have l1 := p1.lt
    go_wp2_with fail
    refine (Less_any A4 A c4 c L r w4 (by omega) (by omega) hs4 s4).mono ?_
    rintro e w5 ⟨rfl, hb5⟩
    have hB5 := ex_trans hB4 hb5
    have s5 := (s4.below hb5).up hb5.size
    replace p1 := p1.below hb5 p1.lt
    cases hLr : lessL L r
    · have HT2 := Lib.hid (tried_no HT.out (.inl (by rw [HL.out]; exact hLr)))
      clear hLr s4 hs4 a0 a1 a2 a3 a4 l1
      go_wp2_with fail
      refine ⟨⟨⟨b + 1, by omega, r, A, c, hB5, p1, s5, HT2, exFrame (by kernel_rfl)⟩⟩, ?_⟩
      show P - (intOf (.int .i64 ((b : Int) + 1))).toNat < P - (intOf (.int .i64 (b : Int))).toNat
      simp [intOf]
      omega
    have HLR := Lib.hid hLr
    have t5 := (hs4.below hb5).up hb5.size
    clear hLr s4 hs4 a0 a1 a2 a3 a4 l1
    have a0 : w5.cell? ⟨w.heap.size, 0, none⟩ = some (.int .i64 g.base) := p1.cell 0
    have a1 : w5.cell? ⟨w.heap.size, 1, none⟩ = some (.slice Ab g.bands.length cb) := p1.cell 1
    have a2 : w5.cell? ⟨w.heap.size, 2, none⟩ = some (.slice Ad g.depths.length cd) := p1.cell 2
    have a3 : w5.cell? ⟨w.heap.size, 3, none⟩ = some (.int .i64 g.blo) := p1.cell 3
    have a4 : w5.cell? ⟨w.heap.size, 4, none⟩ = some (.int .i64 g.bhi) := p1.cell 4
    have l1 := p1.lt
    go_wp2_with fail
    refine (AgreeR_any g _ _ _ _ _ _ _ _ _ _ h l L w5 ((hg.below hB5).up hB5.size) ((hh.below hB5).up hB5.size) ((hi.below hB5).up hB5.size) t5 HK.out HBD.out (by omega) (by omega)).mono ?_
    rintro e w6 ⟨rfl, hb6⟩
    have hB6 := ex_trans hB5 hb6
    have s6 := (s5.below hb6).up hb6.size
    have t6 := (t5.below hb6).up hb6.size
    replace p1 := p1.below hb6 p1.lt
    cases hA : agreeB g h l (fun j => hasB L (j : Int))
    · have HT2 := Lib.hid (tried_no HT.out (.inr (by rw [HL.out]; unfold AgL; rw [hA]; simp)))
      clear hA s5 t5
      go_wp2_with fail
      refine ⟨⟨⟨b + 1, by omega, r, A, c, hB6, p1, s6, HT2, exFrame (by kernel_rfl)⟩⟩, ?_⟩
      show P - (intOf (.int .i64 ((b : Int) + 1))).toNat < P - (intOf (.int .i64 (b : Int))).toNat
      simp [intOf]
      omega
    · have HT2 : Hid (Tried (agreeB g h l) l.length (b + 1) L) := Lib.hid (by
        have := tried_yes hl6 (by rw [HPP.out]; exact hlt) HT.out (by rw [HL.out]; exact HLR.out) (by rw [HL.out]; exact hA)
        rwa [HL.out] at this)
      clear hA s5 t5
      go_wp2_with fail
      refine ⟨⟨⟨b + 1, by omega, L, A4, c4, hB6, p1, t6, HT2, exFrame (by kernel_rfl)⟩⟩, ?_⟩
      show P - (intOf (.int .i64 ((b : Int) + 1))).toNat < P - (intOf (.int .i64 (b : Int))).toNat
      simp [intOf]
      omega
  · have hbE : b = P := by omega
    subst hbE
    have HLE := Lib.hid (tried_all hl6 (by rw [HPP.out]; exact HT.out))
    go_wp2
    go_ret
    exact ⟨⟨A, c, r, rfl, HLE, hs⟩, hbl⟩
end Go.Proofs.Ytlgmeofpkfliaaa
end

section
namespace Go.Proofs.Ytlgmeofpkfliaaa
open Go.RowKit
attribute [local go_sem] Ex.cell? Ex.frozen? Gx.cell?

theorem ints_self' (l : List Int) : intsB l l = true := decide_eq_true rfl
/-- the last that alone may be left out. -/
def lastA (A : (Nat → Bool) → Bool) : Nat → Int
  | 0 => 0
  | k + 1 => if A (fun j => hasB [(k : Int)] (j : Int)) = true then (k : Int) else lastA A k
theorem lastA_ones {A : (Nat → Bool) → Bool} : ∀ {k : Nat} {t : List Nat} {x : Nat}, ones A k = t ++ [x] → lastA A k = (x : Int)
  | 0, t, x, h => by simp [ones] at h
  | k + 1, t, x, h => by
    rw [ones] at h
    rw [lastA]
    split
    · rename_i ha
      rw [if_pos ha] at h
      have := (List.append_inj' h rfl).2
      injection this with h1 _
      rw [h1]
    · rename_i ha
      rw [if_neg ha, List.append_nil] at h
      exact lastA_ones h

set_option maxRecDepth 100000 in
set_option maxHeartbeats 6400000 in
theorem Blames_far (g : Gl) (Ab Ad Ah Ai : Option Addr) (cb cd ch ci : Nat) (h : List Rg) (l : List Ic) (w : World) (hg : GlIn w w.heap.size g Ab Ad) (hh : SlAt w w.heap.size 2 Ah h.length (fR h)) (hi : SlAt w w.heap.size 3 Ai l.length (fC l)) (hth : thinB g.bands.length g.depths.length h.length l.length = false) :
    Calls Try.prog 9 #[.agg #[.int .i64 g.base, .slice Ab g.bands.length cb, .slice Ad g.depths.length cd, .int .i64 g.blo, .int .i64 g.bhi], .slice Ah h.length ch, .slice Ai l.length ci] w fun e w' => e = .returned (.bool true) ∧ Below w.heap.size w w' := by
  have hb1 := ex_alloc (Below.refl w.heap.size w) (.cells #[.int .i64 g.base, .slice Ab g.bands.length cb, .slice Ad g.depths.length cd, .int .i64 g.blo, .int .i64 g.bhi] 27)
  have q1 : Blk (w.alloc (.cells #[.int .i64 g.base, .slice Ab g.bands.length cb, .slice Ad g.depths.length cd, .int .i64 g.blo, .int .i64 g.bhi] 27)) w.heap.size 27 #[.int .i64 g.base, .slice Ab g.bands.length cb, .slice Ad g.depths.length cd, .int .i64 g.blo, .int .i64 g.bhi] := Blk.new _ _ _
  have HTH := Lib.hid hth
  clear hth
  go_enter Try.func9, Try.ntmps9
  go_wp2_with fail
  refine (Thin_any _ _ _ _ _ _ _ _ _ _ _ _ _ _ _ _).mono ?_
  rintro e w2 ⟨rfl, hb2⟩
  have hB2 := ex_trans hb1 hb2
  rw [HTH.out]
  go_wp2_with fail
  refine (awake_any _).mono ?_
  rintro e x1 ⟨rfl, hx1⟩
  go_wp2
  go_ret
  exact ⟨rfl, ex_trans hB2 hx1⟩

set_option maxRecDepth 100000 in
set_option maxHeartbeats 6400000 in
theorem Blames_many (g : Gl) (Ab Ad Ah Ai : Option Addr) (cb cd ch ci : Nat) (h : List Rg) (l : List Ic) (w : World) (hg : GlIn w w.heap.size g Ab Ad) (hh : SlAt w w.heap.size 2 Ah h.length (fR h)) (hi : SlAt w w.heap.size 3 Ai l.length (fC l))  (hth : thinB g.bands.length g.depths.length h.length l.length = true) (heq : iced g h l = 0) (h6 : 6 < l.length) :
    Calls Try.prog 9 #[.agg #[.int .i64 g.base, .slice Ab g.bands.length cb, .slice Ad g.depths.length cd, .int .i64 g.blo, .int .i64 g.bhi], .slice Ah h.length ch, .slice Ai l.length ci] w fun e w' => e = .returned (.bool true) ∧ Below w.heap.size w w' := by
  have hb1 := ex_alloc (Below.refl w.heap.size w) (.cells #[.int .i64 g.base, .slice Ab g.bands.length cb, .slice Ad g.depths.length cd, .int .i64 g.blo, .int .i64 g.bhi] 27)
  have q1 : Blk (w.alloc (.cells #[.int .i64 g.base, .slice Ab g.bands.length cb, .slice Ad g.depths.length cd, .int .i64 g.blo, .int .i64 g.bhi] 27)) w.heap.size 27 #[.int .i64 g.base, .slice Ab g.bands.length cb, .slice Ad g.depths.length cd, .int .i64 g.blo, .int .i64 g.bhi] := Blk.new _ _ _
  obtain ⟨hnb, hnd, hnh, hni⟩ := thinB_iff.1 hth
  have HTH := Lib.hid hth
  clear hth
  go_enter Try.func9, Try.ntmps9
  go_wp2_with fail
  refine (Thin_any _ _ _ _ _ _ _ _ _ _ _ _ _ _ _ _).mono ?_
  rintro e w2 ⟨rfl, hb2⟩
  have hB2 := ex_trans hb1 hb2
  rw [HTH.out]
  have p1 := q1.below hb2 q1.lt
  clear q1
  have HIC := Lib.hid heq
  have c1 : decide (l.length > 6) = true := decide_eq_true (by omega)
  have c2 : decide ((6 : Int) < (l.length : Int)) = true := decide_eq_true (by omega)
  have c3 : decide (6 < l.length) = true := decide_eq_true (by omega)
  clear heq
  have a0 : w2.cell? ⟨w.heap.size, 0, none⟩ = some (.int .i64 g.base) := p1.cell 0
  have a1 : w2.cell? ⟨w.heap.size, 1, none⟩ = some (.slice Ab g.bands.length cb) := p1.cell 1
  have a2 : w2.cell? ⟨w.heap.size, 2, none⟩ = some (.slice Ad g.depths.length cd) := p1.cell 2
  have a3 : w2.cell? ⟨w.heap.size, 3, none⟩ = some (.int .i64 g.blo) := p1.cell 3
  have a4 : w2.cell? ⟨w.heap.size, 4, none⟩ = some (.int .i64 g.bhi) := p1.cell 4
  have l1 := p1.lt
  go_wp2_with fail
  refine (icedL_any g _ _ _ _ _ _ _ _ h l _ ((hg.below hB2).up hB2.size) ((hh.below hB2).up hB2.size) ((hi.below hB2).up hB2.size) (by omega)).mono ?_
  rintro e w3 ⟨rfl, hw3⟩
  have B_w3 := ex_trans hB2 hw3
  rw [HIC.out]
  go_wp2_with fail
  refine (awake_any _).mono ?_
  rintro e x1 ⟨rfl, hx1⟩
  go_wp2
  go_ret
  exact ⟨rfl, ex_trans B_w3 hx1⟩

set_option maxRecDepth 100000 in
set_option maxHeartbeats 6400000 in
theorem BlamesLaw_bad (g : Gl) (Ab Ad Ah Ai : Option Addr) (cb cd ch ci : Nat) (h : List Rg) (l : List Ic) (w : World) (hg : GlIn w w.heap.size g Ab Ad) (hh : SlAt w w.heap.size 2 Ah h.length (fR h)) (hi : SlAt w w.heap.size 3 Ai l.length (fC l))  (hth : thinB g.bands.length g.depths.length h.length l.length = true) (hne : iced g h l ≠ 0) :
    Calls Try.prog 9 #[.agg #[.int .i64 g.base, .slice Ab g.bands.length cb, .slice Ad g.depths.length cd, .int .i64 g.blo, .int .i64 g.bhi], .slice Ah h.length ch, .slice Ai l.length ci] w fun e w' => e = .returned (.bool true) ∧ Below w.heap.size w w' := by
  have hb1 := ex_alloc (Below.refl w.heap.size w) (.cells #[.int .i64 g.base, .slice Ab g.bands.length cb, .slice Ad g.depths.length cd, .int .i64 g.blo, .int .i64 g.bhi] 27)
  have q1 : Blk (w.alloc (.cells #[.int .i64 g.base, .slice Ab g.bands.length cb, .slice Ad g.depths.length cd, .int .i64 g.blo, .int .i64 g.bhi] 27)) w.heap.size 27 #[.int .i64 g.base, .slice Ab g.bands.length cb, .slice Ad g.depths.length cd, .int .i64 g.blo, .int .i64 g.bhi] := Blk.new _ _ _
  obtain ⟨hnb, hnd, hnh, hni⟩ := thinB_iff.1 hth
  have HTH := Lib.hid hth
  clear hth
  go_enter Try.func9, Try.ntmps9
  go_wp2_with fail
  refine (Thin_any _ _ _ _ _ _ _ _ _ _ _ _ _ _ _ _).mono ?_
  rintro e w2 ⟨rfl, hb2⟩
  have hB2 := ex_trans hb1 hb2
  rw [HTH.out]
  have p1 := q1.below hb2 q1.lt
  clear q1
  have HNE := Lib.hid hne
  have n1 : (iced g h l == 0) = false := by simp [hne]
  have n2 : (iced g h l != 0) = true := by simp [hne]
  have n3 : (iced g h l == iced g h l) = true := by simp
  clear hne
  have a0 : w2.cell? ⟨w.heap.size, 0, none⟩ = some (.int .i64 g.base) := p1.cell 0
  have a1 : w2.cell? ⟨w.heap.size, 1, none⟩ = some (.slice Ab g.bands.length cb) := p1.cell 1
  have a2 : w2.cell? ⟨w.heap.size, 2, none⟩ = some (.slice Ad g.depths.length cd) := p1.cell 2
  have a3 : w2.cell? ⟨w.heap.size, 3, none⟩ = some (.int .i64 g.blo) := p1.cell 3
  have a4 : w2.cell? ⟨w.heap.size, 4, none⟩ = some (.int .i64 g.bhi) := p1.cell 4
  have l1 := p1.lt
  go_wp2_with fail
  refine (icedL_any g _ _ _ _ _ _ _ _ h l _ ((hg.below hB2).up hB2.size) ((hh.below hB2).up hB2.size) ((hi.below hB2).up hB2.size) (by omega)).mono ?_
  rintro e w3 ⟨rfl, hw3⟩
  have B_w3 := ex_trans hB2 hw3
  replace p1 := p1.below hw3 l1
  clear a0 a1 a2 a3 a4 l1
  have a0 : w3.cell? ⟨w.heap.size, 0, none⟩ = some (.int .i64 g.base) := p1.cell 0
  have a1 : w3.cell? ⟨w.heap.size, 1, none⟩ = some (.slice Ab g.bands.length cb) := p1.cell 1
  have a2 : w3.cell? ⟨w.heap.size, 2, none⟩ = some (.slice Ad g.depths.length cd) := p1.cell 2
  have a3 : w3.cell? ⟨w.heap.size, 3, none⟩ = some (.int .i64 g.blo) := p1.cell 3
  have a4 : w3.cell? ⟨w.heap.size, 4, none⟩ = some (.int .i64 g.bhi) := p1.cell 4
  have l1 := p1.lt
  go_wp2_with fail
  refine (Glass_any g _ _ _ _ w3 ((hg.below B_w3).up B_w3.size) (by omega) (by omega)).mono ?_
  rintro e ya1 ⟨⟨Ab_ya1, Ad_ya1, cb_ya1, cd_ya1, rfl, hg_ya1⟩, hya1⟩
  have B_ya1 := ex_trans B_w3 hya1
  go_wp2_with fail
  refine (History_any _ _ h ya1 (by omega) ((hh.below B_ya1).up B_ya1.size)).mono ?_
  rintro e ya2 ⟨⟨Ah_ya2, ch_ya2, rfl, _, _, hh_ya2⟩, hya2⟩
  have B_ya2 := ex_trans B_ya1 hya2
  have I_ya2 := ex_trans B_w3 (ex_trans hya1 hya2)
  go_wp2_with fail
  refine (Ices_any _ _ l ya2 (by omega) ((hi.below I_ya2).up I_ya2.size)).mono ?_
  rintro e ya3 ⟨⟨Ai_ya3, ci_ya3, rfl, hc1_ya3, hc2_ya3, hi_ya3⟩, hya3⟩
  have B_ya3 := ex_trans B_ya2 hya3
  have I_ya3 := ex_trans I_ya2 hya3
  go_wp2_with fail
  refine (Fewest_bad g _ _ _ _ _ _ _ _ h l _ ((hg_ya1.below (ex_trans hya2 hya3)).up (ex_trans hya2 hya3).size) ((hh_ya2.below hya3).up hya3.size) hi_ya3 HNE.out).mono ?_
  rintro e ya4 ⟨rfl, hya4⟩
  have B_ya := ex_trans B_ya3 hya4
  have I_ya := ex_trans I_ya3 hya4
  have X_ya := ex_trans (ex_trans (ex_trans hya1 hya2) hya3) hya4
  clear hg_ya1 hh_ya2 hi_ya3
  replace p1 := p1.below X_ya l1
  clear a0 a1 a2 a3 a4 l1
  have a0 : ya4.cell? ⟨w.heap.size, 0, none⟩ = some (.int .i64 g.base) := p1.cell 0
  have a1 : ya4.cell? ⟨w.heap.size, 1, none⟩ = some (.slice Ab g.bands.length cb) := p1.cell 1
  have a2 : ya4.cell? ⟨w.heap.size, 2, none⟩ = some (.slice Ad g.depths.length cd) := p1.cell 2
  have a3 : ya4.cell? ⟨w.heap.size, 3, none⟩ = some (.int .i64 g.blo) := p1.cell 3
  have a4 : ya4.cell? ⟨w.heap.size, 4, none⟩ = some (.int .i64 g.bhi) := p1.cell 4
  have l1 := p1.lt
  go_wp2_with fail
  refine (Glass_any g _ _ _ _ ya4 ((hg.below B_ya).up B_ya.size) (by omega) (by omega)).mono ?_
  rintro e yb1 ⟨⟨Ab_yb1, Ad_yb1, cb_yb1, cd_yb1, rfl, hg_yb1⟩, hyb1⟩
  have B_yb1 := ex_trans B_ya hyb1
  go_wp2_with fail
  refine (History_any _ _ h yb1 (by omega) ((hh.below B_yb1).up B_yb1.size)).mono ?_
  rintro e yb2 ⟨⟨Ah_yb2, ch_yb2, rfl, _, _, hh_yb2⟩, hyb2⟩
  have B_yb2 := ex_trans B_yb1 hyb2
  have I_yb2 := ex_trans I_ya (ex_trans hyb1 hyb2)
  go_wp2_with fail
  refine (Ices_any _ _ l yb2 (by omega) ((hi.below I_yb2).up I_yb2.size)).mono ?_
  rintro e yb3 ⟨⟨Ai_yb3, ci_yb3, rfl, hc1_yb3, hc2_yb3, hi_yb3⟩, hyb3⟩
  have B_yb3 := ex_trans B_yb2 hyb3
  have I_yb3 := ex_trans I_yb2 hyb3
  go_wp2_with fail
  refine (Blame_bad g _ _ _ _ _ _ _ _ h l _ ((hg_yb1.below (ex_trans hyb2 hyb3)).up (ex_trans hyb2 hyb3).size) ((hh_yb2.below hyb3).up hyb3.size) hi_yb3 HNE.out).mono ?_
  rintro e yb4 ⟨rfl, hyb4⟩
  have B_yb := ex_trans B_yb3 hyb4
  have I_yb := ex_trans I_yb3 hyb4
  have X_yb := ex_trans (ex_trans (ex_trans hyb1 hyb2) hyb3) hyb4
  clear hg_yb1 hh_yb2 hi_yb3
  replace p1 := p1.below X_yb l1
  clear a0 a1 a2 a3 a4 l1
  have a0 : yb4.cell? ⟨w.heap.size, 0, none⟩ = some (.int .i64 g.base) := p1.cell 0
  have a1 : yb4.cell? ⟨w.heap.size, 1, none⟩ = some (.slice Ab g.bands.length cb) := p1.cell 1
  have a2 : yb4.cell? ⟨w.heap.size, 2, none⟩ = some (.slice Ad g.depths.length cd) := p1.cell 2
  have a3 : yb4.cell? ⟨w.heap.size, 3, none⟩ = some (.int .i64 g.blo) := p1.cell 3
  have a4 : yb4.cell? ⟨w.heap.size, 4, none⟩ = some (.int .i64 g.bhi) := p1.cell 4
  have l1 := p1.lt
  go_wp2_with fail
  refine (icedL_any g _ _ _ _ _ _ _ _ h l _ ((hg.below B_yb).up B_yb.size) ((hh.below B_yb).up B_yb.size) ((hi.below B_yb).up B_yb.size) (by omega)).mono ?_
  rintro e w6 ⟨rfl, hw6⟩
  have B_w6 := ex_trans B_yb hw6
  generalize iced g h l = lv at *
  go_wp2_with fail
  refine (awake_any _).mono ?_
  rintro e x1 ⟨rfl, hx1⟩
  go_wp2
  go_ret
  exact ⟨rfl, ex_trans B_w6 hx1⟩

set_option maxRecDepth 100000 in
set_option maxHeartbeats 6400000 in
theorem BlamesLaw_good (g : Gl) (Ab Ad Ah Ai : Option Addr) (cb cd ch ci : Nat) (h : List Rg) (l : List Ic) (w : World) (hg : GlIn w w.heap.size g Ab Ad) (hh : SlAt w w.heap.size 2 Ah h.length (fR h)) (hi : SlAt w w.heap.size 3 Ai l.length (fC l))  (hth : thinB g.bands.length g.depths.length h.length l.length = true) (heq : iced g h l = 0) (h6 : l.length ≤ 6) :
    Calls Try.prog 9 #[.agg #[.int .i64 g.base, .slice Ab g.bands.length cb, .slice Ad g.depths.length cd, .int .i64 g.blo, .int .i64 g.bhi], .slice Ah h.length ch, .slice Ai l.length ci] w fun e w' => e = .returned (.bool true) ∧ Below w.heap.size w w' := by
  have hb1 := ex_alloc (Below.refl w.heap.size w) (.cells #[.int .i64 g.base, .slice Ab g.bands.length cb, .slice Ad g.depths.length cd, .int .i64 g.blo, .int .i64 g.bhi] 27)
  have q1 : Blk (w.alloc (.cells #[.int .i64 g.base, .slice Ab g.bands.length cb, .slice Ad g.depths.length cd, .int .i64 g.blo, .int .i64 g.bhi] 27)) w.heap.size 27 #[.int .i64 g.base, .slice Ab g.bands.length cb, .slice Ad g.depths.length cd, .int .i64 g.blo, .int .i64 g.bhi] := Blk.new _ _ _
  obtain ⟨hnb, hnd, hnh, hni⟩ := thinB_iff.1 hth
  have HTH := Lib.hid hth
  clear hth
  go_enter Try.func9, Try.ntmps9
  go_wp2_with fail
  refine (Thin_any _ _ _ _ _ _ _ _ _ _ _ _ _ _ _ _).mono ?_
  rintro e w2 ⟨rfl, hb2⟩
  have hB2 := ex_trans hb1 hb2
  rw [HTH.out]
  have p1 := q1.below hb2 q1.lt
  clear q1
  have HIC := Lib.hid heq
  have HK := Lib.hid (ok_of_iced heq)
  have HBD := Lib.hid (iced_bd heq)
  have c1 : decide (l.length > 6) = false := decide_eq_false (by omega)
  have c2 : decide ((6 : Int) < (l.length : Int)) = false := decide_eq_false (by omega)
  have c3 : decide (6 < l.length) = false := decide_eq_false (by omega)
  clear heq
  have a0 : w2.cell? ⟨w.heap.size, 0, none⟩ = some (.int .i64 g.base) := p1.cell 0
  have a1 : w2.cell? ⟨w.heap.size, 1, none⟩ = some (.slice Ab g.bands.length cb) := p1.cell 1
  have a2 : w2.cell? ⟨w.heap.size, 2, none⟩ = some (.slice Ad g.depths.length cd) := p1.cell 2
  have a3 : w2.cell? ⟨w.heap.size, 3, none⟩ = some (.int .i64 g.blo) := p1.cell 3
  have a4 : w2.cell? ⟨w.heap.size, 4, none⟩ = some (.int .i64 g.bhi) := p1.cell 4
  have l1 := p1.lt
  go_wp2_with fail
  refine (icedL_any g _ _ _ _ _ _ _ _ h l _ ((hg.below hB2).up hB2.size) ((hh.below hB2).up hB2.size) ((hi.below hB2).up hB2.size) (by omega)).mono ?_
  rintro e w3 ⟨rfl, hw3⟩
  have B_w3 := ex_trans hB2 hw3
  rw [HIC.out]
  replace p1 := p1.below hw3 l1
  clear a0 a1 a2 a3 a4 l1
  have a0 : w3.cell? ⟨w.heap.size, 0, none⟩ = some (.int .i64 g.base) := p1.cell 0
  have a1 : w3.cell? ⟨w.heap.size, 1, none⟩ = some (.slice Ab g.bands.length cb) := p1.cell 1
  have a2 : w3.cell? ⟨w.heap.size, 2, none⟩ = some (.slice Ad g.depths.length cd) := p1.cell 2
  have a3 : w3.cell? ⟨w.heap.size, 3, none⟩ = some (.int .i64 g.blo) := p1.cell 3
  have a4 : w3.cell? ⟨w.heap.size, 4, none⟩ = some (.int .i64 g.bhi) := p1.cell 4
  have l1 := p1.lt
  go_wp2_with fail
  refine (Glass_any g _ _ _ _ w3 ((hg.below B_w3).up B_w3.size) (by omega) (by omega)).mono ?_
  rintro e ya1 ⟨⟨Ab_ya1, Ad_ya1, cb_ya1, cd_ya1, rfl, hg_ya1⟩, hya1⟩
  have B_ya1 := ex_trans B_w3 hya1
  go_wp2_with fail
  refine (History_any _ _ h ya1 (by omega) ((hh.below B_ya1).up B_ya1.size)).mono ?_
  rintro e ya2 ⟨⟨Ah_ya2, ch_ya2, rfl, _, _, hh_ya2⟩, hya2⟩
  have B_ya2 := ex_trans B_ya1 hya2
  have I_ya2 := ex_trans B_w3 (ex_trans hya1 hya2)
  go_wp2_with fail
  refine (Ices_any _ _ l ya2 (by omega) ((hi.below I_ya2).up I_ya2.size)).mono ?_
  rintro e ya3 ⟨⟨Ai_ya3, ci_ya3, rfl, hc1_ya3, hc2_ya3, hi_ya3⟩, hya3⟩
  have B_ya3 := ex_trans B_ya2 hya3
  have I_ya3 := ex_trans I_ya2 hya3
  go_wp2_with fail
  refine (Fewest_v g _ _ _ _ _ _ _ _ h l _ ((hg_ya1.below (ex_trans hya2 hya3)).up (ex_trans hya2 hya3).size) ((hh_ya2.below hya3).up hya3.size) hi_ya3 HIC.out).mono ?_
  rintro e ya4 ⟨⟨Af1, cf1, fr1, rfl, HF1, sf1⟩, hya4⟩
  have B_ya := ex_trans B_ya3 hya4
  have I_ya := ex_trans I_ya3 hya4
  have X_ya := ex_trans (ex_trans (ex_trans hya1 hya2) hya3) hya4
  clear hg_ya1 hh_ya2 hi_ya3
  replace p1 := p1.below X_ya l1
  clear a0 a1 a2 a3 a4 l1
  have a0 : ya4.cell? ⟨w.heap.size, 0, none⟩ = some (.int .i64 g.base) := p1.cell 0
  have a1 : ya4.cell? ⟨w.heap.size, 1, none⟩ = some (.slice Ab g.bands.length cb) := p1.cell 1
  have a2 : ya4.cell? ⟨w.heap.size, 2, none⟩ = some (.slice Ad g.depths.length cd) := p1.cell 2
  have a3 : ya4.cell? ⟨w.heap.size, 3, none⟩ = some (.int .i64 g.blo) := p1.cell 3
  have a4 : ya4.cell? ⟨w.heap.size, 4, none⟩ = some (.int .i64 g.bhi) := p1.cell 4
  have l1 := p1.lt
  go_wp2_with fail
  refine (Glass_any g _ _ _ _ ya4 ((hg.below B_ya).up B_ya.size) (by omega) (by omega)).mono ?_
  rintro e yb1 ⟨⟨Ab_yb1, Ad_yb1, cb_yb1, cd_yb1, rfl, hg_yb1⟩, hyb1⟩
  have B_yb1 := ex_trans B_ya hyb1
  go_wp2_with fail
  refine (History_any _ _ h yb1 (by omega) ((hh.below B_yb1).up B_yb1.size)).mono ?_
  rintro e yb2 ⟨⟨Ah_yb2, ch_yb2, rfl, _, _, hh_yb2⟩, hyb2⟩
  have B_yb2 := ex_trans B_yb1 hyb2
  have I_yb2 := ex_trans I_ya (ex_trans hyb1 hyb2)
  go_wp2_with fail
  refine (Ices_any _ _ l yb2 (by omega) ((hi.below I_yb2).up I_yb2.size)).mono ?_
  rintro e yb3 ⟨⟨Ai_yb3, ci_yb3, rfl, hc1_yb3, hc2_yb3, hi_yb3⟩, hyb3⟩
  have B_yb3 := ex_trans B_yb2 hyb3
  have I_yb3 := ex_trans I_yb2 hyb3
  go_wp2_with fail
  refine (Blame_v g _ _ _ _ _ _ _ _ h l _ ((hg_yb1.below (ex_trans hyb2 hyb3)).up (ex_trans hyb2 hyb3).size) ((hh_yb2.below hyb3).up hyb3.size) hi_yb3 HIC.out).mono ?_
  rintro e yb4 ⟨⟨kb, bv, rfl, HB1⟩, hyb4⟩
  have B_yb := ex_trans B_yb3 hyb4
  have I_yb := ex_trans I_yb3 hyb4
  have X_yb := ex_trans (ex_trans (ex_trans hyb1 hyb2) hyb3) hyb4
  clear hg_yb1 hh_yb2 hi_yb3
  replace p1 := p1.below X_yb l1
  clear a0 a1 a2 a3 a4 l1
  have a0 : yb4.cell? ⟨w.heap.size, 0, none⟩ = some (.int .i64 g.base) := p1.cell 0
  have a1 : yb4.cell? ⟨w.heap.size, 1, none⟩ = some (.slice Ab g.bands.length cb) := p1.cell 1
  have a2 : yb4.cell? ⟨w.heap.size, 2, none⟩ = some (.slice Ad g.depths.length cd) := p1.cell 2
  have a3 : yb4.cell? ⟨w.heap.size, 3, none⟩ = some (.int .i64 g.blo) := p1.cell 3
  have a4 : yb4.cell? ⟨w.heap.size, 4, none⟩ = some (.int .i64 g.bhi) := p1.cell 4
  have l1 := p1.lt
  go_wp2_with fail
  refine (icedL_any g _ _ _ _ _ _ _ _ h l _ ((hg.below B_yb).up B_yb.size) ((hh.below B_yb).up B_yb.size) ((hi.below B_yb).up B_yb.size) (by omega)).mono ?_
  rintro e w6 ⟨rfl, hw6⟩
  have B_w6 := ex_trans B_yb hw6
  rw [HIC.out]
  clear c1 c2 c3
  have sf6 := (sf1.below (ex_trans X_yb hw6)).up (ex_trans X_yb hw6).size
  clear sf1
  replace p1 := p1.below hw6 l1
  clear a0 a1 a2 a3 a4 l1
  have a0 : w6.cell? ⟨w.heap.size, 0, none⟩ = some (.int .i64 g.base) := p1.cell 0
  have a1 : w6.cell? ⟨w.heap.size, 1, none⟩ = some (.slice Ab g.bands.length cb) := p1.cell 1
  have a2 : w6.cell? ⟨w.heap.size, 2, none⟩ = some (.slice Ad g.depths.length cd) := p1.cell 2
  have a3 : w6.cell? ⟨w.heap.size, 3, none⟩ = some (.int .i64 g.blo) := p1.cell 3
  have a4 : w6.cell? ⟨w.heap.size, 4, none⟩ = some (.int .i64 g.bhi) := p1.cell 4
  have l1 := p1.lt
  go_wp2_with fail
  refine (FewestR_any g _ _ _ _ _ _ _ _ h l w6 ((hg.below B_w6).up B_w6.size) ((hh.below B_w6).up B_w6.size) ((hi.below B_w6).up B_w6.size) HK.out HBD.out h6).mono ?_
  rintro e w7 ⟨⟨Ar, cr, r, rfl, HL, sr⟩, hw7⟩
  have B_w7 := ex_trans B_w6 hw7
  obtain rfl : r = fr1 := least_uniq h6 HL.out (few_least h6 HF1.out)
  have hrl := few_len' HF1.out
  have sf7 := (sf6.below hw7).up hw7.size
  have hself := ints_self' r
  replace p1 := p1.below hw7 l1
  clear a0 a1 a2 a3 a4 l1 HL sf6
  go_wp2_with fail
  refine (ints_any _ _ _ _ r r w7 (by omega) sf7 sr (by omega)).mono ?_
  rintro e w8 ⟨rfl, hw8⟩
  rw [hself]
  have B_w8 := ex_trans B_w7 hw8
  replace p1 := p1.below hw8 p1.lt
  clear hself sf7 sr
  obtain ⟨mN, hmN⟩ : ∃ mN : Nat → Nat, mN = fun k => (ones (agreeB g h l) k).length := ⟨_, rfl⟩
  obtain ⟨lA, hlA⟩ : ∃ lA : Nat → Int, lA = lastA (agreeB g h l) := ⟨_, rfl⟩
  have HM0 : mN 0 = 0 ∧ lA 0 = 0 := by rw [hmN, hlA]; exact ⟨rfl, rfl⟩
  have HMY : Hid (∀ k : Nat, agreeB g h l (fun j => hasB [(k : Int)] (j : Int)) = true → mN (k + 1) = mN k + 1 ∧ lA (k + 1) = (k : Int)) := Lib.hid (fun k hk => by
    rw [hmN, hlA]; simp only [ones, lastA, hk, if_true, List.length_append, List.length_singleton]; exact ⟨trivial, trivial⟩)
  have HMN : Hid (∀ k : Nat, agreeB g h l (fun j => hasB [(k : Int)] (j : Int)) = false → mN (k + 1) = mN k ∧ lA (k + 1) = lA k) := Lib.hid (fun k hk => by
    rw [hmN, hlA]; simp [ones, lastA, hk])
  have HML : ∀ k, mN k ≤ k := fun k => by rw [hmN]; exact ones_len
  have HEND := Lib.hid (blame_end (many := mN l.length) (alone := lA l.length) HF1.out HB1.out (by rw [hmN]) (fun x hx => by rw [hlA]; exact lastA_ones (t := []) hx))
  obtain ⟨hm0, hl0⟩ := HM0
  clear hmN hlA HF1 HB1
  go_wp2_with fail
  refine wp_loop (fun a W => Rel (fun a W => ∃ k : Nat, k ≤ l.length ∧ Below w.heap.size w W ∧ Blk W w.heap.size 27 #[.int .i64 g.base, .slice Ab g.bands.length cb, .slice Ad g.depths.length cd, .int .i64 g.blo, .int .i64 g.bhi] ∧ ∃ u : Nat → Value, a = ⟨List.toArray (u 0 :: .slice Ah h.length ch :: .slice Ai l.length ci :: .pointer (some ⟨w.heap.size, 0, none⟩) :: u 4 :: u 5 :: u 6 :: .slice Af1 r.length cf1 :: .int .i64 0 :: .int .i64 kb :: .int .i64 bv :: .int .i64 0 :: .int .i64 (lA k) :: .int .i64 (mN k : Int) :: .int .i64 (k : Int) :: u 15 :: u 16 :: u 17 :: u 18 :: u 19 :: u 20 :: u 21 :: u 22 :: u 23 :: u 24 :: u 25 :: u 26 :: u 27 :: u 28 :: u 29 :: u 30 :: u 31 :: u 32 :: u 33 :: u 34 :: u 35 :: u 36 :: u 37 :: u 38 :: u 39 :: u 40 :: u 41 :: u 42 :: u 43 :: u 44 :: u 45 :: u 46 :: u 47 :: u 48 :: u 49 :: u 50 :: u 51 :: u 52 :: u 53 :: u 54 :: u 55 :: u 56 :: u 57 :: u 58 :: u 59 :: u 60 :: u 61 :: u 62 :: u 63 :: u 64 :: u 65 :: u 66 :: u 67 :: u 68 :: u 69 :: u 70 :: u 71 :: u 72 :: u 73 :: u 74 :: u 75 :: u 76 :: u 77 :: u 78 :: u 79 :: u 80 :: u 81 :: u 82 :: u 83 :: u 84 :: u 85 :: u 86 :: u 87 :: u 88 :: u 89 :: u 90 :: u 91 :: u 92 :: u 93 :: u 94 :: u 95 :: u 96 :: u 97 :: u 98 :: u 99 :: u 100 :: u 101 :: u 102 :: u 103 :: u 104 :: u 105 :: u 106 :: u 107 :: u 108 :: u 109 :: u 110 :: u 111 :: u 112 :: u 113 :: u 114 :: u 115 :: u 116 :: u 117 :: u 118 :: u 119 :: u 120 :: u 121 :: u 122 :: u 123 :: u 124 :: u 125 :: u 126 :: u 127 :: u 128 :: u 129 :: u 130 :: []), []⟩) a W)
    (fun a _ => l.length - (intOf (a.tmps.getD 14 undef)).toNat) ⟨⟨0, by omega, B_w8, p1, by rw [hm0, hl0]; exact exFrame (by kernel_rfl)⟩⟩ ?_
  clear p1
  rintro a wr ⟨⟨k, hk, hbl, p1, u, rfl⟩⟩
  by_cases hlt : k < l.length
  · have hmk := HML k
    have a0 : wr.cell? ⟨w.heap.size, 0, none⟩ = some (.int .i64 g.base) := p1.cell 0
    have a1 : wr.cell? ⟨w.heap.size, 1, none⟩ = some (.slice Ab g.bands.length cb) := p1.cell 1
    have a2 : wr.cell? ⟨w.heap.size, 2, none⟩ = some (.slice Ad g.depths.length cd) := p1.cell 2
    have a3 : wr.cell? ⟨w.heap.size, 3, none⟩ = some (.int .i64 g.blo) := p1.cell 3
    have a4 : wr.cell? ⟨w.heap.size, 4, none⟩ = some (.int .i64 g.bhi) := p1.cell 4
    have l1 := p1.lt
    have hb1 := ex_alloc hbl (.cells #[.int .i64 (k : Int)] 3)
    have so : SlAt (wr.alloc (.cells #[.int .i64 (k : Int)] 3)) (wr.alloc (.cells #[.int .i64 (k : Int)] 3)).heap.size 1 (some ⟨wr.heap.size, 0, none⟩) [(k : Int)].length (fI [(k : Int)]) := fun _ => ⟨wr.heap.size, 0, rfl, by simp, fun i j hi hj => by
      obtain rfl : i = 0 := by simpa using hi
      obtain rfl : j = 0 := by omega
      exact (Blk.new _ _ _ : Blk (wr.alloc (.cells #[.int .i64 (k : Int)] 3)) wr.heap.size 3 #[.int .i64 (k : Int)]).cell 0⟩
    have w1 : IntKind.i64.wrap ((mN k : Int) + 1) = (mN k : Int) + 1 := IntWalk.i64_in _ (by omega)
    go_wp2_with fail
    refine (AgreeR_any g _ _ _ _ _ _ _ _ _ _ h l [(k : Int)] _ ((hg.below hb1).up hb1.size) ((hh.below hb1).up hb1.size) ((hi.below hb1).up hb1.size) so HK.out HBD.out (by omega) (by simp)).mono ?_
    rintro e wh ⟨rfl, hwh⟩
    have hB := ex_trans hb1 hwh
    have p2 := (p1.alloc (.cells #[.int .i64 (k : Int)] 3)).below hwh (p1.alloc (.cells #[.int .i64 (k : Int)] 3)).lt
    clear a0 a1 a2 a3 a4 l1 so
    cases hA : agreeB g h l (fun j => hasB [(k : Int)] (j : Int))
    · obtain ⟨m1, m2⟩ := HMN.out k hA
      have m1' : ((mN (k + 1) : Nat) : Int) = (mN k : Int) := by rw [m1]
      clear hA
      go_wp2_with fail
      refine ⟨⟨⟨k + 1, by omega, hB, p2, by rw [m1', m2]; exact exFrame (by kernel_rfl)⟩⟩, ?_⟩
      show l.length - (intOf (.int .i64 ((k : Int) + 1))).toNat < l.length - (intOf (.int .i64 (k : Int))).toNat
      simp [intOf]
      omega
    · obtain ⟨m1, m2⟩ := HMY.out k hA
      have m1' : ((mN (k + 1) : Nat) : Int) = (mN k : Int) + 1 := by rw [m1]; omega
      clear hA
      go_wp2_with fail
      refine ⟨⟨⟨k + 1, by omega, hB, p2, by rw [m1', m2]; exact exFrame (by kernel_rfl)⟩⟩, ?_⟩
      show l.length - (intOf (.int .i64 ((k : Int) + 1))).toNat < l.length - (intOf (.int .i64 (k : Int))).toNat
      simp [intOf]
      omega
  · have hkE : k = l.length := by omega
    subst hkE
    have hmk := HML l.length
    clear hm0 hl0
    obtain ⟨m, hm⟩ : ∃ m, mN l.length = m := ⟨_, rfl⟩
    rw [hm] at HEND hmk ⊢
    generalize lA l.length = al at *
    clear hm HML
    rcases HEND.out with ⟨h1, rfl, rfl⟩ | ⟨h1, h2, rfl, rfl⟩
    · by_cases h2 : r.length = 0
      · have e1 : (r.length == 0) = true := by simp [h2]
        have e2 : ((r.length : Int) == 0) = true := by simp [h2]
        have e3 : (r == []) = true := by rw [List.eq_nil_of_length_eq_zero h2]; rfl
        clear h1 HEND
        go_wp2_with fail
        refine (awake_any _).mono ?_
        rintro e x1 ⟨rfl, hx1⟩
        go_wp2
        go_ret
        exact ⟨rfl, ex_trans hbl hx1⟩
      · have h3 := h1.resolve_left h2
        have e1 : (r.length == 0) = false := by simp [h2]
        have e2 : ((r.length : Int) == 0) = false := by rw [beq_eq_false_iff_ne]; omega
        have e4 : (m != 1) = true := by simp [h3]
        have e5 : ((m : Int) != 1) = true := by simp; omega
        have e6 : (m == 1) = false := by simp [h3]
        have e7 : ((m : Int) == 1) = false := by rw [beq_eq_false_iff_ne]; omega
        clear h1 HEND
        go_wp2_with fail
        refine (awake_any _).mono ?_
        rintro e x1 ⟨rfl, hx1⟩
        go_wp2
        go_ret
        exact ⟨rfl, ex_trans hbl hx1⟩
    · have e1 : (r.length == 0) = false := by simp [h1]
      have e2 : ((r.length : Int) == 0) = false := by rw [beq_eq_false_iff_ne]; omega
      subst h2
      clear HEND
      go_wp2_with fail
      refine (awake_any _).mono ?_
      rintro e x1 ⟨rfl, hx1⟩
      go_wp2
      go_ret
      exact ⟨rfl, ex_trans hbl hx1⟩

set_option maxRecDepth 100000 in
set_option maxHeartbeats 6400000 in
theorem BlamesLaw_any (g : Gl) (Ab Ad Ah Ai : Option Addr) (cb cd ch ci : Nat) (h : List Rg) (l : List Ic) (w : World) (hg : GlIn w w.heap.size g Ab Ad) (hh : SlAt w w.heap.size 2 Ah h.length (fR h)) (hi : SlAt w w.heap.size 3 Ai l.length (fC l)) :
    Calls Try.prog 9 #[.agg #[.int .i64 g.base, .slice Ab g.bands.length cb, .slice Ad g.depths.length cd, .int .i64 g.blo, .int .i64 g.bhi], .slice Ah h.length ch, .slice Ai l.length ci] w fun e w' => e = .returned (.bool true) ∧ Below w.heap.size w w' := by
  cases hth : thinB g.bands.length g.depths.length h.length l.length
  · exact Blames_far g Ab Ad Ah Ai cb cd ch ci h l w hg hh hi hth
  · by_cases heq : iced g h l = 0
    · by_cases h6 : l.length ≤ 6
      · exact BlamesLaw_good g Ab Ad Ah Ai cb cd ch ci h l w hg hh hi hth heq h6
      · exact Blames_many g Ab Ad Ah Ai cb cd ch ci h l w hg hh hi hth heq (by omega)
    · exact BlamesLaw_bad g Ab Ad Ah Ai cb cd ch ci h l w hg hh hi hth heq
end Go.Proofs.Ytlgmeofpkfliaaa
end

section
namespace Go.Proofs.Ytlgmeofpkfliaaa.glassBlames
open Go.ChangeShapes Go.WideShapes Go.ChangeAt Go.RowKit
set_option linter.unusedVariables false

set_option maxRecDepth 100000 in
theorem lifted (os : Os) (started : os.Started) (H : Type) (enc : TypeId × Value → H) :
    ReturnsInHanded {} Try.checked os 9 .any (Rows.glassBlamesSpec.pre6 enc Try.prog Try.f9 Rows.glassBlamesRow.domain false) (Rows.glassBlamesSpec.post enc Try.prog Try.f9 false true false false) := by
  refine returnsInHanded_of_change (C := Try.checked) own started (by kernel_rfl) Try.func9
    (ChangeSpec.witness6 (enc := enc) (C := Try.checked) false ⟨#[], #[.agg #[.int .i64 0, .slice none 0 0, .slice none 0 0, .int .i64 0, .int .i64 0], .slice none 0 0, .slice none 0 0], []⟩ 8 (by kernel_rfl) (by kernel_rfl) (by kernel_rfl) (by kernel_rfl)) ?_
  intro W base args ds gs before hval0 hW hcnd _
  have hval : ∀ (j : Nat) t v, Try.f9.params[j]? = some t → args[j]? = some v → Value.okWide Try.prog W .any base t v := hval0
  have hW0 := hW
  obtain ⟨p, q, hA0, hV, rfl, hfz, hnd⟩ := hW
  have hA : DataW.TrodAll enc Try.prog W 0 (fun _ => true) true Try.f9.params.toList args.toList ds p := hA0
  rw [Try.params9] at hA hval
  obtain ⟨v0, vs0, d0, ds0, p0, q0, ea0, ed0, ep0, h0, hA0⟩ := trodAll_cons hA
  obtain ⟨v1, vs1, d1, ds1, p1, q1, ea1, ed1, ep1, h1, hA1⟩ := trodAll_cons hA0
  obtain ⟨v2, vs2, d2, ds2, p2, q2, ea2, ed2, ep2, h2, hA2⟩ := trodAll_cons hA1
  obtain ⟨ea, ed, ep⟩ := trodAll_nil hA2
  have eargs : args = #[v0, v1, v2] := by rw [← Array.toArray_toList (xs := args), ea0, ea1, ea2, ea]
  have eds : ds = [d0, d1, d2] := by rw [ed0, ed1, ed2, ed]
  subst eargs eds
  obtain ⟨rfl, rfl⟩ := trodVars_none hV
  obtain ⟨g, Ab, Ad, cb, cd, rfl, _, hg⟩ := open_glass (hval 0 _ _ rfl rfl) h0
  obtain ⟨Ah, h, ch, rfl, _, _, hh⟩ := open_rgs (hval 1 _ _ rfl rfl) h1
  obtain ⟨Ai, l, ci, rfl, hci1, hci2, hi⟩ := open_ics (hval 2 _ _ rfl rfl) h2
  refine (BlamesLaw_any g Ab Ad Ah Ai cb cd ch ci h l W hg hh hi).mono fun e W' he => ?_
  obtain ⟨rfl, hb⟩ := he
  exact ⟨_, rfl, post_law rfl hW0 rfl rfl ⟨⟨by kernel_rfl, of_decide_eq_true (by kernel_rfl)⟩, ⟨by kernel_rfl, of_decide_eq_true (by kernel_rfl)⟩, ⟨by kernel_rfl, of_decide_eq_true (by kernel_rfl)⟩, trivial⟩ hb⟩

theorem over : Rows.glassBlamesRow.holds Try.pinned (OpenSpec.ofChange Rows.glassBlamesSpec) :=
  OpenClaim.holds_of_wide 9 Try.f9 rfl rfl rfl rfl rfl rfl rfl ⟨rfl, rfl, rfl, rfl, rfl⟩ rfl rfl rfl rfl rfl (by kernel_rfl) Try.func9 (by kernel_rfl)
    (of_decide_eq_true (by kernel_rfl)) (by unfold Func.isWrapper; first | (rw [if_pos (by decide +kernel)]; kernel_rfl) | (rw [if_neg (by decide +kernel)]; exact ⟨rfl, rfl⟩))
    (fun os started H enc _ => lifted os started H enc)

/-- the statement. -/
theorem proved : Rows.GlassBlamesSaid :=
  over
#print axioms proved
end Go.Proofs.Ytlgmeofpkfliaaa.glassBlames
end
