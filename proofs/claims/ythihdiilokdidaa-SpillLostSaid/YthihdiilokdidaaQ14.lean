/- Spill: Fewest and Blame (plain): the lists that are tried. -/
import Derived.Test.YthihdiilokdidaaQ12
set_option linter.unusedVariables false
set_option linter.unusedSimpArgs false
set_option linter.unusedSectionVars false
section
namespace Go.Proofs.Ythihdiilokdidaa

/-- how many of f numbers from n on are left out. -/
def cnt (O : Nat → Bool) (n : Nat) : Nat → Nat
  | 0 => 0
  | f + 1 => (if O n then 1 else 0) + cnt O (n + 1) f
theorem cnt_zero {O : Nat → Bool} : ∀ {f n : Nat}, cnt O n f = 0 → ∀ j, n ≤ j → j < n + f → O j = false
  | 0, n, _, j, h1, h2 => by omega
  | f + 1, n, h, j, h1, h2 => by
    rw [cnt] at h
    cases ho : O n
    · rw [ho] at h
      rcases Nat.eq_or_lt_of_le h1 with he | hlt
      · subst he; exact ho
      · exact cnt_zero (f := f) (n := n + 1) (by simpa using h) j hlt (by omega)
    · rw [ho] at h; simp at h
theorem setO_self {o : Nat → Bool} {n : Nat} : setO o n n = true := by simp [setO]
theorem setO_ne {o : Nat → Bool} {n j : Nat} (h : j ≠ n) : setO o n j = o j := by simp [setO, h]
/-- whatever numbers, so many, may be left out: they are among those that are tried. -/
theorem pick_ne {A : (Nat → Bool) → Bool} {N many : Nat} {O : Nat → Bool} (hA : ∀ o, (∀ j, j < N → o j = O j) → A o = true) : ∀ (f n : Nat) (lv : List Int) (o : Nat → Bool), n + f = N → (∀ j, j < n → o j = O j) → (∀ j, n ≤ j → o j = false) → lv.length + cnt O n f = many → pickL A many f lv o n ≠ [] := by
  intro f
  induction f with
  | zero =>
    intro n lv o h1 h2 h3 h4
    unfold pickL
    rw [cnt] at h4
    rw [if_pos (by omega), if_pos (hA o (fun j hj => h2 j (by omega)))]
    simp
  | succ f ih =>
    intro n lv o h1 h2 h3 h4
    by_cases hm : lv.length = many
    · unfold pickL
      have hz := cnt_zero (show cnt O n (f + 1) = 0 by omega)
      rw [if_pos hm, if_pos (hA o (fun j hj => by
        rcases Nat.lt_or_ge j n with h | h
        · exact h2 j h
        · rw [h3 j h, hz j h (by omega)]))]
      simp
    · unfold pickL
      rw [if_neg hm, loopL_succ]
      rw [cnt] at h4
      cases ho : O n
      · rw [ho] at h4
        have := ih (n + 1) lv o (by omega) (fun j hj => by
          rcases Nat.lt_succ_iff_lt_or_eq.1 hj with h | h
          · exact h2 j h
          · subst h; rw [h3 j (Nat.le_refl _), ho]) (fun j hj => h3 j (by omega)) (by simpa using h4)
        unfold pickL at this
        rw [if_neg hm] at this
        simp [this]
      · rw [ho] at h4
        have := ih (n + 1) (lv ++ [(n : Int)]) (setO o n) (by omega) (fun j hj => by
          rcases Nat.lt_succ_iff_lt_or_eq.1 hj with h | h
          · rw [setO_ne (by omega)]; exact h2 j h
          · subst h; rw [setO_self, ho]) (fun j hj => by rw [setO_ne (by omega)]; exact h3 j (by omega)) (by simp at h4 ⊢; omega)
        simp [this]
/-- those that are told may be left out. -/
theorem pick_mem {A : (Nat → Bool) → Bool} {many : Nat} {L : List Int} : ∀ (f n : Nat) (lv : List Int) (o : Nat → Bool), (∀ j : Nat, o j = true ↔ (j : Int) ∈ lv) → L ∈ pickL A many f lv o n → ∃ o', A o' = true ∧ (∀ j : Nat, o' j = true ↔ (j : Int) ∈ L) := by
  have hset : ∀ (n : Nat) (lv : List Int) (o : Nat → Bool), (∀ j : Nat, o j = true ↔ (j : Int) ∈ lv) → ∀ j : Nat, setO o n j = true ↔ (j : Int) ∈ lv ++ [(n : Int)] := fun n lv o h j => by
    by_cases hj : j = n
    · subst hj; simp [setO_self]
    · rw [setO_ne hj, h j]; simp; omega
  intro f
  induction f with
  | zero =>
    intro n lv o h hL
    unfold pickL at hL
    split at hL
    · split at hL
      · rename_i ha
        rw [List.mem_singleton] at hL
        subst hL; exact ⟨o, ha, h⟩
      · cases hL
    · simp [loopL] at hL
  | succ f ih =>
    intro n lv o h hL
    unfold pickL at hL
    split at hL
    · split at hL
      · rename_i ha
        rw [List.mem_singleton] at hL
        subst hL; exact ⟨o, ha, h⟩
      · cases hL
    · rename_i hm
      rw [loopL_succ, List.mem_append] at hL
      rcases hL with hL | hL
      · exact ih (n + 1) _ _ (hset n lv o h) hL
      · exact ih (n + 1) lv o h (by unfold pickL; rw [if_neg hm]; exact hL)

theorem cnt_congr {O O' : Nat → Bool} : ∀ {f n : Nat}, (∀ j, n ≤ j → j < n + f → O j = O' j) → cnt O n f = cnt O' n f
  | 0, _, _ => rfl
  | f + 1, n, h => by rw [cnt, cnt, h n (Nat.le_refl _) (by omega), cnt_congr (f := f) (n := n + 1) (fun j h1 h2 => h j (by omega) (by omega))]
/-- those that are told: some numbers more, one greater than the other. -/
theorem pick_up {A : (Nat → Bool) → Bool} {many : Nat} {L : List Int} : ∀ (f n : Nat) (lv : List Int) (o : Nat → Bool), L ∈ pickL A many f lv o n → ∃ m : List Int, L = lv ++ m ∧ m.Pairwise (· < ·) ∧ ∀ x ∈ m, (n : Int) ≤ x ∧ x < (n : Int) + f := by
  intro f
  induction f with
  | zero =>
    intro n lv o hL
    unfold pickL at hL
    split at hL
    · split at hL
      · rw [List.mem_singleton] at hL
        exact ⟨[], by simp [hL], List.Pairwise.nil, fun x hx => by cases hx⟩
      · cases hL
    · simp [loopL] at hL
  | succ f ih =>
    intro n lv o hL
    unfold pickL at hL
    split at hL
    · split at hL
      · rw [List.mem_singleton] at hL
        exact ⟨[], by simp [hL], List.Pairwise.nil, fun x hx => by cases hx⟩
      · cases hL
    · rename_i hm
      rw [loopL_succ, List.mem_append] at hL
      rcases hL with hL | hL
      · obtain ⟨m, e, h1, h2⟩ := ih (n + 1) _ _ hL
        refine ⟨(n : Int) :: m, by rw [e]; simp, List.pairwise_cons.2 ⟨fun x hx => by have := h2 x hx; omega, h1⟩, fun x hx => ?_⟩
        rcases List.mem_cons.1 hx with rfl | hx
        · omega
        · have := h2 x hx; omega
      · obtain ⟨m, e, h1, h2⟩ := ih (n + 1) lv o (by unfold pickL; rw [if_neg hm]; exact hL)
        exact ⟨m, e, h1, fun x hx => by have := h2 x hx; omega⟩
/-- the numbers of a list, as those that are left out. -/
def outL (L : List Int) : Nat → Bool := fun j => decide ((j : Int) ∈ L)
theorem good_off {w : Wo} {o o' : Nat → Bool} (h : ∀ j, j < w.wgs.length → o j = o' j) : Good w o ↔ Good w o' := by
  have key : ∀ o o' : Nat → Bool, (∀ j, j < w.wgs.length → o j = o' j) → Good w o → Good w o' := fun o o' h ⟨F, V, G, hg⟩ => ⟨F, V, G, hg.tru, hg.can, fun i hi ho => hg.agr i hi (by rw [h i hi]; exact ho)⟩
  exact ⟨key o o' h, key o' o (fun j hj => (h j hj).symm)⟩
/-- a list that is told: it may be left out, and goes up. -/
structure Told (s : Ws) (L : List Int) : Prop where
  good : Good s.wo (outL L)
  up : L.Pairwise (· < ·)
  bd : ∀ x ∈ L, 0 ≤ x ∧ x < (s.wgs.length : Int)
theorem listsL_told {s : Ws} {many : Nat} {L : List Int} (h : L ∈ listsL s many) : Told s L ∧ L.length = many := by
  unfold listsL at h
  obtain ⟨m, e, h1, h2⟩ := pick_up _ _ _ _ h
  obtain ⟨o', ha, ho⟩ := pick_mem s.wgs.length 0 [] off0 (fun j => by simp [off0]) h
  simp only [List.nil_append] at e
  subst e
  refine ⟨⟨?_, h1, fun x hx => by have := h2 x hx; omega⟩, listsL_mem (s := s) (by unfold listsL; exact h)⟩
  refine (good_off (fun j _ => ?_)).1 (truB_iff.1 ha)
  unfold outL
  cases hj : o' j
  · symm; rw [decide_eq_false_iff_not]
    intro hm; rw [(ho j).2 hm] at hj; cases hj
  · symm; rw [decide_eq_true_eq]; exact (ho j).1 hj
theorem listsL_ne {s : Ws} {O : Nat → Bool} (h : Good s.wo O) : listsL s (cnt O 0 s.wgs.length) ≠ [] := by
  unfold listsL
  refine pick_ne (N := s.wgs.length) (O := O) (fun o ho => truB_iff.2 ((good_off (fun j hj => ho j hj)).2 h)) s.wgs.length 0 [] off0 (by omega) (fun j hj => by omega) (fun _ _ => rfl) (by simp)
theorem cnt_le (O : Nat → Bool) : ∀ f n, cnt O n f ≤ f
  | 0, _ => Nat.le_refl _
  | f + 1, n => by
    have := cnt_le O f (n + 1)
    rw [cnt]; split <;> omega
theorem fewK_le {s : Ws} {O : Nat → Bool} (h : Good s.wo O) : 0 ≤ fewK s ∧ fewK s ≤ (cnt O 0 s.wgs.length : Nat) := by
  have hc := cnt_le O s.wgs.length 0
  have hne := listsL_ne h
  have hpos : decide (0 < (listsL s (cnt O 0 s.wgs.length)).length) = true := by
    rw [decide_eq_true_eq]; exact List.length_pos_iff.2 hne
  have key : ∀ n k : Nat, k < n → (fun k => decide (0 < (listsL s k).length)) k = true → 0 ≤ firstOf (fun k => decide (0 < (listsL s k).length)) n ∧ firstOf (fun k => decide (0 < (listsL s k).length)) n ≤ k := by
    intro n
    induction n with
    | zero => intro k hk; omega
    | succ n ih =>
      intro k hk hf
      rw [firstOf]
      rcases Nat.lt_succ_iff_lt_or_eq.1 hk with hlt | rfl
      · have := ih k hlt hf
        rw [if_neg (by omega)]; exact this
      · by_cases hn : firstOf (fun k => decide (0 < (listsL s k).length)) k < 0
        · rw [if_pos hn, if_pos hf]; omega
        · rw [if_neg hn]
          refine ⟨by omega, ?_⟩
          have hb : ∀ n, firstOf (fun k => decide (0 < (listsL s k).length)) n < (n : Int) := by
            intro n
            induction n with
            | zero => simp [firstOf]
            | succ n ih => rw [firstOf]; split <;> (try split) <;> omega
          have := hb k; omega
  exact key _ _ (by omega) hpos
theorem firstOf_hit {f : Nat → Bool} : ∀ {n : Nat}, 0 ≤ firstOf f n → f (firstOf f n).toNat = true ∧ (firstOf f n).toNat < n
  | 0, h => by simp [firstOf] at h
  | n + 1, h => by
    rw [firstOf] at h ⊢
    by_cases hn : firstOf f n < 0
    · rw [if_pos hn] at h ⊢
      by_cases hf : f n = true
      · rw [if_pos hf]; simp [hf]
      · rw [if_neg hf] at h; omega
    · rw [if_neg hn] at h ⊢
      have := firstOf_hit (f := f) (n := n) (by omega)
      exact ⟨this.1, by omega⟩
theorem firstOf_min {f : Nat → Bool} {k : Nat} : ∀ {n : Nat}, k < n → f k = true → 0 ≤ firstOf f n ∧ firstOf f n ≤ k
  | 0, hk, _ => by omega
  | n + 1, hk, hf => by
    rw [firstOf]
    rcases Nat.lt_succ_iff_lt_or_eq.1 hk with hlt | rfl
    · have := firstOf_min (n := n) hlt hf
      rw [if_neg (by omega)]; exact this
    · by_cases hn : firstOf f k < 0
      · rw [if_pos hn, if_pos hf]; omega
      · rw [if_neg hn]
        have := (firstOf_hit (f := f) (n := k) (by omega)).2
        omega
theorem headD_mem {α : Type} {l : List α} (z : α) (h : l ≠ []) : l.headD z ∈ l := by cases l with
  | nil => exact absurd rfl h
  | cons a l => simp
/-- what Fewest tells. -/
structure FwIs (s : Ws) : Prop where
  told : Told s (fwL s)
  min : ∀ O, Good s.wo O → (fwL s).length ≤ cnt O 0 s.wgs.length
theorem fw_ok {s : Ws} (hc : ckWs s = 0) (h : fwE s = 0) : FwIs s := by
  have hk : 0 ≤ fewK s := by
    unfold fwE at h
    rw [if_pos hc] at h
    by_cases hk : 0 ≤ fewK s
    · exact hk
    · rw [if_neg hk] at h; cases h
  have hh := (firstOf_hit (f := fun k => decide (0 < (listsL s k).length)) (n := s.wgs.length + 1) hk).1
  have hh' : 0 < (listsL s (fewK s).toNat).length := of_decide_eq_true hh
  have hm : fwL s ∈ listsL s (fewK s).toNat := by
    unfold fwL
    rw [if_pos h]
    exact headD_mem _ (List.length_pos_iff.1 hh')
  obtain ⟨ht, hl⟩ := listsL_told hm
  refine ⟨ht, fun O hO => ?_⟩
  have := fewK_le hO
  omega
theorem fw_yes {s : Ws} {O : Nat → Bool} (hc : ckWs s = 0) (h : Good s.wo O) : fwE s = 0 := by
  unfold fwE
  rw [if_pos hc, if_pos (fewK_le h).1]
/-- a list that goes up, of numbers below n: so many are left out. -/
theorem cnt_up : ∀ (f n : Nat) (L : List Int), L.Pairwise (· < ·) → (∀ x ∈ L, (n : Int) ≤ x ∧ x < (n : Int) + f) → cnt (outL L) n f = L.length
  | 0, n, L, _, h => by
    cases L with
    | nil => rfl
    | cons x L => have := h x (by simp); omega
  | f + 1, n, L, hp, h => by
    rw [cnt]
    by_cases hm : (n : Int) ∈ L
    · rw [if_pos (by unfold outL; exact decide_eq_true hm)]
      cases L with
      | nil => cases hm
      | cons x L =>
        have hp := List.pairwise_cons.1 hp
        have hx : x = n := by
          rcases List.mem_cons.1 hm with e | e
          · exact e.symm
          · have := hp.1 _ e; have := h x (by simp); omega
        subst hx
        have ih := cnt_up f (n + 1) L hp.2 (fun y hy => by have := hp.1 y hy; have := h y (by simp [hy]); omega)
        have hc : cnt (outL ((n : Int) :: L)) (n + 1) f = cnt (outL L) (n + 1) f := by
          refine cnt_congr ?_
          intro j hj _
          unfold outL
          rw [decide_eq_decide]
          simp only [List.mem_cons]
          constructor
          · rintro (e | e)
            · omega
            · exact e
          · exact .inr
        rw [hc, ih]; simp; omega
    · rw [if_neg (by unfold outL; simpa using hm)]
      rw [cnt_up f (n + 1) L hp (fun y hy => by
        have := h y hy
        have hne : y ≠ n := fun e => hm (e ▸ hy)
        omega)]
      omega
theorem lt_of_nil {s : Ws} (h : ¬ Good s.wo off0) : listsL s 0 = [] := by
  cases hl : listsL s 0 with
  | nil => rfl
  | cons L M =>
    obtain ⟨ht, h0⟩ := listsL_told (s := s) (many := 0) (L := L) (by rw [hl]; simp)
    rw [List.length_eq_zero_iff.1 h0] at ht
    exact absurd ((good_off (fun j _ => by simp [outL, off0])).1 ht.good) h
/-- what Blame tells is what Fewest does. -/
theorem bm_ok {s : Ws} (hc : ckWs s = 0) (h : bmE s = 0) : fwE s = 0 ∧ fwL s = [bmV s] := by
  have hv : bmV s = ((listsL s 1).headD []).headD 0 := by unfold bmV; rw [if_pos h]
  unfold bmE at h
  rw [if_pos hc] at h
  by_cases hb : (listsL s 1).length = 1 ∧ agrO s off0 = false
  · obtain ⟨h1, h2⟩ := hb
    have hng : ¬ Good s.wo off0 := fun hg => by rw [show agrO s off0 = true from truB_iff.2 hg] at h2; cases h2
    have hm1 : (listsL s 1).headD [] ∈ listsL s 1 := headD_mem _ (fun e => by rw [e] at h1; cases h1)
    obtain ⟨ht, hl⟩ := listsL_told hm1
    have hk := firstOf_min (f := fun k => decide (0 < (listsL s k).length)) (k := 1) (n := s.wgs.length + 1) (by
      cases hL : (listsL s 1).headD [] with
      | nil => rw [hL] at hl; cases hl
      | cons x M => have := ht.bd x (by rw [hL]; simp); omega) (by rw [decide_eq_true_eq]; omega)
    have hk0 : fewK s ≠ 0 := fun e => by
      have hh := (firstOf_hit (f := fun k => decide (0 < (listsL s k).length)) (n := s.wgs.length + 1) hk.1).1
      rw [show firstOf (fun k => decide (0 < (listsL s k).length)) (s.wgs.length + 1) = 0 from e] at hh
      have : 0 < (listsL s 0).length := of_decide_eq_true hh
      rw [lt_of_nil hng] at this
      cases this
    have hk1 : fewK s = 1 := by
      have : 0 ≤ fewK s ∧ fewK s ≤ 1 := hk
      omega
    have hf : fwE s = 0 := by unfold fwE; rw [if_pos hc, hk1]; rfl
    refine ⟨hf, ?_⟩
    unfold fwL
    rw [if_pos hf, hk1, hv]
    show (listsL s 1).headD [] = _
    cases hL : (listsL s 1).headD [] with
    | nil => rw [hL] at hl; cases hl
    | cons x M =>
      rw [hL] at hl
      cases M with
      | nil => rfl
      | cons y M => simp at hl
  · rw [if_neg hb] at h; cases h
theorem bm_cases {s : Ws} (hc : ckWs s = 0) : bmE s = 0 ∨ bmE s = 7 := by
  unfold bmE
  rw [if_pos hc]
  split
  · exact .inl rfl
  · exact .inr rfl
end Go.Proofs.Ythihdiilokdidaa
end
