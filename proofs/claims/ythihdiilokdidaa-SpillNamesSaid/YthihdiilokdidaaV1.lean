/- Grams in pipes (plain): sums over pipes, and what a cut tells. · Works as pipes (plain): a truth is what goes through the pipes. · Teams (plain): how few apprentices do some hours. · Nets (plain): the arcs of a net's nodes, by its edges; a way through it. · Pushing grams through a net (plain), and the numbers of spots. · Weighings, and what the stocks can be (plain). -/
import Derived.Test.YthihdiilokdidaaProg
import Derived.Test.YthihdiilokdidaaV0
set_option linter.unusedVariables false
set_option linter.unusedSimpArgs false
set_option linter.unusedSectionVars false
section
namespace Go.Proofs.Ythihdiilokdidaa

def esum {α : Type} (g : α → Int) : List α → Int
  | [] => 0
  | e :: l => g e + esum g l
section
variable {α β : Type}
theorem esum_app (g : α → Int) : ∀ (l m : List α), esum g (l ++ m) = esum g l + esum g m
  | [], m => by simp [esum]
  | e :: l, m => by simp only [List.cons_append, esum, esum_app g l m]; omega
theorem esum_congr {g h : α → Int} : ∀ {l : List α}, (∀ e ∈ l, g e = h e) → esum g l = esum h l
  | [], _ => rfl
  | e :: l, k => by rw [esum, esum, k e (by simp), esum_congr (fun x hx => k x (by simp [hx]))]
theorem esum_add (g h : α → Int) : ∀ (l : List α), esum (fun e => g e + h e) l = esum g l + esum h l
  | [] => rfl
  | e :: l => by simp only [esum, esum_add g h l]; omega
theorem esum_sub (g h : α → Int) : ∀ (l : List α), esum (fun e => g e - h e) l = esum g l - esum h l
  | [] => rfl
  | e :: l => by simp only [esum, esum_sub g h l]; omega
theorem esum_zero : ∀ (l : List α), esum (fun _ => 0) l = 0
  | [] => rfl
  | e :: l => by simp only [esum, esum_zero l]; omega
theorem esum_le {g h : α → Int} : ∀ {l : List α}, (∀ e ∈ l, g e ≤ h e) → esum g l ≤ esum h l
  | [], _ => Int.le_refl _
  | e :: l, k => by
    have h1 := k e (by simp)
    have h2 := esum_le (l := l) (fun x hx => k x (by simp [hx]))
    simp only [esum]; omega
theorem esum_nonneg {g : α → Int} {l : List α} (h : ∀ e ∈ l, 0 ≤ g e) : 0 ≤ esum g l := by
  have := esum_le (g := fun _ => 0) h
  rwa [esum_zero] at this
theorem esum_tight {g h : α → Int} : ∀ {l : List α}, (∀ e ∈ l, g e ≤ h e) → esum h l ≤ esum g l → ∀ e ∈ l, g e = h e
  | [], _, _, e, he => by cases he
  | x :: l, k, hs, e, he => by
    have h1 := k x (by simp)
    have h2 := esum_le (l := l) (fun y hy => k y (by simp [hy]))
    simp only [esum] at hs
    rcases List.mem_cons.1 he with rfl | he
    · omega
    · exact esum_tight (l := l) (fun y hy => k y (by simp [hy])) (by omega) e he
theorem esum_map (g : β → Int) (f : α → β) : ∀ (l : List α), esum g (l.map f) = esum (fun e => g (f e)) l
  | [] => rfl
  | e :: l => by simp only [List.map_cons, esum, esum_map g f l]
theorem esum_set (g : α → Int) : ∀ {l : List α} {k : Nat} (hk : k < l.length) (e : α), esum g (l.set k e) = esum g l + (g e - g l[k])
  | x :: l, 0, _, e => by simp only [List.set_cons_zero, esum, List.getElem_cons_zero]; omega
  | x :: l, k + 1, hk, e => by
    have := esum_set g (l := l) (k := k) (by simpa using hk) e
    simp only [List.set_cons_succ, esum, List.getElem_cons_succ]; omega
theorem esum_comm (g : α → β → Int) (l : List α) : ∀ (m : List β), esum (fun a => esum (fun b => g a b) m) l = esum (fun b => esum (fun a => g a b) l) m
  | [] => by simp only [esum]; exact esum_zero l
  | b :: m => by
    simp only [esum]
    rw [esum_add, esum_comm g l m]
theorem esum_neg (g : α → Int) : ∀ (l : List α), esum (fun e => - g e) l = - esum g l
  | [] => rfl
  | e :: l => by simp only [esum, esum_neg g l]; omega
theorem esum_mem {g : α → Int} {l : List α} (h : ∀ e ∈ l, 0 ≤ g e) {e : α} (he : e ∈ l) : g e ≤ esum g l := by
  induction l with
  | nil => cases he
  | cons x l ih =>
    have h2 := esum_nonneg (l := l) (fun y hy => h y (by simp [hy]))
    have h1 := h x (by simp)
    simp only [esum]
    rcases List.mem_cons.1 he with rfl | he
    · omega
    · have := ih (fun y hy => h y (by simp [hy])) he; omega
theorem esum_one (n x : Nat) (c : Int) : esum (fun y => if x = y then c else 0) (List.range n) = if x < n then c else 0 := by
  induction n with
  | zero => simp [esum]
  | succ n ih =>
    rw [List.range_succ, esum_app, ih]
    simp only [esum]
    by_cases h : x = n
    · subst h; simp
    · rw [if_neg h]
      by_cases h2 : x < n
      · rw [if_pos h2, if_pos (by omega)]; omega
      · rw [if_neg h2, if_neg (by omega)]; omega
end

structure Pp where
  u : Nat
  v : Nat
  lo : Int
  hi : Int
structure Ed where
  u : Nat
  v : Nat
  cap : Int
  fl : Int
def inn (u v : Nat) (c : Int) (x : Nat) : Int := (if v = x then c else 0) - (if u = x then c else 0)
theorem inn_sum (n u v : Nat) (c : Int) (hu : u < n) (hv : v < n) (S : Nat → Bool) : esum (fun x => if S x then inn u v c x else 0) (List.range n) = (if S v then c else 0) - (if S u then c else 0) := by
  have h1 : ∀ x, (if S x then inn u v c x else 0) = (if v = x then (if S v then c else 0) else 0) - (if u = x then (if S u then c else 0) else 0) := fun x => by
    unfold inn
    by_cases hx : S x = true
    · rw [if_pos hx]
      by_cases h2 : v = x <;> by_cases h3 : u = x <;> simp [h2, h3, hx]
    · rw [if_neg hx]
      by_cases h2 : v = x <;> by_cases h3 : u = x <;> simp [h2, h3, hx]
  rw [esum_congr (fun x _ => h1 x), esum_sub, esum_one, esum_one, if_pos hu, if_pos hv]
theorem inn_sum' (n u v : Nat) (c : Int) (S : Nat → Bool) : esum (fun x => if S x then inn u v c x else 0) (List.range n) = (if v < n ∧ S v = true then c else 0) - (if u < n ∧ S u = true then c else 0) := by
  have h1 : ∀ x, (if S x then inn u v c x else 0) = (if v = x then (if S v then c else 0) else 0) - (if u = x then (if S u then c else 0) else 0) := fun x => by
    unfold inn
    by_cases hx : S x = true
    · rw [if_pos hx]
      by_cases h2 : v = x <;> by_cases h3 : u = x <;> simp [h2, h3, hx]
    · rw [if_neg hx]
      by_cases h2 : v = x <;> by_cases h3 : u = x <;> simp [h2, h3, hx]
  rw [esum_congr (fun x _ => h1 x), esum_sub, esum_one, esum_one]
  by_cases hu : u < n <;> by_cases hv : v < n <;> simp [hu, hv]
theorem inn_add (u v : Nat) (c d : Int) (x : Nat) : inn u v (c + d) x = inn u v c x + inn u v d x := by unfold inn; split <;> split <;> omega
theorem inn_sub (u v : Nat) (c d : Int) (x : Nat) : inn u v (c - d) x = inn u v c x - inn u v d x := by unfold inn; split <;> split <;> omega
theorem inn_zero (u v : Nat) (x : Nat) : inn u v 0 x = 0 := by unfold inn; split <;> split <;> omega

abbrev Pg := Pp × Int
structure Goes (M : Nat) (l : List Pg) : Prop where
  bd : ∀ p ∈ l, p.1.lo ≤ p.2 ∧ p.2 ≤ p.1.hi
  bal : ∀ x, x < M → esum (fun p : Pg => inn p.1.u p.1.v p.2 x) l = 0
def CanGo (M : Nat) (ps : List Pp) : Prop := ∃ l : List Pg, l.map (·.1) = ps ∧ Goes M l
def needs (ps : List Pp) (x : Nat) : Int := esum (fun p => inn p.u p.v p.lo x) ps

def Ed.shape (e : Ed) : Nat × Nat × Int := (e.u, e.v, e.cap)
def supply (M : Nat) (nd : Nat → Int) (x : Nat) : List (Nat × Nat × Int) := if nd x > 0 then [(M, x, nd x)] else if nd x < 0 then [(x, M + 1, - nd x)] else []
def supplies (M : Nat) (nd : Nat → Int) (k : Nat) : List (Nat × Nat × Int) := (List.range k).flatMap (supply M nd)
def flows (es : List Ed) (x : Nat) : Int := esum (fun e => inn e.u e.v e.fl x) es
structure NetOk (N : Nat) (es : List Ed) : Prop where
  lt : ∀ e ∈ es, e.u < N ∧ e.v < N ∧ e.u ≠ e.v
  bd : ∀ e ∈ es, 0 ≤ e.fl ∧ e.fl ≤ e.cap

theorem esum_flat {α β : Type} (g : β → Int) (f : α → List β) : ∀ (l : List α), esum g (l.flatMap f) = esum (fun a => esum g (f a)) l
  | [] => rfl
  | a :: l => by rw [List.flatMap_cons, esum_app, esum, esum_flat g f l]
theorem supplies_inn (M : Nat) (nd : Nat → Int) {x : Nat} (hx : x < M) : esum (fun t => inn t.1 t.2.1 t.2.2 x) (supplies M nd M) = nd x := by
  unfold supplies
  rw [esum_flat]
  have h : ∀ y ∈ List.range M, esum (fun t => inn t.1 t.2.1 t.2.2 x) (supply M nd y) = if x = y then nd x else 0 := fun y hy => by
    have hy : y < M := by simpa using hy
    unfold supply
    by_cases h1 : nd y > 0
    · rw [if_pos h1]
      simp only [esum, inn]
      rw [if_neg (show ¬ M = x by omega)]
      by_cases e : x = y
      · subst e; simp
      · rw [if_neg (fun h => e h.symm), if_neg e]; simp
    · rw [if_neg h1]
      by_cases h2 : nd y < 0
      · rw [if_pos h2]
        simp only [esum, inn]
        rw [if_neg (show ¬ M + 1 = x by omega)]
        by_cases e : x = y
        · subst e; simp
        · rw [if_neg (fun h => e h.symm), if_neg e]; simp
      · rw [if_neg h2]
        simp only [esum]
        by_cases e : x = y
        · subst e; rw [if_pos rfl]; omega
        · rw [if_neg e]
  rw [esum_congr h, esum_one, if_pos hx]
def total (M : Nat) (nd : Nat → Int) : Int := esum (fun x => if nd x > 0 then nd x else 0) (List.range M)
theorem supplies_src (M : Nat) (nd : Nat → Int) (k : Nat) : esum (fun t : Nat × Nat × Int => if t.1 = M then t.2.2 else 0) (supplies M nd k) = esum (fun x => (if nd x > 0 then nd x else 0) + (if x = M ∧ nd x < 0 then - nd x else 0)) (List.range k) := by
  unfold supplies
  rw [esum_flat]
  refine esum_congr (fun y _ => ?_)
  unfold supply
  by_cases h1 : nd y > 0
  · rw [if_pos h1, if_pos h1, if_neg (by omega)]; simp [esum]
  · rw [if_neg h1, if_neg h1]
    by_cases h2 : nd y < 0
    · rw [if_pos h2]
      simp only [esum]
      by_cases e : y = M
      · simp [e]; intro h; subst e; omega
      · simp [e]
    · rw [if_neg h2, if_neg (by omega)]; simp [esum]
theorem supplies_src' (M : Nat) (nd : Nat → Int) : esum (fun t : Nat × Nat × Int => if t.1 = M then t.2.2 else 0) (supplies M nd M) = total M nd := by
  rw [supplies_src]
  unfold total
  refine esum_congr (fun y hy => ?_)
  have hy : y < M := by simpa using hy
  rw [if_neg (show ¬ (y = M ∧ nd y < 0) by omega)]; omega
theorem supplies_snk (M : Nat) (nd : Nat → Int) : esum (fun t : Nat × Nat × Int => if t.2.1 = M + 1 then t.2.2 else 0) (supplies M nd M) = total M nd - esum nd (List.range M) := by
  unfold supplies total
  rw [esum_flat, ← esum_sub]
  refine esum_congr (fun y hy => ?_)
  have hy : y < M := by simpa using hy
  unfold supply
  by_cases h1 : nd y > 0
  · rw [if_pos h1, if_pos h1]; simp only [esum]; rw [if_neg (by omega)]; omega
  · rw [if_neg h1, if_neg h1]
    by_cases h2 : nd y < 0
    · rw [if_pos h2]; simp [esum]
    · rw [if_neg h2]; simp only [esum]; omega
theorem mem_supplies {M : Nat} {nd : Nat → Int} {t : Nat × Nat × Int} (h : t ∈ supplies M nd M) : (t.1 = M ∧ t.2.1 < M) ∨ (t.1 < M ∧ t.2.1 = M + 1) := by
  unfold supplies at h
  obtain ⟨y, hy, h⟩ := List.mem_flatMap.1 h
  have hy : y < M := by simpa using hy
  unfold supply at h
  split at h
  · rw [List.mem_singleton.1 h]; exact .inl ⟨rfl, hy⟩
  · split at h
    · rw [List.mem_singleton.1 h]; exact .inr ⟨hy, rfl⟩
    · cases h

theorem pipes_zip : ∀ {ps : List Pp} {ea : List Ed}, ea.map Ed.shape = ps.map (fun p => (p.u, p.v, p.hi - p.lo)) →
    ∃ z : List (Pp × Ed), z.map (·.1) = ps ∧ z.map (·.2) = ea ∧ ∀ t ∈ z, t.2.u = t.1.u ∧ t.2.v = t.1.v ∧ t.2.cap = t.1.hi - t.1.lo
  | [], [], _ => ⟨[], rfl, rfl, fun t ht => by cases ht⟩
  | [], _ :: _, h => by simp at h
  | _ :: _, [], h => by simp at h
  | p :: ps, e :: ea, h => by
    simp only [List.map_cons, List.cons.injEq] at h
    obtain ⟨z, h1, h2, h3⟩ := pipes_zip h.2
    refine ⟨(p, e) :: z, by simp [h1], by simp [h2], fun t ht => ?_⟩
    rcases List.mem_cons.1 ht with rfl | ht
    · have := h.1
      simp only [Ed.shape, Prod.mk.injEq] at this
      exact this
    · exact h3 t ht
theorem needs_sum {M : Nat} {ps : List Pp} (h : ∀ p ∈ ps, p.u < M ∧ p.v < M) : esum (needs ps) (List.range M) = 0 := by
  unfold needs
  rw [esum_comm, esum_congr (h := fun _ => 0), esum_zero]
  intro p hp
  have := inn_sum M p.u p.v p.lo (h p hp).1 (h p hp).2 (fun _ => true)
  simp only [if_true] at this
  rw [this]; omega

section
variable {M : Nat} {ps : List Pp} {es : List Ed}
theorem net_split (hsh : es.map Ed.shape = ps.map (fun p => (p.u, p.v, p.hi - p.lo)) ++ supplies M (needs ps) M) : ∃ ea eb, es = ea ++ eb ∧ ea.map Ed.shape = ps.map (fun p => (p.u, p.v, p.hi - p.lo)) ∧ eb.map Ed.shape = supplies M (needs ps) M := by
  obtain ⟨ea, eb, h1, h2, h3⟩ := List.map_eq_append_iff.1 hsh
  exact ⟨ea, eb, h1, h2, h3⟩
theorem esum_shape (g : Nat → Nat → Int → Int) {eb : List Ed} {l : List (Nat × Nat × Int)} (h : eb.map Ed.shape = l) : esum (fun e => g e.u e.v e.cap) eb = esum (fun t => g t.1 t.2.1 t.2.2) l := by
  rw [← h, esum_map]; rfl
theorem flows_app (ea eb : List Ed) (x : Nat) : flows (ea ++ eb) x = flows ea x + flows eb x := esum_app _ _ _
theorem can_of_full (hp : ∀ p ∈ ps, p.u < M ∧ p.v < M) (hsh : es.map Ed.shape = ps.map (fun p => (p.u, p.v, p.hi - p.lo)) ++ supplies M (needs ps) M) (hb : ∀ e ∈ es, 0 ≤ e.fl ∧ e.fl ≤ e.cap)
    (h0 : ∀ x, x < M → flows es x = 0) (hs : flows es M = - total M (needs ps)) : CanGo M ps := by
  obtain ⟨ea, eb, rfl, ha, hbs⟩ := net_split hsh
  obtain ⟨z, z1, z2, z3⟩ := pipes_zip ha
  have hz : ∀ t ∈ z, t.1.u < M ∧ t.1.v < M := fun t ht => hp _ (by rw [← z1]; exact List.mem_map_of_mem ht)
  have hea : ∀ e ∈ ea, e.u < M ∧ e.v < M := fun e he => by
    rw [← z2] at he
    obtain ⟨t, ht, rfl⟩ := List.mem_map.1 he
    have := z3 t ht; have := hz t ht; omega
  have heb : ∀ e ∈ eb, (e.u = M ∧ e.v < M) ∨ (e.u < M ∧ e.v = M + 1) := fun e he => by
    have : Ed.shape e ∈ supplies M (needs ps) M := by rw [← hbs]; exact List.mem_map_of_mem he
    exact mem_supplies this
  -- the source's edges are full
  have hfa : flows ea M = 0 := by
    unfold flows
    rw [esum_congr (h := fun _ => 0), esum_zero]
    intro e he
    have := hea e he
    unfold inn; rw [if_neg (by omega), if_neg (by omega)]; rfl
  have hfb : flows eb M = - esum (fun e : Ed => if e.u = M then e.fl else 0) eb := by
    unfold flows
    rw [← esum_neg]
    refine esum_congr (fun e he => ?_)
    have := heb e he
    unfold inn; rw [if_neg (show ¬ e.v = M by omega)]; omega
  have hcs : esum (fun e : Ed => if e.u = M then e.cap else 0) eb = total M (needs ps) := by
    rw [esum_shape (fun u _ c => if u = M then c else 0) hbs]; exact supplies_src' M _
  have hsrc := esum_tight (l := eb) (g := fun e : Ed => if e.u = M then e.fl else 0) (h := fun e : Ed => if e.u = M then e.cap else 0) (fun e he => by
    have := hb e (by simp [he]); split <;> omega) (by rw [hcs]; rw [flows_app, hfa, hfb] at hs; omega)
  -- the sum of all flows is nothing
  have hall : esum (flows (ea ++ eb)) (List.range (M + 2)) = 0 := by
    unfold flows
    rw [esum_comm, esum_congr (h := fun _ => 0), esum_zero]
    intro e he
    have h2 : e.u < M + 2 ∧ e.v < M + 2 := by
      rcases List.mem_append.1 he with h | h
      · have := hea e h; omega
      · have := heb e h; omega
    have := inn_sum (M + 2) e.u e.v e.fl h2.1 h2.2 (fun _ => true)
    simp only [if_true] at this
    rw [this]; omega
  have hsnk : flows (ea ++ eb) (M + 1) = total M (needs ps) := by
    rw [List.range_succ, List.range_succ, esum_app, esum_app, esum_congr (h := fun _ => 0) (fun x hx => h0 x (by simpa using hx)), esum_zero] at hall
    simp only [esum] at hall
    omega
  have hga : flows ea (M + 1) = 0 := by
    unfold flows
    rw [esum_congr (h := fun _ => 0), esum_zero]
    intro e he
    have := hea e he
    unfold inn; rw [if_neg (by omega), if_neg (by omega)]; rfl
  have hgb : flows eb (M + 1) = esum (fun e : Ed => if e.v = M + 1 then e.fl else 0) eb := by
    unfold flows
    refine esum_congr (fun e he => ?_)
    have := heb e he
    unfold inn; rw [if_neg (show ¬ e.u = M + 1 by omega)]; omega
  have hct : esum (fun e : Ed => if e.v = M + 1 then e.cap else 0) eb = total M (needs ps) := by
    rw [esum_shape (fun _ v c => if v = M + 1 then c else 0) hbs, supplies_snk, needs_sum hp]; omega
  have hsk := esum_tight (l := eb) (g := fun e : Ed => if e.v = M + 1 then e.fl else 0) (h := fun e : Ed => if e.v = M + 1 then e.cap else 0) (fun e he => by
    have := hb e (by simp [he]); split <;> omega) (by rw [hct]; rw [flows_app, hga, hgb] at hsnk; omega)
  have hfull : ∀ e ∈ eb, e.fl = e.cap := fun e he => by
    have h1 := hsrc e he
    have h2 := hsk e he
    rcases heb e he with h | h
    · simpa [h.1] using h1
    · simpa [h.2] using h2
  have hfb : ∀ x, x < M → flows eb x = needs ps x := fun x hx => by
    rw [← supplies_inn M (needs ps) hx, ← esum_shape (fun u v c => inn u v c x) hbs]
    exact esum_congr (fun e he => by rw [hfull e he])
  refine ⟨z.map (fun t => (t.1, t.1.lo + t.2.fl)), by rw [← z1]; simp, ⟨fun p hp => ?_, fun x hx => ?_⟩⟩
  · obtain ⟨t, ht, rfl⟩ := List.mem_map.1 hp
    have h1 := z3 t ht
    have h2 := hb t.2 (by rw [← z2]; exact List.mem_append_left _ (List.mem_map_of_mem ht))
    show t.1.lo ≤ t.1.lo + t.2.fl ∧ t.1.lo + t.2.fl ≤ t.1.hi
    omega
  · rw [esum_map]
    have h1 : ∀ t ∈ z, inn t.1.u t.1.v (t.1.lo + t.2.fl) x = inn t.1.u t.1.v t.1.lo x + inn t.2.u t.2.v t.2.fl x := fun t ht => by
      have := z3 t ht
      rw [inn_add, this.1, this.2.1]
    rw [esum_congr h1, esum_add]
    have h2 : esum (fun t : Pp × Ed => inn t.1.u t.1.v t.1.lo x) z = needs ps x := by
      unfold needs; rw [← z1, esum_map]
    have h3 : esum (fun t : Pp × Ed => inn t.2.u t.2.v t.2.fl x) z = flows ea x := by
      unfold flows; rw [← z2, esum_map]
    have h4 := h0 x hx
    rw [flows_app, hfb x hx] at h4
    omega

theorem not_of_cut (hp : ∀ p ∈ ps, p.u < M ∧ p.v < M) (hsh : es.map Ed.shape = ps.map (fun p => (p.u, p.v, p.hi - p.lo)) ++ supplies M (needs ps) M) (hb : ∀ e ∈ es, 0 ≤ e.fl ∧ e.fl ≤ e.cap)
    (h0 : ∀ x, x < M → flows es x = 0) (hs : - total M (needs ps) < flows es M) (S : Nat → Bool) (hS : S M = true) (hT : S (M + 1) = false)
    (hcut : ∀ e ∈ es, (S e.u = true → S e.v = false → e.fl = e.cap) ∧ (S e.v = true → S e.u = false → e.fl = 0)) : ¬ CanGo M ps := by
  rintro ⟨l, hl, hgo⟩
  obtain ⟨ea, eb, rfl, ha, hbs⟩ := net_split hsh
  obtain ⟨z, z1, z2, z3⟩ := pipes_zip ha
  have hz : ∀ t ∈ z, t.1.u < M ∧ t.1.v < M := fun t ht => hp _ (by rw [← z1]; exact List.mem_map_of_mem ht)
  have hea : ∀ e ∈ ea, e.u < M ∧ e.v < M := fun e he => by
    rw [← z2] at he
    obtain ⟨t, ht, rfl⟩ := List.mem_map.1 he
    have := z3 t ht; have := hz t ht; omega
  have heb : ∀ e ∈ eb, (e.u = M ∧ e.v < M) ∨ (e.u < M ∧ e.v = M + 1) := fun e he => by
    have : Ed.shape e ∈ supplies M (needs ps) M := by rw [← hbs]; exact List.mem_map_of_mem he
    exact mem_supplies this
  have hfa : flows ea M = 0 := by
    unfold flows
    rw [esum_congr (h := fun _ => 0), esum_zero]
    intro e he
    have := hea e he
    unfold inn; rw [if_neg (by omega), if_neg (by omega)]; rfl
  have hfb : flows eb M = - esum (fun e : Ed => if e.u = M then e.fl else 0) eb := by
    unfold flows
    rw [← esum_neg]
    refine esum_congr (fun e he => ?_)
    have := heb e he
    unfold inn; rw [if_neg (show ¬ e.v = M by omega)]; omega
  have hcs : esum (fun e : Ed => if e.u = M then e.cap else 0) eb = total M (needs ps) := by
    rw [esum_shape (fun u _ c => if u = M then c else 0) hbs]; exact supplies_src' M _
  -- what is left of the supply
  have hres : 0 < esum (fun e : Ed => if e.u = M then e.cap - e.fl else 0) eb := by
    have h1 : ∀ e : Ed, (if e.u = M then e.cap - e.fl else 0) = (if e.u = M then e.cap else 0) - (if e.u = M then e.fl else 0) := fun e => by split <;> omega
    rw [esum_congr (fun e _ => h1 e), esum_sub, hcs]
    rw [flows_app, hfa, hfb] at hs
    omega
  have hslack : esum (fun x => if S x then esum (fun e : Ed => inn e.u e.v (e.cap - e.fl) x) eb else 0) (List.range M) = esum (fun e : Ed => if e.u = M then e.cap - e.fl else 0) eb := by
    have h1 : ∀ x, (if S x then esum (fun e : Ed => inn e.u e.v (e.cap - e.fl) x) eb else 0) = esum (fun e : Ed => if S x then inn e.u e.v (e.cap - e.fl) x else 0) eb := fun x => by
      by_cases h : S x = true
      · simp only [h, if_true]
      · simp only [h, if_false, Bool.false_eq_true]; exact (esum_zero eb).symm
    rw [esum_congr (fun x _ => h1 x), esum_comm]
    refine esum_congr (fun e he => ?_)
    rw [inn_sum']
    have hc := hcut e (by simp [he])
    rcases heb e he with ⟨h2, h3⟩ | ⟨h2, h3⟩
    · rw [h2, if_neg (show ¬ (M < M ∧ S M = true) by omega), if_pos rfl]
      by_cases h4 : S e.v = true
      · rw [if_pos ⟨h3, h4⟩]; omega
      · have := hc.1 (by rw [h2]; exact hS) (by simpa using h4)
        rw [if_neg (fun h => h4 h.2)]; omega
    · rw [h3, if_neg (show ¬ (M + 1 < M ∧ S (M + 1) = true) by omega), if_neg (show ¬ e.u = M by omega)]
      by_cases h4 : S e.u = true
      · have := hc.1 h4 (by rw [h3]; exact hT)
        rw [if_pos ⟨h2, h4⟩]; omega
      · rw [if_neg (fun h => h4 h.2)]; omega
  -- pipes with edges and grams
  have hzl : ∃ y : List ((Pp × Ed) × Int), y.map (·.1) = z ∧ y.map (fun t => (t.1.1, t.2)) = l := by
    clear hslack hres hcs hfb hfa heb hea hz hcut hs h0 hb hsh hp hbs
    have hlen : l.length = z.length := by
      have := congrArg List.length (hl.trans z1.symm)
      simpa using this
    refine ⟨z.zip (l.map (·.2)), List.map_fst_zip (by simp [hlen]), List.ext_getElem (by simp [hlen]) (fun i h1 h2 => ?_)⟩
    have hi : i < z.length := by omega
    have e1 : (l.map (·.1))[i]'(by simpa using h2) = (z.map (·.1))[i]'(by simpa using hi) := by
      have := hl.trans z1.symm
      simp only [this]
    simp only [List.getElem_map] at e1
    simp only [List.getElem_map, List.getElem_zip]
    rw [← e1]
  obtain ⟨y, y1, y2⟩ := hzl
  have hy : ∀ t ∈ y, t.1 ∈ z ∧ (t.1.1, t.2) ∈ l := fun t ht => ⟨by rw [← y1]; exact List.mem_map_of_mem ht, by rw [← y2]; exact List.mem_map_of_mem (f := fun t : (Pp × Ed) × Int => (t.1.1, t.2)) ht⟩
  have hx : ∀ x, x < M → esum (fun t : (Pp × Ed) × Int => inn t.1.1.u t.1.1.v (t.2 - t.1.1.lo - t.1.2.fl) x) y = - esum (fun e : Ed => inn e.u e.v (e.cap - e.fl) x) eb := fun x hx => by
    have h1 : ∀ t ∈ y, inn t.1.1.u t.1.1.v (t.2 - t.1.1.lo - t.1.2.fl) x = inn t.1.1.u t.1.1.v t.2 x - inn t.1.1.u t.1.1.v t.1.1.lo x - inn t.1.2.u t.1.2.v t.1.2.fl x := fun t ht => by
      have := z3 t.1 (hy t ht).1
      rw [inn_sub, inn_sub, this.1, this.2.1]
    rw [esum_congr h1, esum_sub, esum_sub]
    have e1 : esum (fun t : (Pp × Ed) × Int => inn t.1.1.u t.1.1.v t.2 x) y = 0 := by
      have := hgo.bal x hx
      rwa [← y2, esum_map] at this
    have e2 : esum (fun t : (Pp × Ed) × Int => inn t.1.1.u t.1.1.v t.1.1.lo x) y = needs ps x := by
      unfold needs; rw [← z1, ← y1, List.map_map, esum_map]; rfl
    have e3 : esum (fun t : (Pp × Ed) × Int => inn t.1.2.u t.1.2.v t.1.2.fl x) y = flows ea x := by
      unfold flows; rw [← z2, ← y1, List.map_map, esum_map]; rfl
    have e4 : flows eb x = needs ps x - esum (fun e : Ed => inn e.u e.v (e.cap - e.fl) x) eb := by
      rw [← supplies_inn M (needs ps) hx, ← esum_shape (fun u v c => inn u v c x) hbs, ← esum_sub]
      unfold flows
      refine esum_congr (fun e _ => ?_)
      rw [← inn_sub]; congr 1; omega
    have e5 := h0 x hx
    rw [flows_app] at e5
    omega
  have hsum : esum (fun x => if S x then esum (fun t : (Pp × Ed) × Int => inn t.1.1.u t.1.1.v (t.2 - t.1.1.lo - t.1.2.fl) x) y else 0) (List.range M) = esum (fun t : (Pp × Ed) × Int => (if S t.1.1.v = true then t.2 - t.1.1.lo - t.1.2.fl else 0) - (if S t.1.1.u = true then t.2 - t.1.1.lo - t.1.2.fl else 0)) y := by
    have h1 : ∀ x, (if S x then esum (fun t : (Pp × Ed) × Int => inn t.1.1.u t.1.1.v (t.2 - t.1.1.lo - t.1.2.fl) x) y else 0) = esum (fun t : (Pp × Ed) × Int => if S x then inn t.1.1.u t.1.1.v (t.2 - t.1.1.lo - t.1.2.fl) x else 0) y := fun x => by
      by_cases h : S x = true
      · simp only [h, if_true]
      · simp only [h, if_false, Bool.false_eq_true]; exact (esum_zero y).symm
    rw [esum_congr (fun x _ => h1 x), esum_comm]
    refine esum_congr (fun t ht => ?_)
    exact inn_sum M _ _ _ (hz _ (hy t ht).1).1 (hz _ (hy t ht).1).2 S
  have hneg : esum (fun x => if S x then esum (fun t : (Pp × Ed) × Int => inn t.1.1.u t.1.1.v (t.2 - t.1.1.lo - t.1.2.fl) x) y else 0) (List.range M) = - esum (fun e : Ed => if e.u = M then e.cap - e.fl else 0) eb := by
    rw [← hslack, ← esum_neg]
    refine esum_congr (fun x hx' => ?_)
    rw [hx x (by simpa using hx')]
    split <;> omega
  have hpos : 0 ≤ esum (fun t : (Pp × Ed) × Int => (if S t.1.1.v = true then t.2 - t.1.1.lo - t.1.2.fl else 0) - (if S t.1.1.u = true then t.2 - t.1.1.lo - t.1.2.fl else 0)) y := by
    refine esum_nonneg (fun t ht => ?_)
    have h1 := z3 t.1 (hy t ht).1
    have h2 := hgo.bd _ (hy t ht).2
    have h3 := hcut t.1.2 (List.mem_append_left _ (by rw [← z2]; exact List.mem_map_of_mem (hy t ht).1))
    rw [h1.1, h1.2.1, h1.2.2] at h3
    simp only at h2
    cases hu : S t.1.1.u <;> cases hv : S t.1.1.v
    · simp
    · have := h3.2 hv hu; simp; omega
    · have := h3.1 hu hv; simp; omega
    · simp
  rw [← hsum, hneg] at hpos
  omega
end
end Go.Proofs.Ythihdiilokdidaa
end

section
namespace Go.Proofs.Ythihdiilokdidaa

structure Rm where
 fst : Rg
 vap : Rg
 deriving DecidableEq, Inhabited
structure Mv where
 day : Int
 src : Int
 dst : Int
 g : Rg
 deriving DecidableEq, Inhabited
structure Wg where
 room : Int
 day : Int
 g : Rg
 deriving DecidableEq, Inhabited
structure Wo where
 rooms : List Rm
 days : Nat
 moves : List Mv
 wgs : List Wg
def gRm (l : List Rm) (k : Nat) : Rm := l.getD k ⟨⟨0, 0⟩, ⟨0, 0⟩⟩
def gMv (l : List Mv) (k : Nat) : Mv := l.getD k ⟨0, 0, 0, ⟨0, 0⟩⟩
def gWg (l : List Wg) (k : Nat) : Wg := l.getD k ⟨0, 0, ⟨0, 0⟩⟩

abbrev Spot := Int × Int
def outS : Spot := (-1, 0)
def atS (r d : Int) : Spot := if r = -1 then outS else (r, d)
inductive Lb where
 | fst (r : Nat)
 | stk (r d : Nat)
 | vap (r d : Nat)
 | mov (i : Nat)
 deriving DecidableEq
def Lb.U (w : Wo) : Lb → Spot
 | .fst _ => outS
 | .stk r d => ((r : Int), (d : Int))
 | .vap r d => ((r : Int), (d : Int))
 | .mov i => atS (gMv w.moves i).src (gMv w.moves i).day
def Lb.V (w : Wo) : Lb → Spot
 | .fst r => ((r : Int), 0)
 | .stk r d => if d + 1 = w.days then outS else ((r : Int), (d : Int) + 1)
 | .vap _ _ => outS
 | .mov i => atS (gMv w.moves i).dst (gMv w.moves i).day
abbrev Sts := Nat → Nat → Rg
def Lb.R (w : Wo) (st : Sts) : Lb → Rg
 | .fst r => (gRm w.rooms r).fst
 | .stk r d => st r d
 | .vap r _ => (gRm w.rooms r).vap
 | .mov i => (gMv w.moves i).g
def roomL (D r : Nat) : List Lb := .fst r :: (List.range D).flatMap fun d => [.stk r d, .vap r d]
def labels (w : Wo) : List Lb := (List.range w.rooms.length).flatMap (roomL w.days) ++ (List.range w.moves.length).map .mov

def comes (w : Wo) (G : Nat → Int) (r d : Int) (k : Nat) : Int := esum (fun i => if (gMv w.moves i).day = d then (if (gMv w.moves i).dst = r then G i else 0) - (if (gMv w.moves i).src = r then G i else 0) else 0) (List.range k)
def stk (w : Wo) (F : Nat → Int) (V : Nat → Nat → Int) (G : Nat → Int) (r : Nat) : Nat → Int
 | 0 => F r + (comes w G r 0 w.moves.length - V r 0)
 | d + 1 => stk w F V G r d + (comes w G r ((d : Int) + 1) w.moves.length - V r (d + 1))
def inR (n : Int) (r : Rg) : Prop := r.lo ≤ n ∧ n ≤ r.hi
structure TruF (w : Wo) (F : Nat → Int) (V : Nat → Nat → Int) (G : Nat → Int) : Prop where
 fst : ∀ r, r < w.rooms.length → inR (F r) (gRm w.rooms r).fst
 vap : ∀ r d, r < w.rooms.length → d < w.days → inR (V r d) (gRm w.rooms r).vap
 mov : ∀ i, i < w.moves.length → inR (G i) (gMv w.moves i).g
def CanSt (w : Wo) (st : Sts) : Prop := ∃ F V G, TruF w F V G ∧ ∀ r d, r < w.rooms.length → d < w.days → inR (stk w F V G r d) (st r d)
structure MovesOk (w : Wo) : Prop where
 day : ∀ i, i < w.moves.length → 0 ≤ (gMv w.moves i).day ∧ (gMv w.moves i).day < w.days
 src : ∀ i, i < w.moves.length → -1 ≤ (gMv w.moves i).src ∧ (gMv w.moves i).src < w.rooms.length
 dst : ∀ i, i < w.moves.length → -1 ≤ (gMv w.moves i).dst ∧ (gMv w.moves i).dst < w.rooms.length
 ne : ∀ i, i < w.moves.length → (gMv w.moves i).src ≠ (gMv w.moves i).dst
 pos : 0 < w.days

def sinn (u v : Spot) (c : Int) (s : Spot) : Int := (if v = s then c else 0) - (if u = s then c else 0)
def bal (w : Wo) (c : Lb → Int) (s : Spot) : Int := esum (fun b => sinn (Lb.U w b) (Lb.V w b) (c b) s) (labels w)
def UsedS (w : Wo) (s : Spot) : Prop := s = outS ∨ ∃ r d : Nat, r < w.rooms.length ∧ d < w.days ∧ s = ((r : Int), (d : Int))

theorem mem_labels {w : Wo} {b : Lb} : b ∈ labels w ↔ (∃ r, r < w.rooms.length ∧ (b = .fst r ∨ ∃ d, d < w.days ∧ (b = .stk r d ∨ b = .vap r d))) ∨ ∃ i, i < w.moves.length ∧ b = .mov i := by
 unfold labels roomL
 simp only [List.mem_append, List.mem_flatMap, List.mem_range, List.mem_cons, List.mem_map, List.not_mem_nil, or_false]
 constructor
 ·
  rintro (⟨r, hr, h | ⟨d, hd, h⟩⟩ | ⟨i, hi, h⟩)
  ·
   exact .inl ⟨r, hr, .inl h⟩
  ·
   exact .inl ⟨r, hr, .inr ⟨d, hd, h⟩⟩
  ·
   exact .inr ⟨i, hi, h.symm⟩
 ·
  rintro (⟨r, hr, h | ⟨d, hd, h⟩⟩ | ⟨i, hi, h⟩)
  ·
   exact .inl ⟨r, hr, .inl h⟩
  ·
   exact .inl ⟨r, hr, .inr ⟨d, hd, h⟩⟩
  ·
   exact .inr ⟨i, hi, h.symm⟩
theorem used_at {w : Wo} {r d : Int} (hr : -1 ≤ r ∧ r < w.rooms.length) (hd : 0 ≤ d ∧ d < w.days) : UsedS w (atS r d) := by
 unfold atS
 by_cases h : r = -1
 ·
  rw [if_pos h]; exact .inl rfl
 ·
  rw [if_neg h]; exact .inr ⟨r.toNat, d.toNat, by omega, by omega, by rw [show ((r.toNat : Nat) : Int) = r by omega, show ((d.toNat : Nat) : Int) = d by omega]⟩
theorem used_uv {w : Wo} (hm : MovesOk w) {b : Lb} (hb : b ∈ labels w) : UsedS w (Lb.U w b) ∧ UsedS w (Lb.V w b) := by
 rcases mem_labels.1 hb with ⟨r, hr, rfl | ⟨d, hd, rfl | rfl⟩⟩ | ⟨i, hi, rfl⟩
 ·
  exact ⟨.inl rfl, .inr ⟨r, 0, hr, hm.pos, rfl⟩⟩
 ·
  refine ⟨.inr ⟨r, d, hr, hd, rfl⟩, ?_⟩
  unfold Lb.V
  by_cases h : d + 1 = w.days
  ·
   simp only [if_pos h]; exact .inl rfl
  ·
   simp only [if_neg h]; exact .inr ⟨r, d + 1, hr, by omega, by simp⟩
 ·
  exact ⟨.inr ⟨r, d, hr, hd, rfl⟩, .inl rfl⟩
 ·
  exact ⟨used_at (hm.src i hi) (hm.day i hi), used_at (hm.dst i hi) (hm.day i hi)⟩
theorem atS_ne {w : Wo} (hm : MovesOk w) {i : Nat} (hi : i < w.moves.length) : atS (gMv w.moves i).src (gMv w.moves i).day ≠ atS (gMv w.moves i).dst (gMv w.moves i).day := by
 have h1 := hm.ne i hi
 have h2 := hm.src i hi
 have h3 := hm.dst i hi
 unfold atS
 intro e
 by_cases h : (gMv w.moves i).src = -1 <;> by_cases h' : (gMv w.moves i).dst = -1
 ·
  omega
 ·
  rw [if_pos h, if_neg h'] at e; simp only [outS, Prod.mk.injEq] at e; omega
 ·
  rw [if_neg h, if_pos h'] at e; simp only [outS, Prod.mk.injEq] at e; omega
 ·
  rw [if_neg h, if_neg h'] at e; simp only [Prod.mk.injEq] at e; omega
theorem uv_ne {w : Wo} (hm : MovesOk w) {b : Lb} (hb : b ∈ labels w) : Lb.U w b ≠ Lb.V w b := by
 rcases mem_labels.1 hb with ⟨r, hr, rfl | ⟨d, hd, rfl | rfl⟩⟩ | ⟨i, hi, rfl⟩
 ·
  simp only [Lb.U, Lb.V, outS, ne_eq, Prod.mk.injEq]; omega
 ·
  simp only [Lb.U, Lb.V]
  by_cases h : d + 1 = w.days
  ·
   rw [if_pos h]; simp only [outS, ne_eq, Prod.mk.injEq]; omega
  ·
   rw [if_neg h]; simp only [ne_eq, Prod.mk.injEq]; omega
 ·
  simp only [Lb.U, Lb.V, outS, ne_eq, Prod.mk.injEq]; omega
 ·
  exact atS_ne hm hi

theorem nodup_flat {α β : Type} {f : α → List β} : ∀ {l : List α}, (∀ a ∈ l, (f a).Nodup) → l.Pairwise (fun a b => ∀ x ∈ f a, x ∉ f b) → (l.flatMap f).Nodup
 | [], _, _ => by simp
 | a :: l, h, hp => by
  have hp := List.pairwise_cons.1 hp
  rw [List.flatMap_cons]
  refine List.nodup_append.2 ⟨h a (by simp), nodup_flat (fun b hb => h b (by simp [hb])) hp.2, fun x hx y hy e => ?_⟩
  subst e
  obtain ⟨b, hb, hy⟩ := List.mem_flatMap.1 hy
  exact hp.1 b hb x hx hy
theorem nodup_map {α β : Type} {f : α → β} {l : List α} (h : l.Nodup) (hf : ∀ a b, f a = f b → a = b) : (l.map f).Nodup := List.pairwise_map.2 (List.Pairwise.imp (fun hab e => hab (hf _ _ e)) h)
theorem nodup_labels (w : Wo) : (labels w).Nodup := by
 unfold labels
 refine List.nodup_append.2 ⟨?_, ?_, ?_⟩
 ·
  refine nodup_flat (fun r _ => ?_) ?_
  ·
   unfold roomL
   refine List.nodup_cons.2 ⟨by simp, ?_⟩
   refine nodup_flat (fun d _ => by simp) ?_
   refine List.Pairwise.imp ?_ (List.nodup_range (n := w.days))
   intro a b hab
   simp [hab]
  ·
   refine List.Pairwise.imp ?_ (List.nodup_range (n := w.rooms.length))
   intro a b hab
   intro x hx hy
   simp only [roomL, List.mem_cons, List.mem_flatMap, List.mem_range, List.not_mem_nil, or_false] at hx hy
   rcases hx with rfl | ⟨d, _, rfl | rfl⟩ <;> rcases hy with h | ⟨d', _, h | h⟩ <;> cases h <;> exact hab rfl
 ·
  exact nodup_map List.nodup_range (fun a b e => by injection e)
 ·
  intro a ha b hb e
  subst e
  obtain ⟨i, _, rfl⟩ := List.mem_map.1 hb
  simp [roomL] at ha

theorem esum_labels (w : Wo) (g : Lb → Int) : esum g (labels w) = esum (fun r => g (.fst r) + esum (fun d => g (.stk r d) + g (.vap r d)) (List.range w.days)) (List.range w.rooms.length) + esum (fun i => g (.mov i)) (List.range w.moves.length) := by
 unfold labels
 rw [esum_app, esum_map, esum_flat]
 congr 1
 refine esum_congr (fun r _ => ?_)
 unfold roomL
 rw [esum, esum_flat]
 congr 1
 exact esum_congr (fun d _ => by simp only [esum]; omega)
theorem esum_pick (n x : Nat) (g : Nat → Int) : esum (fun y => if y = x then g y else 0) (List.range n) = if x < n then g x else 0 := by
 rw [← esum_one n x (g x)]
 refine esum_congr (fun y _ => ?_)
 by_cases h : y = x
 ·
  subst h; simp
 ·
  rw [if_neg h, if_neg (fun e => h e.symm)]

theorem sinn_lit (a b c d : Int) (n : Int) (x y : Int) : sinn (a, b) (c, d) n (x, y) = (if c = x ∧ d = y then n else 0) - (if a = x ∧ b = y then n else 0) := by
 unfold sinn
 simp only [Prod.mk.injEq]
theorem at_lit {r d x y : Int} (hx : 0 ≤ x) : (atS r d = (x, y)) ↔ (r = x ∧ d = y) := by
 unfold atS
 by_cases h : r = -1
 ·
  rw [if_pos h]; simp only [outS, Prod.mk.injEq]; omega
 ·
  rw [if_neg h]; simp only [Prod.mk.injEq]
theorem bal_at (w : Wo) (hm : MovesOk w) (c : Lb → Int) {r d : Nat} (hr : r < w.rooms.length) (hd : d < w.days) :
  bal w c ((r : Int), (d : Int)) = (if d = 0 then c (.fst r) else c (.stk r (d - 1))) - c (.stk r d) - c (.vap r d) + comes w (fun i => c (.mov i)) r d w.moves.length := by
 unfold bal
 rw [esum_labels]
 have h1 : ∀ r', r' ∈ List.range w.rooms.length → sinn (Lb.U w (.fst r')) (Lb.V w (.fst r')) (c (.fst r')) ((r : Int), (d : Int)) + esum (fun d' => sinn (Lb.U w (.stk r' d')) (Lb.V w (.stk r' d')) (c (.stk r' d')) ((r : Int), (d : Int)) + sinn (Lb.U w (.vap r' d')) (Lb.V w (.vap r' d')) (c (.vap r' d')) ((r : Int), (d : Int))) (List.range w.days) = if r' = r then (if d = 0 then c (.fst r) else c (.stk r (d - 1))) - c (.stk r d) - c (.vap r d) else 0 := by
  intro r' _
  have h2 : ∀ d', d' ∈ List.range w.days → sinn (Lb.U w (.stk r' d')) (Lb.V w (.stk r' d')) (c (.stk r' d')) ((r : Int), (d : Int)) + sinn (Lb.U w (.vap r' d')) (Lb.V w (.vap r' d')) (c (.vap r' d')) ((r : Int), (d : Int)) = (if d' = d - 1 then (if r' = r ∧ 0 < d then c (.stk r' d') else 0) else 0) + (if d' = d then (if r' = r then - c (.stk r' d') - c (.vap r' d') else 0) else 0) := by
   intro d' hd'
   have hd' : d' < w.days := by simpa using hd'
   simp only [Lb.U, Lb.V, outS]
   have e1 : sinn ((r' : Int), (d' : Int)) (if d' + 1 = w.days then ((-1 : Int), (0 : Int)) else ((r' : Int), (d' : Int) + 1)) (c (.stk r' d')) ((r : Int), (d : Int)) = (if r' = r ∧ d' + 1 = d then c (.stk r' d') else 0) - (if r' = r ∧ d' = d then c (.stk r' d') else 0) := by
    by_cases h : d' + 1 = w.days
    ·
     rw [if_pos h, sinn_lit, if_neg (by omega), if_neg (show ¬ (r' = r ∧ d' + 1 = d) by omega)]
     by_cases h3 : r' = r ∧ d' = d
     ·
      rw [if_pos (by omega), if_pos h3]
     ·
      rw [if_neg (by omega), if_neg h3]
    ·
     rw [if_neg h, sinn_lit]
     by_cases h3 : r' = r ∧ d' + 1 = d <;> by_cases h4 : r' = r ∧ d' = d
     ·
      omega
     ·
      rw [if_pos (by omega), if_neg (by omega), if_pos h3, if_neg h4]
     ·
      rw [if_neg (by omega), if_pos (by omega), if_neg h3, if_pos h4]
     ·
      rw [if_neg (by omega), if_neg (by omega), if_neg h3, if_neg h4]
   rw [e1, sinn_lit, if_neg (show ¬ ((-1 : Int) = r ∧ (0 : Int) = d) by omega)]
   by_cases h3 : r' = r <;> by_cases h4 : d' + 1 = d <;> by_cases h5 : d' = d
   all_goals omega
  rw [esum_congr h2, esum_add, esum_pick w.days (d - 1) (fun d' => if r' = r ∧ 0 < d then c (.stk r' d') else 0), esum_pick w.days d (fun d' => if r' = r then - c (.stk r' d') - c (.vap r' d') else 0), if_pos (show d - 1 < w.days by omega), if_pos hd]
  simp only [Lb.U, Lb.V, outS]
  rw [sinn_lit, if_neg (show ¬ ((-1 : Int) = r ∧ (0 : Int) = d) by omega)]
  by_cases h3 : r' = r
  ·
   subst h3
   by_cases h4 : d = 0
   ·
    subst h4; simp; omega
   ·
    rw [if_neg (by omega), if_pos (by omega), if_pos rfl, if_pos rfl, if_neg h4]; omega
  ·
   rw [if_neg (by omega), if_neg (by omega), if_neg h3, if_neg h3]; omega
 rw [esum_congr h1, esum_pick w.rooms.length r (fun _ => (if d = 0 then c (.fst r) else c (.stk r (d - 1))) - c (.stk r d) - c (.vap r d)), if_pos hr]
 congr 1
 unfold comes
 refine esum_congr (fun i hi => ?_)
 have hi : i < w.moves.length := by simpa using hi
 simp only [Lb.U, Lb.V, sinn, at_lit (show (0 : Int) ≤ r by omega)]
 by_cases h1 : (gMv w.moves i).day = (d : Int)
 ·
  simp only [h1, and_true, if_true]
 ·
  simp [h1]

def spots (w : Wo) : List Spot := outS :: (List.range w.rooms.length).flatMap fun (r : Nat) => (List.range w.days).map fun (d : Nat) => (((r : Nat) : Int), ((d : Nat) : Int))
theorem mem_spots {w : Wo} {s : Spot} : s ∈ spots w ↔ UsedS w s := by
 unfold spots UsedS
 simp only [List.mem_cons, List.mem_flatMap, List.mem_map, List.mem_range]
 constructor
 ·
  rintro (h | ⟨r, hr, d, hd, h⟩)
  ·
   exact .inl h
  ·
   exact .inr ⟨r, d, hr, hd, h.symm⟩
 ·
  rintro (h | ⟨r, d, hr, hd, h⟩)
  ·
   exact .inl h
  ·
   exact .inr ⟨r, hr, d, hd, h.symm⟩
theorem nodup_spots (w : Wo) : (spots w).Nodup := by
 unfold spots
 refine List.nodup_cons.2 ⟨?_, ?_⟩
 ·
  simp only [List.mem_flatMap, List.mem_map, List.mem_range, not_exists, not_and]
  intro r _ d _ h
  simp only [outS, Prod.mk.injEq] at h; omega
 ·
  refine nodup_flat (fun r _ => nodup_map List.nodup_range (fun a b e => by simp only [Prod.mk.injEq] at e; omega)) ?_
  refine List.Pairwise.imp ?_ (List.nodup_range (n := w.rooms.length))
  intro a b hab
  intro x hx hy
  obtain ⟨d, _, rfl⟩ := List.mem_map.1 hx
  obtain ⟨d', _, h⟩ := List.mem_map.1 hy
  simp only [Prod.mk.injEq] at h; omega
theorem esum_nodup {α : Type} [DecidableEq α] (x : α) (c : Int) : ∀ {l : List α}, l.Nodup → esum (fun y => if x = y then c else 0) l = if x ∈ l then c else 0
 | [], _ => by simp [esum]
 | y :: l, h => by
  have h := List.nodup_cons.1 h
  rw [esum, esum_nodup x c h.2]
  by_cases e : x = y
  ·
   subst e; rw [if_pos rfl, if_neg h.1]; simp
  ·
   rw [if_neg e]; simp [e]
theorem bal_sum (w : Wo) (hm : MovesOk w) (c : Lb → Int) : esum (bal w c) (spots w) = 0 := by
 unfold bal
 rw [esum_comm, esum_congr (h := fun _ => 0), esum_zero]
 intro b hb
 unfold sinn
 have hu := used_uv hm hb
 rw [esum_sub, esum_nodup _ _ (nodup_spots w), esum_nodup _ _ (nodup_spots w), if_pos (mem_spots.2 hu.2), if_pos (mem_spots.2 hu.1)]
 omega
theorem bal_out (w : Wo) (hm : MovesOk w) (c : Lb → Int) (h : ∀ r d, r < w.rooms.length → d < w.days → bal w c ((r : Int), (d : Int)) = 0) : bal w c outS = 0 := by
 have := bal_sum w hm c
 unfold spots at this
 rw [esum, esum_congr (h := fun _ => 0), esum_zero] at this
 ·
  omega
 ·
  intro s hs
  obtain ⟨r, hr, hs⟩ := List.mem_flatMap.1 hs
  obtain ⟨d, hd, rfl⟩ := List.mem_map.1 hs
  exact h r d (by simpa using hr) (by simpa using hd)

theorem canSt_iff (w : Wo) (hm : MovesOk w) (st : Sts) : CanSt w st ↔ ∃ c : Lb → Int, (∀ b ∈ labels w, inR (c b) (Lb.R w st b)) ∧ ∀ s, UsedS w s → bal w c s = 0 := by
 constructor
 ·
  rintro ⟨F, V, G, ht, hs⟩
  refine ⟨fun b => match b with | .fst r => F r | .stk r d => stk w F V G r d | .vap r d => V r d | .mov i => G i, fun b hb => ?_, ?_⟩
  ·
   rcases mem_labels.1 hb with ⟨r, hr, rfl | ⟨d, hd, rfl | rfl⟩⟩ | ⟨i, hi, rfl⟩
   ·
    exact ht.fst r hr
   ·
    exact hs r d hr hd
   ·
    exact ht.vap r d hr hd
   ·
    exact ht.mov i hi
  ·
   have key : ∀ r d, r < w.rooms.length → d < w.days → bal w (fun b => match b with | .fst r => F r | .stk r d => stk w F V G r d | .vap r d => V r d | .mov i => G i) ((r : Int), (d : Int)) = 0 := fun r d hr hd => by
    rw [bal_at w hm _ hr hd]
    cases d with
    | zero => simp only [if_true, stk]; simp; rw [show comes w (fun i => G i) r 0 w.moves.length = comes w G r 0 w.moves.length from rfl]; omega
    | succ d => simp only [stk]; simp; rw [show comes w (fun i => G i) r (d + 1) w.moves.length = comes w G r (d + 1) w.moves.length from rfl]; omega
   rintro s (rfl | ⟨r, d, hr, hd, rfl⟩)
   ·
    exact bal_out w hm _ key
   ·
    exact key r d hr hd
 ·
  rintro ⟨c, hc, hb⟩
  have hst : ∀ r d, r < w.rooms.length → d < w.days → stk w (fun r => c (.fst r)) (fun r d => c (.vap r d)) (fun i => c (.mov i)) r d = c (.stk r d) := by
   intro r d hr
   induction d with
   | zero =>
    intro hd
    have := hb _ (.inr ⟨r, 0, hr, hd, rfl⟩)
    rw [bal_at w hm _ hr hd] at this
    simp only [if_true] at this
    simp only [stk]
    simp at this ⊢
    omega
   | succ d ih =>
    intro hd
    have := hb _ (.inr ⟨r, d + 1, hr, hd, rfl⟩)
    rw [bal_at w hm _ hr hd] at this
    rw [if_neg (by omega)] at this
    simp only [stk]
    rw [ih (by omega)]
    simp at this ⊢
    omega
  refine ⟨fun r => c (.fst r), fun r d => c (.vap r d), fun i => c (.mov i), ⟨fun r hr => hc _ (mem_labels.2 (.inl ⟨r, hr, .inl rfl⟩)), fun r d hr hd => hc _ (mem_labels.2 (.inl ⟨r, hr, .inr ⟨d, hd, .inr rfl⟩⟩)), fun i hi => hc _ (mem_labels.2 (.inr ⟨i, hi, rfl⟩))⟩, fun r d hr hd => ?_⟩
  rw [hst r d hr hd]
  exact hc _ (mem_labels.2 (.inl ⟨r, hr, .inr ⟨d, hd, .inl rfl⟩⟩))

def pps (w : Wo) (st : Sts) (num : Spot → Nat) : List Pp := (labels w).map fun b => ⟨num (Lb.U w b), num (Lb.V w b), (Lb.R w st b).lo, (Lb.R w st b).hi⟩
theorem pairs_of {α β : Type} (f : α → β) : ∀ {L : List α} {l : List (β × Int)}, l.map (·.1) = L.map f → L.Nodup → ∀ [DecidableEq α], ∃ c : α → Int, l = L.map fun a => (f a, c a)
 | [], [], _, _, _ => ⟨fun _ => 0, rfl⟩
 | [], _ :: _, h, _, _ => by simp at h
 | _ :: _, [], h, _, _ => by simp at h
 | a :: L, p :: l, h, hn, _ => by
  simp only [List.map_cons, List.cons.injEq] at h
  have hn := List.nodup_cons.1 hn
  obtain ⟨c, hc⟩ := pairs_of f h.2 hn.2
  refine ⟨fun x => if x = a then p.2 else c x, ?_⟩
  rw [List.map_cons]
  simp only [if_true]
  rw [← h.1, hc]
  congr 1
  refine List.map_congr_left (fun x hx => ?_)
  rw [if_neg (fun e : x = a => hn.1 (e ▸ hx))]
theorem canGo_iff (w : Wo) (hm : MovesOk w) (st : Sts) {M : Nat} {num : Spot → Nat} (hlt : ∀ s, UsedS w s → num s < M) (hon : ∀ x, x < M → ∃ s, UsedS w s ∧ num s = x) (hinj : ∀ s t, UsedS w s → UsedS w t → num s = num t → s = t) :
  CanGo M (pps w st num) ↔ CanSt w st := by
 have hb : ∀ c : Lb → Int, (∀ x, x < M → esum (fun p : Pg => inn p.1.u p.1.v p.2 x) ((labels w).map fun b => ((⟨num (Lb.U w b), num (Lb.V w b), (Lb.R w st b).lo, (Lb.R w st b).hi⟩ : Pp), c b)) = 0) ↔ ∀ s, UsedS w s → bal w c s = 0 := fun c => by
  have e : ∀ s, UsedS w s → esum (fun p : Pg => inn p.1.u p.1.v p.2 (num s)) ((labels w).map fun b => ((⟨num (Lb.U w b), num (Lb.V w b), (Lb.R w st b).lo, (Lb.R w st b).hi⟩ : Pp), c b)) = bal w c s := fun s hs => by
   rw [esum_map]
   unfold bal
   refine esum_congr (fun b hb => ?_)
   have hu := used_uv hm hb
   unfold inn sinn
   congr 1
   ·
    by_cases h : Lb.V w b = s
    ·
     rw [if_pos h, h, if_pos rfl]
    ·
     rw [if_neg h, if_neg (fun e => h (hinj _ _ hu.2 hs e))]
   ·
    by_cases h : Lb.U w b = s
    ·
     rw [if_pos h, h, if_pos rfl]
    ·
     rw [if_neg h, if_neg (fun e => h (hinj _ _ hu.1 hs e))]
  constructor
  ·
   intro h s hs
   rw [← e s hs]; exact h _ (hlt s hs)
  ·
   intro h x hx
   obtain ⟨s, hs, rfl⟩ := hon x hx
   rw [e s hs]; exact h s hs
 rw [canSt_iff w hm]
 constructor
 ·
  rintro ⟨l, hl, hg⟩
  obtain ⟨c, rfl⟩ := pairs_of _ hl (nodup_labels w)
  refine ⟨c, fun b hbm => ?_, (hb c).1 hg.bal⟩
  exact hg.bd _ (List.mem_map_of_mem (f := fun b => ((⟨num (Lb.U w b), num (Lb.V w b), (Lb.R w st b).lo, (Lb.R w st b).hi⟩ : Pp), c b)) hbm)
 ·
  rintro ⟨c, h1, h2⟩
  refine ⟨(labels w).map fun b => ((⟨num (Lb.U w b), num (Lb.V w b), (Lb.R w st b).lo, (Lb.R w st b).hi⟩ : Pp), c b), by simp [pps], ⟨fun p hp => ?_, (hb c).2 h2⟩⟩
  obtain ⟨b, hbm, rfl⟩ := List.mem_map.1 hp
  exact h1 b hbm
end Go.Proofs.Ythihdiilokdidaa
end

section
namespace Go.Proofs.Ythihdiilokdidaa
structure Tm where
  rates : List Rg
  hours : List Int
  limit : Int
  most : Int
structure V3 where
  a : Int
  b : Int
  c : Int
  deriving DecidableEq, Inhabited
def V3.get (v : V3) : Nat → Int
  | 0 => v.a
  | 1 => v.b
  | 2 => v.c
  | _ => 0
def V3.set (v : V3) (i : Nat) (x : Int) : V3 := match i with | 0 => ⟨x, v.b, v.c⟩ | 1 => ⟨v.a, x, v.c⟩ | 2 => ⟨v.a, v.b, x⟩ | _ => v
def V3.sub (v u : V3) : V3 := ⟨v.a - u.a, v.b - u.b, v.c - u.c⟩
def z3 : V3 := ⟨0, 0, 0⟩
theorem V3.ext' {u v : V3} (h : ∀ i, i < 3 → u.get i = v.get i) : u = v := by
  obtain ⟨a, b, c⟩ := u
  obtain ⟨a', b', c'⟩ := v
  have h0 := h 0 (by omega)
  have h1 := h 1 (by omega)
  have h2 := h 2 (by omega)
  simp only [V3.get] at h0 h1 h2
  simp [h0, h1, h2]
theorem V3.sub_get (v u : V3) (i : Nat) : (v.sub u).get i = v.get i - u.get i := by
  match i with
  | 0 => rfl
  | 1 => rfl
  | 2 => rfl
  | i + 3 => simp [V3.get]
theorem V3.set_get (v : V3) (i j : Nat) (x : Int) (hi : i < 3) : (v.set i x).get j = if j = i then x else v.get j := by
  match i, hi, j with
  | 0, _, 0 => rfl
  | 0, _, 1 => rfl
  | 0, _, 2 => rfl
  | 0, _, j + 3 => simp [V3.get]
  | 1, _, 0 => rfl
  | 1, _, 1 => rfl
  | 1, _, 2 => rfl
  | 1, _, j + 3 => simp [V3.get]
  | 2, _, 0 => rfl
  | 2, _, 1 => rfl
  | 2, _, 2 => rfl
  | 2, _, j + 3 => simp [V3.get]
def V3.sum (v : V3) : Int := v.a + v.b + v.c
theorem V3.sub_sum (v u : V3) : (v.sub u).sum = v.sum - u.sum := by simp only [V3.sum, V3.sub]; omega
theorem V3.sub_z (v : V3) : v.sub z3 = v := by simp [V3.sub, z3]

def hrsTo (d : V3) (k : Nat) : Int := esum (fun i => d.get i) (List.range k)
def brTo (t : Tm) (d : V3) (k : Nat) : Int := esum (fun i => d.get i * (gR t.rates i).hi) (List.range k)
theorem hrsTo_succ (d : V3) (k : Nat) : hrsTo d (k + 1) = hrsTo d k + d.get k := by
  unfold hrsTo; rw [List.range_succ, esum_app]; simp [esum]
theorem brTo_succ (t : Tm) (d : V3) (k : Nat) : brTo t d (k + 1) = brTo t d k + d.get k * (gR t.rates k).hi := by
  unfold brTo; rw [List.range_succ, esum_app]; simp [esum]
def mayB (t : Tm) (d : V3) : Bool := decide (hrsTo d t.rates.length ≤ t.most) && decide (brTo t d t.rates.length ≤ t.limit)
structure TmOk (t : Tm) : Prop where
  len : 0 < t.rates.length ∧ t.rates.length ≤ 3 ∧ t.hours.length = t.rates.length
  rate : ∀ i, i < t.rates.length → 0 ≤ (gR t.rates i).lo ∧ (gR t.rates i).lo ≤ (gR t.rates i).hi ∧ (gR t.rates i).hi ≤ 100
  hour : ∀ i, i < t.rates.length → 0 ≤ gI t.hours i ∧ gI t.hours i ≤ 8
  limit : 0 ≤ t.limit ∧ t.limit ≤ 1000
  most : 0 ≤ t.most ∧ t.most ≤ 8
structure HrOk (t : Tm) (l : V3) : Prop where
  bd : ∀ i, i < 3 → 0 ≤ l.get i ∧ l.get i ≤ 8
  far : ∀ i, t.rates.length ≤ i → l.get i = 0
structure Part (t : Tm) (d l : V3) : Prop where
  bd : ∀ i, i < 3 → 0 ≤ d.get i ∧ d.get i ≤ l.get i
  may : mayB t d = true
def Does (t : Tm) : Nat → V3 → Prop
  | 0, l => l = z3
  | m + 1, l => ∃ d, Part t d l ∧ Does t m (l.sub d)
def FewIs (t : Tm) (l : V3) (m : Nat) : Prop := (m ≤ 6 ∧ Does t m l ∧ ∀ k, k < m → ¬ Does t k l) ∨ (m = 7 ∧ ∀ k, k ≤ 6 → ¬ Does t k l)
section
variable {t : Tm} {l d : V3}
theorem Part.hr (h : Part t d l) (hl : HrOk t l) : HrOk t d ∧ HrOk t (l.sub d) := by
  refine ⟨⟨fun i hi => ?_, fun i hi => ?_⟩, ⟨fun i hi => ?_, fun i hi => ?_⟩⟩
  · have := h.bd i hi; have := hl.bd i hi; omega
  · have h3 := hl.far i hi
    by_cases hi3 : i < 3
    · have := h.bd i hi3; omega
    · match i, hi3 with
      | i + 3, _ => rfl
  · rw [V3.sub_get]; have := h.bd i hi; have := hl.bd i hi; omega
  · rw [V3.sub_get]
    have h3 := hl.far i hi
    by_cases hi3 : i < 3
    · have := h.bd i hi3; omega
    · match i, hi3 with
      | i + 3, _ => rfl
theorem FewIs.uniq {m m' : Nat} (h : FewIs t l m) (h' : FewIs t l m') : m = m' := by
  rcases h with ⟨h1, h2, h3⟩ | ⟨h1, h2⟩ <;> rcases h' with ⟨k1, k2, k3⟩ | ⟨k1, k2⟩
  · rcases Nat.lt_trichotomy m m' with h | h | h
    · exact absurd h2 (k3 m h)
    · exact h
    · exact absurd k2 (h3 m' h)
  · exact absurd h2 (k2 m h1)
  · exact absurd k2 (h2 m' k1)
  · omega
theorem FewIs.zero : FewIs t z3 0 := .inl ⟨by omega, rfl, fun k hk => by omega⟩
theorem FewIs.ex (l : V3) : ∃ m, FewIs t l m := by
  classical
  have : ∀ n, (∃ k, k < n ∧ Does t k l ∧ ∀ j, j < k → ¬ Does t j l) ∨ ∀ k, k < n → ¬ Does t k l := fun n => by
    induction n with
    | zero => exact .inr (fun k hk => by omega)
    | succ n ih =>
      rcases ih with ⟨k, h1, h2⟩ | h
      · exact .inl ⟨k, by omega, h2⟩
      · by_cases hn : Does t n l
        · exact .inl ⟨n, by omega, hn, h⟩
        · exact .inr (fun k hk => by
            rcases Nat.lt_succ_iff_lt_or_eq.1 hk with h' | h'
            · exact h k h'
            · exact h' ▸ hn)
  rcases this 7 with ⟨k, h1, h2, h3⟩ | h
  · exact ⟨k, .inl ⟨by omega, h2, h3⟩⟩
  · exact ⟨7, .inr ⟨rfl, fun k hk => h k (by omega)⟩⟩
theorem FewIs.le {m k : Nat} (h : FewIs t l m) (hk : Does t k l) : m ≤ k ∨ (m = 7 ∧ 7 ≤ k) := by
  rcases h with ⟨_, _, h3⟩ | ⟨h1, h2⟩
  · rcases Nat.lt_or_ge k m with h | h
    · exact absurd hk (h3 k h)
    · exact .inl h
  · rcases Nat.lt_or_ge k 7 with h | h
    · exact absurd hk (h2 k (by omega))
    · exact .inr ⟨h1, h⟩
theorem FewIs.pos {m : Nat} (h : FewIs t l m) (hl : l ≠ z3) : 0 < m := by
  rcases h with ⟨_, h2, _⟩ | ⟨h1, _⟩
  · cases m with
    | zero => exact absurd h2 hl
    | succ m => omega
  · omega
structure Looked (t : Tm) (l : V3) (ds : List V3) (m : Nat) (own : V3) : Prop where
  le : m ≤ 7
  at_ : m < 7 → Part t own l ∧ own ≠ z3 ∧ ∃ k, FewIs t (l.sub own) k ∧ m = k + 1
  least : ∀ d ∈ ds, ∀ k, FewIs t (l.sub d) k → m ≤ k + 1
theorem Looked.nil : Looked t l [] 7 z3 := ⟨by omega, fun h => absurd h (by omega), fun d hd => by cases hd⟩
theorem Looked.step {ds : List V3} {m k : Nat} {own : V3} (h : Looked t l ds m own) (hd : Part t d l) (hz : d ≠ z3) (hk : FewIs t (l.sub d) k) : Looked t l (ds ++ [d]) (if k + 1 < m then k + 1 else m) (if k + 1 < m then d else own) := by
  by_cases hlt : k + 1 < m
  · rw [if_pos hlt, if_pos hlt]
    refine ⟨by have := h.le; omega, fun _ => ⟨hd, hz, k, hk, rfl⟩, fun e he j hj => ?_⟩
    rcases List.mem_append.1 he with he | he
    · have := h.least e he j hj; omega
    · rw [List.mem_singleton.1 he] at hj
      rw [hk.uniq hj]; omega
  · rw [if_neg hlt, if_neg hlt]
    refine ⟨h.le, h.at_, fun e he j hj => ?_⟩
    rcases List.mem_append.1 he with he | he
    · exact h.least e he j hj
    · rw [List.mem_singleton.1 he] at hj
      rw [hk.uniq hj] at hlt; omega
theorem Looked.few {ds : List V3} {m : Nat} {own : V3} (h : Looked t l ds m own) (hl : l ≠ z3) (hds : ∀ d, Part t d l → d ≠ z3 → d ∈ ds) : FewIs t l m := by
  obtain ⟨k, hk⟩ := FewIs.ex (t := t) l
  have h1 : m ≤ k := by
    rcases hk with ⟨h6, hd, hm⟩ | ⟨h7, _⟩
    · cases k with
      | zero => exact absurd hd hl
      | succ k =>
        obtain ⟨d, hp, hd2⟩ := hd
        have hz : d ≠ z3 := fun e => by subst e; rw [V3.sub_z] at hd2; exact hm k (by omega) hd2
        obtain ⟨j, hj⟩ := FewIs.ex (t := t) (l.sub d)
        have h3 := h.least d (hds d hp hz) j hj
        rcases hj.le hd2 with h4 | ⟨h4, h5⟩ <;> omega
    · have := h.le; omega
  have h2 : k ≤ m := by
    rcases Nat.lt_or_ge m 7 with h7 | h7
    · obtain ⟨hp, hz, j, hj, e⟩ := h.at_ h7
      rcases hj with ⟨_, hd, _⟩ | ⟨e7, _⟩
      · have hd : Does t m l := by rw [e]; exact ⟨own, hp, hd⟩
        rcases hk.le hd with h8 | h8 <;> omega
      · omega
    · rcases hk with ⟨h6, _⟩ | ⟨h7', _⟩ <;> omega
  have : m = k := by omega
  rw [this]; exact hk
structure PlanIs (t : Tm) (l : V3) (m : Nat) (own : V3) : Prop where
  few : FewIs t l m
  own : 0 < m → m < 7 → Part t own l ∧ own ≠ z3 ∧ FewIs t (l.sub own) (m - 1)
theorem Looked.plan {ds : List V3} {m : Nat} {own : V3} (h : Looked t l ds m own) (hl : l ≠ z3) (hds : ∀ d, Part t d l → d ≠ z3 → d ∈ ds) : PlanIs t l m own :=
  ⟨h.few hl hds, fun _ h7 => by
    obtain ⟨hp, hz, j, hj, e⟩ := h.at_ h7
    exact ⟨hp, hz, by rw [e]; simpa using hj⟩⟩
theorem PlanIs.zero : PlanIs t z3 0 z3 := ⟨.zero, fun h => by omega⟩
theorem part_sum (h : Part t d l) (hz : d ≠ z3) : (l.sub d).sum < l.sum ∧ 0 ≤ (l.sub d).sum := by
  rw [V3.sub_sum]
  have h0 := h.bd 0 (by omega)
  have h1 := h.bd 1 (by omega)
  have h2 := h.bd 2 (by omega)
  simp only [V3.get] at h0 h1 h2
  have : ¬ (d.a = 0 ∧ d.b = 0 ∧ d.c = 0) := fun ⟨a, b, c⟩ => hz (by obtain ⟨x, y, z⟩ := d; simp only at a b c; subst a b c; rfl)
  simp only [V3.sum]
  omega
end
section
variable {t : Tm}
theorem hrsTo_mono {d e : V3} (h : ∀ i, d.get i ≤ e.get i) (k : Nat) : hrsTo d k ≤ hrsTo e k := esum_le (fun i _ => h i)
theorem brTo_mono (ht : TmOk t) {d e : V3} (h : ∀ i, d.get i ≤ e.get i) {k : Nat} (hk : k ≤ t.rates.length) : brTo t d k ≤ brTo t e k := esum_le (fun i hi => by
  have hi : i < k := by simpa using hi
  have h1 := ht.rate i (by omega)
  exact Int.mul_le_mul_of_nonneg_right (h i) (by omega))
theorem mayB_mono (ht : TmOk t) {d e : V3} (h : ∀ i, d.get i ≤ e.get i) (he : mayB t e = true) : mayB t d = true := by
  have h1 := hrsTo_mono h t.rates.length
  have h2 := brTo_mono ht h (Nat.le_refl _)
  simp only [mayB, Bool.and_eq_true, decide_eq_true_eq] at he ⊢
  omega
end
end Go.Proofs.Ythihdiilokdidaa
end

section
namespace Go.Proofs.Ythihdiilokdidaa

structure Ar where
  tgt : Nat
  room : Int
  back : Nat
  deriving DecidableEq, Inhabited
def cntE : List Ed → Nat → Nat
  | [], _ => 0
  | e :: l, x => (if e.u = x ∨ e.v = x then 1 else 0) + cntE l x
def pieceE (pre : List Ed) (e : Ed) (x : Nat) : List Ar :=
  if e.u = x then [⟨e.v, e.cap - e.fl, cntE pre e.v⟩] else if e.v = x then [⟨e.u, e.fl, cntE pre e.u⟩] else []
def rowFrom : List Ed → List Ed → Nat → List Ar
  | _, [], _ => []
  | pre, e :: l, x => pieceE pre e x ++ rowFrom (pre ++ [e]) l x
def rowE (es : List Ed) (x : Nat) : List Ar := rowFrom [] es x
theorem cntE_app : ∀ (l m : List Ed) (x : Nat), cntE (l ++ m) x = cntE l x + cntE m x
  | [], m, x => by simp [cntE]
  | e :: l, m, x => by simp only [List.cons_append, cntE, cntE_app l m x]; omega
theorem cntE_shape : ∀ {l m : List Ed}, l.map Ed.shape = m.map Ed.shape → ∀ x, cntE l x = cntE m x
  | [], [], _, _ => rfl
  | [], _ :: _, h, _ => by simp at h
  | _ :: _, [], h, _ => by simp at h
  | e :: l, f :: m, h, x => by
    simp only [List.map_cons, List.cons.injEq, Ed.shape, Prod.mk.injEq] at h
    rw [cntE, cntE, cntE_shape h.2 x, h.1.1, h.1.2.1]
theorem pieceE_len (pre : List Ed) (e : Ed) (x : Nat) : (pieceE pre e x).length = if e.u = x ∨ e.v = x then 1 else 0 := by
  unfold pieceE
  by_cases h1 : e.u = x
  · simp [h1]
  · by_cases h2 : e.v = x <;> simp [h1, h2]
theorem rowFrom_len : ∀ (l pre : List Ed) (x : Nat), (rowFrom pre l x).length = cntE l x
  | [], _, _ => rfl
  | e :: l, pre, x => by rw [rowFrom, List.length_append, pieceE_len, rowFrom_len l, cntE]
theorem rowE_len (es : List Ed) (x : Nat) : (rowE es x).length = cntE es x := rowFrom_len es [] x
theorem rowFrom_app : ∀ (l m pre : List Ed) (x : Nat), rowFrom pre (l ++ m) x = rowFrom pre l x ++ rowFrom (pre ++ l) m x
  | [], m, pre, x => by simp [rowFrom]
  | e :: l, m, pre, x => by rw [List.cons_append, rowFrom, rowFrom_app l m, rowFrom, List.append_assoc]; simp
theorem rowFrom_pre {l : List Ed} : ∀ {pre pre' : List Ed} (x : Nat), (∀ y, cntE pre y = cntE pre' y) → rowFrom pre l x = rowFrom pre' l x := by
  induction l with
  | nil => intros; rfl
  | cons e l ih =>
    intro pre pre' x h
    rw [rowFrom, rowFrom, ih (pre := pre ++ [e]) (pre' := pre' ++ [e]) x (fun y => by rw [cntE_app, cntE_app, h y])]
    unfold pieceE
    rw [h, h]
theorem rowE_snoc (es : List Ed) (e : Ed) (x : Nat) : rowE (es ++ [e]) x = rowE es x ++ pieceE es e x := by
  unfold rowE
  rw [rowFrom_app]
  simp [rowFrom]
structure EdgeAt (es : List Ed) (k : Nat) (e : Ed) : Prop where
  lt : k < es.length
  at_ : es[k]? = some e
def posE (es : List Ed) (k : Nat) (x : Nat) : Nat := cntE (es.take k) x
theorem split_at {es : List Ed} {k : Nat} {e : Ed} (h : es[k]? = some e) : es = es.take k ++ e :: es.drop (k + 1) := by
  have hk : k < es.length := by
    rcases Nat.lt_or_ge k es.length with h' | h'
    · exact h'
    · rw [List.getElem?_eq_none h'] at h; cases h
  have : es[k] = e := by rw [List.getElem?_eq_getElem hk] at h; exact Option.some.inj h
  rw [← this, List.getElem_cons_drop, List.take_append_drop]
theorem rowE_split {es : List Ed} {k : Nat} {e : Ed} (h : es[k]? = some e) (x : Nat) : rowE es x = rowE (es.take k) x ++ pieceE (es.take k) e x ++ rowFrom (es.take k ++ [e]) (es.drop (k + 1)) x := by
  have h1 := split_at h
  unfold rowE
  conv => lhs; rw [h1]
  rw [rowFrom_app, rowFrom]
  simp
theorem rowE_at {es : List Ed} {k : Nat} {e : Ed} (h : es[k]? = some e) {x : Nat} {a : Ar} (hp : pieceE (es.take k) e x = [a]) : (rowE es x)[posE es k x]? = some a := by
  rw [rowE_split h x, hp, List.append_assoc, List.getElem?_append_right (by rw [rowE_len]; exact Nat.le_refl _), rowE_len]
  simp [posE]
theorem arc_edge : ∀ {l pre : List Ed} {x i : Nat} {a : Ar}, (rowFrom pre l x)[i]? = some a → ∃ k e, l[k]? = some e ∧ cntE (l.take k) x = i ∧ pieceE (pre ++ l.take k) e x = [a]
  | [], _, _, _, _, h => by simp [rowFrom] at h
  | e :: l, pre, x, i, a, h => by
    rw [rowFrom] at h
    have hlen := pieceE_len pre e x
    by_cases hi : i < (pieceE pre e x).length
    · rw [List.getElem?_append_left hi] at h
      refine ⟨0, e, rfl, ?_, ?_⟩
      · simp only [List.take_zero, cntE]
        split at hlen <;> omega
      · simp only [List.take_zero, List.append_nil]
        generalize pieceE pre e x = l at *
        match l, hlen with
        | [], _ => simp at hi
        | [b], _ =>
          have : i = 0 := by simpa using hi
          subst this
          simpa using h
        | _ :: _ :: _, hlen => simp at hlen; split at hlen <;> omega
    · rw [List.getElem?_append_right (by omega)] at h
      obtain ⟨k, e', h1, h2, h3⟩ := arc_edge h
      refine ⟨k + 1, e', by simpa using h1, ?_, by simpa using h3⟩
      simp only [List.take_succ_cons, cntE]
      omega
theorem rowE_set {es : List Ed} {k : Nat} {e e' : Ed} (h : es[k]? = some e) (hs : e'.u = e.u ∧ e'.v = e.v) (x : Nat) :
    rowE (es.set k e') x = rowE (es.take k) x ++ pieceE (es.take k) e' x ++ rowFrom (es.take k ++ [e]) (es.drop (k + 1)) x := by
  have hk : k < es.length := by
    rcases Nat.lt_or_ge k es.length with h' | h'
    · exact h'
    · rw [List.getElem?_eq_none h'] at h; cases h
  have h2 : (es.set k e')[k]? = some e' := by simp [hk]
  rw [rowE_split h2 x]
  have h3 : (es.set k e').take k = es.take k := by rw [List.take_set_of_le (Nat.le_refl _)]
  have h4 : (es.set k e').drop (k + 1) = es.drop (k + 1) := by rw [List.drop_set_of_lt (by omega)]
  rw [h3, h4]
  congr 1
  refine rowFrom_pre x (fun y => ?_)
  rw [cntE_app, cntE_app]
  simp only [cntE, hs.1, hs.2]
theorem rowE_set_ne {es : List Ed} {k : Nat} {e e' : Ed} (h : es[k]? = some e) (hs : e'.u = e.u ∧ e'.v = e.v) {x : Nat} (h1 : e.u ≠ x) (h2 : e.v ≠ x) : rowE (es.set k e') x = rowE es x := by
  rw [rowE_set h hs, rowE_split h x]
  congr 2
  unfold pieceE
  rw [if_neg (by omega), if_neg (by omega), if_neg h1, if_neg h2]
theorem rowE_set_at {es : List Ed} {k : Nat} {e e' : Ed} (h : es[k]? = some e) (hs : e'.u = e.u ∧ e'.v = e.v) {x : Nat} {a a' : Ar} (h1 : pieceE (es.take k) e x = [a]) (h2 : pieceE (es.take k) e' x = [a']) : rowE (es.set k e') x = (rowE es x).set (posE es k x) a' := by
  rw [rowE_set h hs, rowE_split h x, h1, h2, List.append_assoc, List.append_assoc, show posE es k x = (rowE (es.take k) x).length from by rw [rowE_len]; rfl, List.set_append_right _ _ (Nat.le_refl _)]
  simp
theorem piece_u {pre : List Ed} {e : Ed} : pieceE pre e e.u = [⟨e.v, e.cap - e.fl, cntE pre e.v⟩] := by unfold pieceE; rw [if_pos rfl]
theorem piece_v {pre : List Ed} {e : Ed} (h : e.u ≠ e.v) : pieceE pre e e.v = [⟨e.u, e.fl, cntE pre e.u⟩] := by unfold pieceE; rw [if_neg h, if_pos rfl]
theorem piece_one {pre : List Ed} {e : Ed} {x : Nat} {a : Ar} (h : pieceE pre e x = [a]) : (e.u = x ∧ a = ⟨e.v, e.cap - e.fl, cntE pre e.v⟩) ∨ (e.u ≠ x ∧ e.v = x ∧ a = ⟨e.u, e.fl, cntE pre e.u⟩) := by
  unfold pieceE at h
  split at h
  · rename_i h1; left; exact ⟨h1, by simpa using h.symm⟩
  · rename_i h1
    split at h
    · rename_i h2; right; exact ⟨h1, h2, by simpa using h.symm⟩
    · cases h

structure ArcAt (es : List Ed) (x i : Nat) (a : Ar) (k : Nat) (e : Ed) (sg : Int) : Prop where
  ed : es[k]? = some e
  way : (e.u = x ∧ e.v = a.tgt ∧ sg = 1 ∧ a.room = e.cap - e.fl) ∨ (e.v = x ∧ e.u = a.tgt ∧ sg = -1 ∧ a.room = e.fl)
  ne : e.u ≠ e.v
  bk : a.back < (rowE es a.tgt).length
  more : ∀ g : Int, rowE (es.set k ⟨e.u, e.v, e.cap, e.fl + sg * g⟩) x = (rowE es x).set i ⟨a.tgt, a.room - g, a.back⟩ ∧
    (∃ b, (rowE es a.tgt)[a.back]? = some b ∧ rowE (es.set k ⟨e.u, e.v, e.cap, e.fl + sg * g⟩) a.tgt = (rowE es a.tgt).set a.back ⟨b.tgt, b.room + g, b.back⟩) ∧
    ∀ y, y ≠ x → y ≠ a.tgt → rowE (es.set k ⟨e.u, e.v, e.cap, e.fl + sg * g⟩) y = rowE es y
theorem arcAt {es : List Ed} (hne : ∀ e ∈ es, e.u ≠ e.v) {x i : Nat} {a : Ar} (h : (rowE es x)[i]? = some a) : ∃ k e sg, ArcAt es x i a k e sg := by
  obtain ⟨k, e, h1, h2, h3⟩ := arc_edge h
  simp only [List.nil_append] at h3
  have hn : e.u ≠ e.v := hne e (List.mem_of_getElem? h1)
  have hpos : posE es k x = i := h2
  rcases piece_one h3 with ⟨hu, ha⟩ | ⟨hu, hv, ha⟩
  · have hb := rowE_at h1 (piece_v (pre := es.take k) hn)
    refine ⟨k, e, 1, h1, .inl ⟨hu, by rw [ha], rfl, by rw [ha]⟩, hn, ?_, fun g => ⟨?_, ⟨⟨e.u, e.fl, cntE (es.take k) e.u⟩, ?_, ?_⟩, fun y y1 y2 => ?_⟩⟩
    · rw [ha]
      have := (List.getElem?_eq_some_iff.1 hb).1
      exact this
    · have := rowE_set_at (e' := ⟨e.u, e.v, e.cap, e.fl + 1 * g⟩) h1 ⟨rfl, rfl⟩ (x := x) (a := a) h3 (by rw [← hu]; exact piece_u)
      rw [this, hpos, ha]
      simp only
      congr 2
      omega
    · rw [ha]; exact hb
    · have := rowE_set_at (e' := ⟨e.u, e.v, e.cap, e.fl + 1 * g⟩) h1 ⟨rfl, rfl⟩ (x := e.v) (piece_v hn) (piece_v (e := ⟨e.u, e.v, e.cap, e.fl + 1 * g⟩) hn)
      rw [ha]
      simp only
      rw [this]
      congr 2
      simp
    · rw [ha] at y2
      exact rowE_set_ne (e' := ⟨e.u, e.v, e.cap, e.fl + 1 * g⟩) h1 ⟨rfl, rfl⟩ (by omega) (fun h => y2 h.symm)
  · have hb := rowE_at h1 (piece_u (pre := es.take k) (e := e))
    refine ⟨k, e, -1, h1, .inr ⟨hv, by rw [ha], rfl, by rw [ha]⟩, hn, ?_, fun g => ⟨?_, ⟨⟨e.v, e.cap - e.fl, cntE (es.take k) e.v⟩, ?_, ?_⟩, fun y y1 y2 => ?_⟩⟩
    · rw [ha]
      exact (List.getElem?_eq_some_iff.1 hb).1
    · have := rowE_set_at (e' := ⟨e.u, e.v, e.cap, e.fl + -1 * g⟩) h1 ⟨rfl, rfl⟩ (x := x) (a := a) h3 (by rw [← hv]; exact piece_v (e := ⟨e.u, e.v, e.cap, e.fl + -1 * g⟩) hn)
      rw [this, hpos, ha]
      simp only
      congr 2
      omega
    · rw [ha]; exact hb
    · have := rowE_set_at (e' := ⟨e.u, e.v, e.cap, e.fl + -1 * g⟩) h1 ⟨rfl, rfl⟩ (x := e.u) piece_u (piece_u (e := ⟨e.u, e.v, e.cap, e.fl + -1 * g⟩))
      rw [ha]
      simp only
      rw [this]
      congr 2
      show e.cap - (e.fl + -1 * g) = e.cap - e.fl + g
      omega
    · rw [ha] at y2
      exact rowE_set_ne (e' := ⟨e.u, e.v, e.cap, e.fl + -1 * g⟩) h1 ⟨rfl, rfl⟩ (fun h => y2 h.symm) (by omega)

def seenCnt (S : Nat → Bool) (n : Nat) : Nat := ((List.range n).filter (fun x => !S x)).length
theorem seen_less {S : Nat → Bool} {n x : Nat} (hx : x < n) (h : S x = false) : seenCnt (fun y => if y = x then true else S y) n < seenCnt S n := by
  unfold seenCnt
  induction n with
  | zero => omega
  | succ n ih =>
    rw [List.range_succ, List.filter_append, List.filter_append, List.length_append, List.length_append]
    by_cases e : x = n
    · subst e
      have h1 : (List.filter (fun y => !(if y = x then true else S y)) (List.range x)) = List.filter (fun y => !S y) (List.range x) := List.filter_congr (fun y hy => by
        have : y < x := by simpa using hy
        rw [if_neg (by omega)])
      rw [h1]
      simp [h]
    · have := ih (by omega)
      have h2 : (List.filter (fun y => !(if y = x then true else S y)) [n]).length = (List.filter (fun y => !S y) [n]).length := by
        congr 1
        refine List.filter_congr (fun y hy => ?_)
        rw [List.mem_singleton.1 hy, if_neg (fun h => e h.symm)]
      simp only at h2 this ⊢
      omega
theorem seen_mono {S S' : Nat → Bool} {n : Nat} (h : ∀ x, x < n → S x = true → S' x = true) : seenCnt S' n ≤ seenCnt S n := by
  unfold seenCnt
  induction n with
  | zero => simp
  | succ n ih =>
    rw [List.range_succ, List.filter_append, List.filter_append, List.length_append, List.length_append]
    have h1 := ih (fun x hx => h x (by omega))
    have h2 : (List.filter (fun x => !S' x) [n]).length ≤ (List.filter (fun x => !S x) [n]).length := by
      have := h n (by omega)
      cases hs : S n <;> cases hs' : S' n <;> simp [hs, hs'] at this ⊢
    omega

def ClosedE (es : List Ed) (S S' : Nat → Bool) : Prop := ∀ x, S' x = true → S x = false → ∀ a ∈ rowE es x, a.room ≠ 0 → S' a.tgt = true
structure WalkIs (N : Nat) (es es' : List Ed) (S S' : Nat → Bool) (x t : Nat) (grams got : Int) : Prop where
  mono : ∀ y, S y = true → S' y = true
  none : got = 0 → es' = es ∧ S' x = true ∧ S' t = false ∧ ClosedE es S S'
  bd : 0 ≤ got ∧ got ≤ grams
  shape : es'.map Ed.shape = es.map Ed.shape
  cap : ∀ e ∈ es', 0 ≤ e.fl ∧ e.fl ≤ e.cap
  flow : ∀ y, flows es' y = flows es y - (if y = x then got else 0) + (if y = t then got else 0)
  same : ∀ (k : Nat) (e : Ed), es[k]? = some e → S e.u = true ∨ S e.v = true → es'[k]? = some e
structure EdsOk (N : Nat) (es : List Ed) : Prop where
  lt : ∀ e ∈ es, e.u < N ∧ e.v < N
  ne : ∀ e ∈ es, e.u ≠ e.v
  bd : ∀ e ∈ es, 0 ≤ e.fl ∧ e.fl ≤ e.cap
theorem shape_mem {es es' : List Ed} (h : es'.map Ed.shape = es.map Ed.shape) {e : Ed} (he : e ∈ es') : ∃ f ∈ es, f.shape = e.shape := by
  have : e.shape ∈ es.map Ed.shape := by rw [← h]; exact List.mem_map_of_mem he
  obtain ⟨f, hf, e2⟩ := List.mem_map.1 this
  exact ⟨f, hf, e2⟩
theorem EdsOk.shape {N : Nat} {es es' : List Ed} (h : EdsOk N es) (hs : es'.map Ed.shape = es.map Ed.shape) (hb : ∀ e ∈ es', 0 ≤ e.fl ∧ e.fl ≤ e.cap) : EdsOk N es' :=
  ⟨fun e he => by obtain ⟨f, hf, e2⟩ := shape_mem hs he; have := h.lt f hf; simp only [Ed.shape, Prod.mk.injEq] at e2; omega,
   fun e he => by obtain ⟨f, hf, e2⟩ := shape_mem hs he; have := h.ne f hf; simp only [Ed.shape, Prod.mk.injEq] at e2; omega, hb⟩
theorem arc_lt {N : Nat} {es : List Ed} (h : EdsOk N es) {x i : Nat} {a : Ar} (ha : (rowE es x)[i]? = some a) : a.tgt < N ∧ a.tgt ≠ x ∧ 0 ≤ a.room := by
  obtain ⟨k, e, sg, hA⟩ := arcAt h.ne ha
  have he := List.mem_of_getElem? hA.ed
  have h1 := h.lt e he
  have h2 := h.bd e he
  have h3 := h.ne e he
  rcases hA.way with ⟨a1, a2, _, a4⟩ | ⟨a1, a2, _, a4⟩ <;> omega
theorem WalkIs.here {N : Nat} {es : List Ed} (ho : EdsOk N es) {S : Nat → Bool} {t : Nat} {grams : Int} (hg : 0 < grams) : WalkIs N es es S S t t grams grams :=
  ⟨fun _ h => h, fun h => by omega, by omega, rfl, ho.bd, fun y => by split <;> omega, fun _ _ h _ => h⟩
structure WkLoop (N : Nat) (es : List Ed) (S S1 : Nat → Bool) (x t i : Nat) : Prop where
  mono : ∀ y, S y = true → S1 y = true
  at_ : S1 x = true
  aim : S1 t = false
  arcs : ∀ j a, j < i → (rowE es x)[j]? = some a → a.room ≠ 0 → S1 a.tgt = true
  closed : ∀ y, S1 y = true → S y = false → y ≠ x → ∀ a ∈ rowE es y, a.room ≠ 0 → S1 a.tgt = true
theorem WkLoop.start {N : Nat} {es : List Ed} {S : Nat → Bool} {x t : Nat} (ht : S t = false) (hxt : x ≠ t) : WkLoop N es S (fun y => if y = x then true else S y) x t 0 :=
  ⟨fun y h => by show (if y = x then true else S y) = true; split <;> simp [h], by simp, by show (if t = x then true else S t) = false; rw [if_neg (fun h => hxt h.symm)]; exact ht, fun j a hj => by omega, fun y h1 h2 h3 => by simp only [if_neg h3] at h1; rw [h1] at h2; cases h2⟩
theorem WkLoop.skip {N : Nat} {es : List Ed} {S S1 : Nat → Bool} {x t i : Nat} (h : WkLoop N es S S1 x t i) {a : Ar} (ha : (rowE es x)[i]? = some a) (hs : a.room = 0 ∨ S1 a.tgt = true) : WkLoop N es S S1 x t (i + 1) :=
  ⟨h.mono, h.at_, h.aim, fun j b hj hb hr => by
    rcases Nat.lt_succ_iff_lt_or_eq.1 hj with h' | h'
    · exact h.arcs j b h' hb hr
    · subst h'
      rw [ha] at hb
      injection hb with hb
      subst hb
      rcases hs with h1 | h1
      · exact absurd h1 hr
      · exact h1, h.closed⟩
theorem WkLoop.fail {N : Nat} {es es' : List Ed} {S S1 S2 : Nat → Bool} {x t i : Nat} {g : Int} (h : WkLoop N es S S1 x t i) {a : Ar} (ha : (rowE es x)[i]? = some a) (hw : WalkIs N es es' S1 S2 a.tgt t g 0) : WkLoop N es S S2 x t (i + 1) ∧ es' = es := by
  obtain ⟨h1, h2, h3, h4⟩ := hw.none rfl
  refine ⟨⟨fun y hy => hw.mono y (h.mono y hy), hw.mono x h.at_, h3, fun j b hj hb hr => ?_, fun y hy hn hne b hb hr => ?_⟩, h1⟩
  · rcases Nat.lt_succ_iff_lt_or_eq.1 hj with h' | h'
    · exact hw.mono _ (h.arcs j b h' hb hr)
    · subst h'
      rw [ha] at hb
      injection hb with hb
      subst hb
      exact h2
  · cases hy1 : S1 y
    · exact h4 y hy hy1 b hb hr
    · exact hw.mono _ (h.closed y hy1 hn hne b hb hr)
theorem WkLoop.done {N : Nat} {es : List Ed} (ho : EdsOk N es) {S S1 : Nat → Bool} {x t : Nat} {grams : Int} (hg : 0 ≤ grams) (h : WkLoop N es S S1 x t (rowE es x).length) : WalkIs N es es S S1 x t grams 0 :=
  ⟨h.mono, fun _ => ⟨rfl, h.at_, h.aim, fun y hy hn a ha hr => by
    by_cases e : y = x
    · subst e
      obtain ⟨j, hj, e2⟩ := List.mem_iff_getElem.1 ha
      exact h.arcs j a hj (by rw [List.getElem?_eq_getElem hj, e2]) hr
    · exact h.closed y hy hn e a ha hr⟩, by omega, rfl, ho.bd, fun y => by simp, fun _ _ h _ => h⟩
theorem flows_set {es : List Ed} {k : Nat} {e : Ed} (h : es[k]? = some e) (g : Int) (y : Nat) : flows (es.set k ⟨e.u, e.v, e.cap, e.fl + g⟩) y = flows es y + inn e.u e.v g y := by
  obtain ⟨hk, he⟩ := List.getElem?_eq_some_iff.1 h
  unfold flows
  rw [esum_set _ hk, he]
  simp only
  rw [inn_add]; omega
theorem WkLoop.found {N : Nat} {es es' : List Ed} (ho : EdsOk N es) {S S1 S2 : Nat → Bool} {x t i : Nat} {g grams got : Int} (hS : S x = false) (h : WkLoop N es S S1 x t i) {a : Ar} (ha : (rowE es x)[i]? = some a) (hto0 : S1 a.tgt = false) (hg : g ≤ grams ∧ g ≤ a.room) (hw : WalkIs N es es' S1 S2 a.tgt t g got) (hgot : 0 < got) :
    ∃ k e sg, ArcAt es' x i a k e sg ∧ (rowE es' x)[i]? = some a ∧ WalkIs N es (es'.set k ⟨e.u, e.v, e.cap, e.fl + sg * got⟩) S S2 x t grams got := by
  have ho' := ho.shape hw.shape hw.cap
  obtain ⟨k, e, sg, hA⟩ := arcAt ho.ne ha
  have he' : es'[k]? = some e := hw.same k e hA.ed (by
    rcases hA.way with ⟨a1, _⟩ | ⟨a1, _⟩
    · left; rw [a1]; exact h.at_
    · right; rw [a1]; exact h.at_)
  -- the arc lies as it lay
  have hcnt : ∀ j y, cntE (es'.take j) y = cntE (es.take j) y := fun j y => cntE_shape (by rw [List.map_take, List.map_take, hw.shape]) y
  obtain ⟨k0, e0, q1, q2, q3⟩ := arc_edge ha
  simp only [List.nil_append] at q3
  have he0 : es'[k0]? = some e0 := hw.same k0 e0 q1 (by
    rcases piece_one q3 with ⟨a1, _⟩ | ⟨_, a1, _⟩
    · left; rw [a1]; exact h.at_
    · right; rw [a1]; exact h.at_)
  have ha' : (rowE es' x)[i]? = some a := by
    have hp : pieceE (es'.take k0) e0 x = [a] := by
      rw [← q3]; unfold pieceE; rw [hcnt, hcnt]
    have := rowE_at he0 hp
    rwa [show posE es' k0 x = i from by unfold posE; rw [hcnt]; exact q2] at this
  obtain ⟨k2, e2, sg2, hA2⟩ := arcAt ho'.ne ha'
  refine ⟨k2, e2, sg2, hA2, ha', ?_⟩
  have hm2 := List.mem_of_getElem? hA2.ed
  have hb2 := ho'.bd e2 hm2
  have hto := arc_lt ho ha
  have hbd := hw.bd
  refine ⟨fun y hy => hw.mono y (h.mono y hy), fun h0 => by omega, by omega, ?_, fun f hf => ?_, fun y => ?_, fun j f hj hu => ?_⟩
  · rw [List.map_set]
    show (es'.map Ed.shape).set k2 (e2.u, e2.v, e2.cap) = _
    rw [← hw.shape]
    obtain ⟨hk, hk2⟩ := List.getElem?_eq_some_iff.1 hA2.ed
    refine List.ext_getElem (by simp) (fun n h1 h2 => ?_)
    rw [List.getElem_set]
    split
    · rename_i e3; subst e3
      simp [hk2, Ed.shape]
    · rfl
  · obtain ⟨n, hn, e3⟩ := List.mem_iff_getElem.1 hf
    rw [List.getElem_set] at e3
    split at e3
    · subst e3
      simp only
      rcases hA2.way with ⟨_, _, a3, a4⟩ | ⟨_, _, a3, a4⟩ <;> subst a3 <;> omega
    · exact hw.cap f (by rw [← e3]; exact List.getElem_mem _)
  · rw [flows_set hA2.ed, hw.flow y]
    have : inn e2.u e2.v (sg2 * got) y = (if y = a.tgt then got else 0) - (if y = x then got else 0) := by
      unfold inn
      rcases hA2.way with ⟨a1, a2, a3, a4⟩ | ⟨a1, a2, a3, a4⟩ <;> rw [a1, a2, a3]
      · simp only [Int.one_mul, eq_comm]
      · rw [show (-1 : Int) * got = - got by omega]
        omega
    rw [this]; omega
  · have h1 : es'[j]? = some f := hw.same j f hj (by rcases hu with h' | h'; exact .inl (h.mono _ h'); exact .inr (h.mono _ h'))
    have hne : k2 ≠ j := fun e3 => by
      subst e3
      have := hA2.ed
      rw [h1] at this
      injection this with this
      subst this
      have hs2 : S a.tgt = false := by
        cases h3 : S a.tgt
        · rfl
        · rw [h.mono _ h3] at hto0; cases hto0
      rcases hA2.way with ⟨a1, a2, _⟩ | ⟨a1, a2, _⟩ <;> rw [a1, a2, hS, hs2] at hu <;> simp at hu
    rw [List.getElem?_set_ne hne]
    exact h1
end Go.Proofs.Ythihdiilokdidaa
end

section
namespace Go.Proofs.Ythihdiilokdidaa

structure PushIs (M : Nat) (ps : List Pp) (es : List Ed) (left : Int) : Prop where
  shape : es.map Ed.shape = ps.map (fun p => (p.u, p.v, p.hi - p.lo)) ++ supplies M (needs ps) M
  cap : ∀ e ∈ es, 0 ≤ e.fl ∧ e.fl ≤ e.cap
  bal : ∀ x, x < M → flows es x = 0
  src : flows es M = left - total M (needs ps)
section
variable {M : Nat} {ps : List Pp} {es es' : List Ed} {left : Int}
theorem PushIs.ends (h : PushIs M ps es left) (hp : ∀ p ∈ ps, p.u < M ∧ p.v < M ∧ p.u ≠ p.v) : EdsOk (M + 2) es := by
  have key : ∀ e ∈ es, e.u < M + 2 ∧ e.v < M + 2 ∧ e.u ≠ e.v := fun e he => by
    have : e.shape ∈ ps.map (fun p => (p.u, p.v, p.hi - p.lo)) ++ supplies M (needs ps) M := by rw [← h.shape]; exact List.mem_map_of_mem he
    rcases List.mem_append.1 this with h1 | h1
    · obtain ⟨p, hpm, e2⟩ := List.mem_map.1 h1
      have := hp p hpm
      simp only [Ed.shape, Prod.mk.injEq] at e2
      omega
    · have := mem_supplies h1
      simp only [Ed.shape] at this
      omega
  exact ⟨fun e he => ⟨(key e he).1, (key e he).2.1⟩, fun e he => (key e he).2.2, h.cap⟩
theorem PushIs.bound (h : PushIs M ps es left) (hp : ∀ p ∈ ps, p.u < M ∧ p.v < M ∧ p.u ≠ p.v) : 0 ≤ left := by
  obtain ⟨ea, eb, rfl, ha, hbs⟩ := net_split h.shape
  have hea : ∀ e ∈ ea, e.u < M ∧ e.v < M := fun e he => by
    have : e.shape ∈ ps.map (fun p => (p.u, p.v, p.hi - p.lo)) := by rw [← ha]; exact List.mem_map_of_mem he
    obtain ⟨p, hpm, e2⟩ := List.mem_map.1 this
    have := hp p hpm
    simp only [Ed.shape, Prod.mk.injEq] at e2
    omega
  have heb : ∀ e ∈ eb, (e.u = M ∧ e.v < M) ∨ (e.u < M ∧ e.v = M + 1) := fun e he => by
    have : Ed.shape e ∈ supplies M (needs ps) M := by rw [← hbs]; exact List.mem_map_of_mem he
    exact mem_supplies this
  have hfa : flows ea M = 0 := by
    unfold flows
    rw [esum_congr (h := fun _ => 0), esum_zero]
    intro e he
    have := hea e he
    unfold inn; rw [if_neg (by omega), if_neg (by omega)]; rfl
  have hfb : flows eb M = - esum (fun e : Ed => if e.u = M then e.fl else 0) eb := by
    unfold flows
    rw [← esum_neg]
    refine esum_congr (fun e he => ?_)
    have := heb e he
    unfold inn; rw [if_neg (show ¬ e.v = M by omega)]; omega
  have hcs : esum (fun e : Ed => if e.u = M then e.cap else 0) eb = total M (needs ps) := by
    rw [esum_shape (fun u _ c => if u = M then c else 0) hbs]; exact supplies_src' M _
  have hle : esum (fun e : Ed => if e.u = M then e.fl else 0) eb ≤ esum (fun e : Ed => if e.u = M then e.cap else 0) eb := esum_le (fun e he => by
    have := h.cap e (by simp [he]); split <;> omega)
  have := h.src
  rw [flows_app, hfa, hfb] at this
  omega
theorem PushIs.full (h : PushIs M ps es left) (hp : ∀ p ∈ ps, p.u < M ∧ p.v < M ∧ p.u ≠ p.v) (hl : left ≤ 0) : CanGo M ps := by
  have h0 := h.bound hp
  exact can_of_full (fun p hpm => ⟨(hp p hpm).1, (hp p hpm).2.1⟩) h.shape h.cap h.bal (by rw [h.src]; omega)
theorem PushIs.step (h : PushIs M ps es left) {S S' : Nat → Bool} {g got : Int} (hw : WalkIs (M + 2) es es' S S' M (M + 1) g got) : PushIs M ps es' (left - got) :=
  ⟨hw.shape.trans h.shape, hw.cap, fun x hx => by rw [hw.flow, h.bal x hx, if_neg (by omega), if_neg (by omega)]; omega, by rw [hw.flow, h.src, if_pos rfl, if_neg (by omega)]; omega⟩
theorem PushIs.cut (h : PushIs M ps es left) (hp : ∀ p ∈ ps, p.u < M ∧ p.v < M ∧ p.u ≠ p.v) (hl : 0 < left) {S' : Nat → Bool} {g : Int} (hw : WalkIs (M + 2) es es' (fun _ => false) S' M (M + 1) g 0) : ¬ CanGo M ps := by
  obtain ⟨_, h2, h3, h4⟩ := hw.none rfl
  have ho := h.ends hp
  refine not_of_cut (fun p hpm => ⟨(hp p hpm).1, (hp p hpm).2.1⟩) h.shape h.cap h.bal (by rw [h.src]; omega) S' h2 h3 (fun e he => ?_)
  obtain ⟨k, hk, e2⟩ := List.mem_iff_getElem.1 he
  have hk2 : es[k]? = some e := by rw [List.getElem?_eq_getElem hk, e2]
  have hn := ho.ne e he
  refine ⟨fun hu hv => ?_, fun hv hu => ?_⟩
  · have ha := List.mem_of_getElem? (rowE_at hk2 (piece_u (pre := es.take k)))
    have := h4 e.u hu rfl _ ha
    simp only at this
    by_cases h5 : e.cap - e.fl = 0
    · omega
    · rw [this h5] at hv; cases hv
  · have ha := List.mem_of_getElem? (rowE_at hk2 (piece_v (pre := es.take k) hn))
    have := h4 e.v hv rfl _ ha
    simp only at this
    by_cases h5 : e.fl = 0
    · exact h5
    · rw [this h5] at hu; cases hu
end
def edOf (u v : Nat) (c : Int) : Ed := ⟨u, v, c, 0⟩
theorem flows_zero {es : List Ed} (h : ∀ e ∈ es, e.fl = 0) (x : Nat) : flows es x = 0 := by
  unfold flows
  rw [esum_congr (h := fun _ => 0), esum_zero]
  intro e he
  rw [h e he, inn_zero]
def supEd (M : Nat) (nd : Nat → Int) (k : Nat) : List Ed := (supplies M nd k).map fun t => edOf t.1 t.2.1 t.2.2
theorem PushIs.start {M : Nat} {ps : List Pp} (hlh : ∀ p ∈ ps, p.lo ≤ p.hi) : PushIs M ps (ps.map (fun p => edOf p.u p.v (p.hi - p.lo)) ++ supEd M (needs ps) M) (total M (needs ps)) := by
  have h0 : ∀ e ∈ ps.map (fun p => edOf p.u p.v (p.hi - p.lo)) ++ supEd M (needs ps) M, e.fl = 0 ∧ 0 ≤ e.cap := fun e he => by
    rcases List.mem_append.1 he with h1 | h1
    · obtain ⟨p, hp, rfl⟩ := List.mem_map.1 h1
      have := hlh p hp
      exact ⟨rfl, show 0 ≤ p.hi - p.lo by omega⟩
    · obtain ⟨t, ht, rfl⟩ := List.mem_map.1 h1
      refine ⟨rfl, ?_⟩
      unfold supplies at ht
      obtain ⟨y, _, ht⟩ := List.mem_flatMap.1 ht
      unfold supply at ht
      show 0 ≤ t.2.2
      split at ht
      · rw [List.mem_singleton.1 ht]; simp only; omega
      · split at ht
        · rw [List.mem_singleton.1 ht]; simp only; omega
        · cases ht
  refine ⟨?_, fun e he => by have := h0 e he; omega, fun x _ => flows_zero (fun e he => (h0 e he).1) x, ?_⟩
  · rw [List.map_append, List.map_map]
    congr 1
    unfold supEd
    rw [List.map_map]
    exact (List.map_congr_left (fun t _ => rfl)).trans (List.map_id _)
  · rw [flows_zero (fun e he => (h0 e he).1)]; omega
theorem supEd_succ (M : Nat) (nd : Nat → Int) (k : Nat) : supEd M nd (k + 1) = supEd M nd k ++ (supply M nd k).map fun t => edOf t.1 t.2.1 t.2.2 := by
  unfold supEd supplies
  rw [List.range_succ, List.flatMap_append, List.map_append]
  simp
theorem total_succ (nd : Nat → Int) (k : Nat) : total (k + 1) nd = total k nd + (if nd k > 0 then nd k else 0) := by
  unfold total
  rw [List.range_succ, esum_app]
  simp [esum]

def edL (w : Wo) (st : Sts) (sp : List Spot) (b : Lb) : Ed := edOf (sp.idxOf (Lb.U w b)) (sp.idxOf (Lb.V w b)) ((Lb.R w st b).hi - (Lb.R w st b).lo)
def ppL (w : Wo) (st : Sts) (sp : List Spot) (b : Lb) : Pp := ⟨sp.idxOf (Lb.U w b), sp.idxOf (Lb.V w b), (Lb.R w st b).lo, (Lb.R w st b).hi⟩
def ndL (w : Wo) (st : Sts) (sp : List Spot) (l : List Lb) (x : Nat) : Int := needs (l.map (ppL w st sp)) x
structure LaidP (w : Wo) (st : Sts) (sp : List Spot) (l : List Lb) (es : List Ed) (nd : Nat → Int) : Prop where
  nodup : sp.Nodup
  used : ∀ s ∈ sp, UsedS w s
  has : ∀ b ∈ l, Lb.U w b ∈ sp ∧ Lb.V w b ∈ sp
  es : es = l.map (edL w st sp)
  nd : ∀ x, nd x = ndL w st sp l x
theorem idx_app {sp : List Spot} {s : Spot} (m : List Spot) (h : s ∈ sp) : (sp ++ m).idxOf s = sp.idxOf s := by
  rw [List.idxOf_append, if_pos h]
theorem LaidP.more {w : Wo} {st : Sts} {sp : List Spot} {l : List Lb} {es : List Ed} {nd : Nat → Int} (h : LaidP w st sp l es nd) {s : Spot} (hs : s ∉ sp) (hus : UsedS w s) : LaidP w st (sp ++ [s]) l es nd := by
  refine ⟨List.nodup_append.2 ⟨h.nodup, by simp, fun a ha b hb e => by rw [List.mem_singleton.1 hb] at e; exact hs (e ▸ ha)⟩, fun x hx => by
    rcases List.mem_append.1 hx with hx | hx
    · exact h.used x hx
    · rw [List.mem_singleton.1 hx]; exact hus, fun b hb => ⟨List.mem_append_left _ (h.has b hb).1, List.mem_append_left _ (h.has b hb).2⟩, ?_, fun x => ?_⟩
  · rw [h.es]
    refine List.map_congr_left (fun b hb => ?_)
    unfold edL
    rw [idx_app _ (h.has b hb).1, idx_app _ (h.has b hb).2]
  · rw [h.nd]
    unfold ndL
    congr 1
    refine List.map_congr_left (fun b hb => ?_)
    unfold ppL
    rw [idx_app _ (h.has b hb).1, idx_app _ (h.has b hb).2]
theorem LaidP.step {w : Wo} {st : Sts} {sp : List Spot} {l : List Lb} {es : List Ed} {nd : Nat → Int} (h : LaidP w st sp l es nd) {b : Lb} (hu : Lb.U w b ∈ sp) (hv : Lb.V w b ∈ sp) {nd' : Nat → Int} (hn : ∀ x, nd' x = nd x + inn (sp.idxOf (Lb.U w b)) (sp.idxOf (Lb.V w b)) (Lb.R w st b).lo x) :
    LaidP w st sp (l ++ [b]) (es ++ [edL w st sp b]) nd' := by
  refine ⟨h.nodup, h.used, fun c hc => ?_, by rw [h.es]; simp, fun x => ?_⟩
  · rcases List.mem_append.1 hc with hc | hc
    · exact h.has c hc
    · rw [List.mem_singleton.1 hc]; exact ⟨hu, hv⟩
  · rw [hn, h.nd]
    unfold ndL needs
    rw [List.map_append, esum_app]
    simp [esum, ppL]
theorem LaidP.can {w : Wo} (hm : MovesOk w) (hr : 0 < w.rooms.length) {st : Sts} {sp : List Spot} {es : List Ed} {nd : Nat → Int} (h : LaidP w st sp (labels w) es nd) :
    (∀ p ∈ (labels w).map (ppL w st sp), p.u < sp.length ∧ p.v < sp.length ∧ p.u ≠ p.v) ∧ (CanGo sp.length ((labels w).map (ppL w st sp)) ↔ CanSt w st) ∧ es = ((labels w).map (ppL w st sp)).map (fun p => edOf p.u p.v (p.hi - p.lo)) ∧ ∀ x, nd x = needs ((labels w).map (ppL w st sp)) x := by
  have hall : ∀ s, UsedS w s → s ∈ sp := by
    rintro s (rfl | ⟨r, d, hr', hd, rfl⟩)
    · exact (h.has (.fst 0) (mem_labels.2 (.inl ⟨0, hr, .inl rfl⟩))).1
    · exact (h.has (.stk r d) (mem_labels.2 (.inl ⟨r, hr', .inr ⟨d, hd, .inl rfl⟩⟩))).1
  have hlt : ∀ s, s ∈ sp → sp.idxOf s < sp.length := fun s hs => List.idxOf_lt_length_of_mem hs
  have hinj : ∀ s t, s ∈ sp → t ∈ sp → sp.idxOf s = sp.idxOf t → s = t := fun s t hs ht e => by
    have h1 := List.getElem_idxOf (hlt s hs)
    have h2 := List.getElem_idxOf (hlt t ht)
    rw [← h1, ← h2]
    simp only [e]
  refine ⟨fun p hp => ?_, ?_, by rw [h.es, List.map_map]; rfl, h.nd⟩
  · obtain ⟨b, hb, rfl⟩ := List.mem_map.1 hp
    have := h.has b hb
    exact ⟨hlt _ this.1, hlt _ this.2, fun e => uv_ne hm hb (hinj _ _ this.1 this.2 e)⟩
  · -- each spot that has a number is used
    exact canGo_iff w hm st (num := sp.idxOf) (fun s hs => hlt s (hall s hs)) (fun x hx => ⟨sp[x], h.used _ (List.getElem_mem hx), h.nodup.idxOf_getElem x hx⟩) (fun s t hs ht e => hinj s t (hall s hs) (hall t ht) e)
end Go.Proofs.Ythihdiilokdidaa
end

section
namespace Go.Proofs.Ythihdiilokdidaa
def narrowS (st : Sts) (r d : Nat) (g : Rg) : Sts := fun r' d' => if r' = r ∧ d' = d then ⟨max (st r d).lo g.lo, min (st r d).hi g.hi⟩ else st r' d'
def stW (l : List Wg) (out : Nat → Bool) : Nat → Sts
 | 0 => fun _ _ => ⟨0, 1048576⟩
 | k + 1 => if out k then stW l out k else narrowS (stW l out k) (gWg l k).room.toNat (gWg l k).day.toNat (gWg l k).g
structure WoOk (w : Wo) : Prop where
 len : 0 < w.rooms.length ∧ w.rooms.length ≤ 3 ∧ w.moves.length ≤ 12 ∧ w.wgs.length ≤ 8
 days : 1 ≤ w.days ∧ w.days ≤ 6
 rooms : ∀ r, r < w.rooms.length → 0 ≤ (gRm w.rooms r).fst.lo ∧ (gRm w.rooms r).fst.lo ≤ (gRm w.rooms r).fst.hi ∧ (gRm w.rooms r).fst.hi ≤ 2000 ∧ 0 ≤ (gRm w.rooms r).vap.lo ∧ (gRm w.rooms r).vap.lo ≤ (gRm w.rooms r).vap.hi ∧ (gRm w.rooms r).vap.hi ≤ 50
 moves : MovesOk w
 grams : ∀ i, i < w.moves.length → 0 ≤ (gMv w.moves i).g.lo ∧ (gMv w.moves i).g.lo ≤ (gMv w.moves i).g.hi ∧ (gMv w.moves i).g.hi ≤ 2000
 wgs : ∀ i, i < w.wgs.length → 0 ≤ (gWg w.wgs i).room ∧ (gWg w.wgs i).room < w.rooms.length ∧ 0 ≤ (gWg w.wgs i).day ∧ (gWg w.wgs i).day < w.days ∧ 0 ≤ (gWg w.wgs i).g.lo ∧ (gWg w.wgs i).g.lo ≤ (gWg w.wgs i).g.hi ∧ (gWg w.wgs i).g.hi ≤ 2000
structure GoodF (w : Wo) (out : Nat → Bool) (F : Nat → Int) (V : Nat → Nat → Int) (G : Nat → Int) : Prop where
 tru : TruF w F V G
 can : ∀ r d, r < w.rooms.length → d < w.days → 0 ≤ stk w F V G r d
 agr : ∀ i, i < w.wgs.length → out i = false → inR (stk w F V G (gWg w.wgs i).room.toNat (gWg w.wgs i).day.toNat) (gWg w.wgs i).g
def StkZ (w : Wo) (out : Nat → Bool) (r d : Nat) (z : Int) : Prop := ∃ F V G, GoodF w out F V G ∧ stk w F V G r d = z
section
variable {w : Wo} {out : Nat → Bool} {F : Nat → Int} {V : Nat → Nat → Int} {G : Nat → Int}
theorem comes_le (hw : WoOk w) (ht : TruF w F V G) (r d : Int) : ∀ k, k ≤ w.moves.length → comes w G r d k ≤ 2000 * k := by
 intro k
 induction k with
 | zero => intro _; simp [comes, esum]
 | succ k ih =>
  intro hk
  have h1 := ih (by omega)
  have h2 := ht.mov k (by omega)
  have h3 := hw.grams k (by omega)
  unfold comes at h1 ⊢
  rw [List.range_succ, esum_app]
  simp only [esum]
  unfold inR at h2
  split <;> (try split) <;> (try split) <;> omega
theorem stk_le (hw : WoOk w) (ht : TruF w F V G) {r : Nat} (hr : r < w.rooms.length) : ∀ d, d < w.days → stk w F V G r d ≤ 2000 + 24000 * ((d : Int) + 1) := by
 have h12 := hw.len
 intro d
 induction d with
 | zero =>
  intro hd
  have h1 := comes_le hw ht r 0 _ (Nat.le_refl _)
  have h2 := ht.fst r hr
  have h3 := ht.vap r 0 hr hd
  have h4 := hw.rooms r hr
  unfold inR at h2 h3
  simp only [stk]
  omega
 | succ d ih =>
  intro hd
  have h1 := comes_le hw ht r ((d : Int) + 1) _ (Nat.le_refl _)
  have h3 := ht.vap r (d + 1) hr hd
  have h4 := hw.rooms r hr
  have h5 := ih (by omega)
  unfold inR at h3
  simp only [stk]
  omega
theorem narrow_in (st : Sts) (r d : Nat) (g : Rg) (z : Nat → Nat → Int) : (∀ r' d', r' < w.rooms.length → d' < w.days → inR (z r' d') (narrowS st r d g r' d')) ↔ (∀ r' d', r' < w.rooms.length → d' < w.days → inR (z r' d') (st r' d')) ∧ (r < w.rooms.length → d < w.days → inR (z r d) g) := by
 constructor
 ·
  intro h
  refine ⟨fun r' d' hr hd => ?_, fun hr hd => ?_⟩
  ·
   have := h r' d' hr hd
   unfold narrowS at this
   split at this
   ·
    rename_i e; obtain ⟨rfl, rfl⟩ := e; unfold inR at this ⊢; simp only at this; omega
   ·
    exact this
  ·
   have := h r d hr hd
   unfold narrowS at this
   rw [if_pos ⟨rfl, rfl⟩] at this
   unfold inR at this ⊢; simp only at this; omega
 ·
  rintro ⟨h1, h2⟩ r' d' hr hd
  unfold narrowS
  split
  ·
   rename_i e; obtain ⟨rfl, rfl⟩ := e
   have a := h1 r' d' hr hd
   have b := h2 hr hd
   unfold inR at a b ⊢; simp only; omega
  ·
   exact h1 r' d' hr hd
theorem stW_in (hw : WoOk w) (z : Nat → Nat → Int) : ∀ k, k ≤ w.wgs.length → ((∀ r d, r < w.rooms.length → d < w.days → inR (z r d) (stW w.wgs out k r d)) ↔ (∀ r d, r < w.rooms.length → d < w.days → 0 ≤ z r d ∧ z r d ≤ 1048576) ∧ ∀ i, i < k → out i = false → inR (z (gWg w.wgs i).room.toNat (gWg w.wgs i).day.toNat) (gWg w.wgs i).g) := by
 intro k
 induction k with
 | zero =>
  intro _
  constructor
  ·
   intro h; exact ⟨h, fun i hi => by omega⟩
  ·
   intro h; exact h.1
 | succ k ih =>
  intro hk
  have h0 := ih (by omega)
  have hg := hw.wgs k (by omega)
  unfold stW
  by_cases ho : out k = true
  ·
   rw [if_pos ho, h0]
   constructor
   ·
    rintro ⟨h1, h2⟩
    refine ⟨h1, fun i hi hoi => ?_⟩
    rcases Nat.lt_succ_iff_lt_or_eq.1 hi with h | h
    ·
     exact h2 i h hoi
    ·
     subst h; rw [ho] at hoi; cases hoi
   ·
    rintro ⟨h1, h2⟩
    exact ⟨h1, fun i hi => h2 i (by omega)⟩
  ·
   rw [if_neg ho, narrow_in, h0]
   constructor
   ·
    rintro ⟨⟨h1, h2⟩, h3⟩
    refine ⟨h1, fun i hi hoi => ?_⟩
    rcases Nat.lt_succ_iff_lt_or_eq.1 hi with h | h
    ·
     exact h2 i h hoi
    ·
     subst h; exact h3 (by omega) (by omega)
   ·
    rintro ⟨h1, h2⟩
    exact ⟨⟨h1, fun i hi => h2 i (by omega)⟩, fun _ _ => h2 k (by omega) (by simpa using ho)⟩
theorem canSt_good (hw : WoOk w) : CanSt w (stW w.wgs out w.wgs.length) ↔ ∃ F V G, GoodF w out F V G := by
 constructor
 ·
  rintro ⟨F, V, G, ht, hs⟩
  have h := (stW_in (out := out) hw (stk w F V G) _ (Nat.le_refl _)).1 hs
  exact ⟨F, V, G, ht, fun r d hr hd => (h.1 r d hr hd).1, fun i hi => h.2 i hi⟩
 ·
  rintro ⟨F, V, G, h⟩
  refine ⟨F, V, G, h.tru, (stW_in (out := out) hw (stk w F V G) _ (Nat.le_refl _)).2 ⟨fun r d hr hd => ⟨h.can r d hr hd, ?_⟩, h.agr⟩⟩
  have := stk_le hw h.tru hr d hd
  have := hw.days
  omega
theorem canSt_narrow (hw : WoOk w) {r d : Nat} (hr : r < w.rooms.length) (hd : d < w.days) (g : Rg) : CanSt w (narrowS (stW w.wgs out w.wgs.length) r d g) ↔ ∃ z, StkZ w out r d z ∧ g.lo ≤ z ∧ z ≤ g.hi := by
 constructor
 ·
  rintro ⟨F, V, G, ht, hs⟩
  obtain ⟨h1, h2⟩ := (narrow_in _ r d g (stk w F V G)).1 hs
  have h := (stW_in (out := out) hw (stk w F V G) _ (Nat.le_refl _)).1 h1
  exact ⟨_, ⟨F, V, G, ⟨ht, fun r d hr hd => (h.1 r d hr hd).1, fun i hi => h.2 i hi⟩, rfl⟩, h2 hr hd⟩
 ·
  rintro ⟨z, ⟨F, V, G, h, rfl⟩, hz⟩
  refine ⟨F, V, G, h.tru, (narrow_in _ r d g (stk w F V G)).2 ⟨(stW_in (out := out) hw (stk w F V G) _ (Nat.le_refl _)).2 ⟨fun r d hr hd => ⟨h.can r d hr hd, ?_⟩, h.agr⟩, fun _ _ => hz⟩⟩
  have := stk_le hw h.tru hr d hd
  have := hw.days
  omega
theorem stk_in (hw : WoOk w) {r d : Nat} (hr : r < w.rooms.length) (hd : d < w.days) {z : Int} (h : StkZ w out r d z) : inR z (stW w.wgs out w.wgs.length r d) := by
 obtain ⟨F, V, G, h, rfl⟩ := h
 refine (stW_in (out := out) hw (stk w F V G) _ (Nat.le_refl _)).2 ⟨fun r d hr hd => ⟨h.can r d hr hd, ?_⟩, h.agr⟩ r d hr hd
 have := stk_le hw h.tru hr d hd
 have := hw.days
 omega
end
theorem least_of {Z : Int → Prop} {a b : Int} (h : ∀ z, Z z → a ≤ z ∧ z ≤ b) (hz : ∃ z, Z z) : ∃ lo hi, EndsOf Z lo hi := by
 classical
 have lo : ∀ n : Nat, (∃ z, Z z ∧ z < a + n) → ∃ m, Z m ∧ ∀ z, Z z → m ≤ z := fun n => by
  induction n with
  | zero => rintro ⟨z, hz, hlt⟩; have := h z hz; omega
  | succ n ih =>
   rintro ⟨z, hz, hlt⟩
   by_cases hn : ∃ z, Z z ∧ z < a + n
   ·
    exact ih hn
   ·
    refine ⟨z, hz, fun y hy => ?_⟩
    rcases Int.lt_or_le y z with h' | h'
    ·
     exact absurd ⟨y, hy, by omega⟩ hn
    ·
     exact h'
 have hi : ∀ n : Nat, (∃ z, Z z ∧ b - n < z) → ∃ m, Z m ∧ ∀ z, Z z → z ≤ m := fun n => by
  induction n with
  | zero => rintro ⟨z, hz, hlt⟩; have := h z hz; omega
  | succ n ih =>
   rintro ⟨z, hz, hlt⟩
   by_cases hn : ∃ z, Z z ∧ b - n < z
   ·
    exact ih hn
   ·
    refine ⟨z, hz, fun y hy => ?_⟩
    rcases Int.lt_or_le z y with h' | h'
    ·
     exact absurd ⟨y, hy, by omega⟩ hn
    ·
     exact h'
 obtain ⟨z, hz⟩ := hz
 obtain ⟨m, m1, m2⟩ := lo (z - a + 1).toNat ⟨z, hz, by have := h z hz; omega⟩
 obtain ⟨n, n1, n2⟩ := hi (b - z + 1).toNat ⟨z, hz, by have := h z hz; omega⟩
 exact ⟨m, n, m1, n1, fun y hy => ⟨m2 y hy, n2 y hy⟩⟩
structure FindIs (Z : Int → Prop) (up : Bool) (old r : Rg) : Prop where
 sub : old.lo ≤ r.lo ∧ r.hi ≤ old.hi
 has : ∃ lo hi, EndsOf Z lo hi ∧ (if up then r.lo ≤ hi ∧ hi ≤ r.hi else r.lo ≤ lo ∧ lo ≤ r.hi)
def halfA (up : Bool) (r : Rg) : Rg := if up then ⟨(r.lo + r.hi) / 2 + 1, r.hi⟩ else ⟨r.lo, (r.lo + r.hi) / 2⟩
def halfB (up : Bool) (r : Rg) : Rg := if up then ⟨r.lo, (r.lo + r.hi) / 2⟩ else ⟨(r.lo + r.hi) / 2 + 1, r.hi⟩
section
variable {Z : Int → Prop} {up : Bool} {old r : Rg}
theorem FindIs.le (h : FindIs Z up old r) : r.lo ≤ r.hi := by
 obtain ⟨lo, hi, _, h2⟩ := h.has
 split at h2 <;> omega
theorem FindIs.subA (h : FindIs Z up old r) (hlt : r.lo < r.hi) : old.lo ≤ (halfA up r).lo ∧ (halfA up r).hi ≤ old.hi := by
 have := h.sub
 unfold halfA
 cases up <;> simp <;> omega
theorem FindIs.step (h : FindIs Z up old r) (hlt : r.lo < r.hi) : FindIs Z up old (halfB up r) ∨ ∃ z, Z z ∧ (halfA up r).lo ≤ z ∧ z ≤ (halfA up r).hi := by
 obtain ⟨lo, hi, h1, h2⟩ := h.has
 have hs := h.sub
 unfold halfA halfB
 cases up
 ·
  simp only [Bool.false_eq_true, if_false] at h2 ⊢
  by_cases hm : lo ≤ (r.lo + r.hi) / 2
  ·
   exact .inr ⟨lo, h1.1, by omega, hm⟩
  ·
   exact .inl ⟨by simp only; omega, lo, hi, h1, by simp; omega⟩
 ·
  simp only [if_true] at h2 ⊢
  by_cases hm : (r.lo + r.hi) / 2 + 1 ≤ hi
  ·
   exact .inr ⟨hi, h1.2.1, hm, by omega⟩
  ·
   exact .inl ⟨by simp only; omega, lo, hi, h1, by simp; omega⟩
theorem FindIs.yes (h : FindIs Z up old r) (hlt : r.lo < r.hi) (hz : ∃ z, Z z ∧ (halfA up r).lo ≤ z ∧ z ≤ (halfA up r).hi) : FindIs Z up old (halfA up r) := by
 obtain ⟨lo, hi, h1, h2⟩ := h.has
 have hs := h.subA hlt
 obtain ⟨z, hz, z1, z2⟩ := hz
 have h3 := h1.2.2 z hz
 refine ⟨hs, lo, hi, h1, ?_⟩
 unfold halfA at z1 z2 ⊢
 cases up
 ·
  simp only [Bool.false_eq_true, if_false] at h2 z1 z2 ⊢; omega
 ·
  simp only [if_true] at h2 z1 z2 ⊢; omega
theorem FindIs.no (h : FindIs Z up old r) (hlt : r.lo < r.hi) (hz : ¬ ∃ z, Z z ∧ (halfA up r).lo ≤ z ∧ z ≤ (halfA up r).hi) : FindIs Z up old (halfB up r) := (h.step hlt).resolve_right hz
theorem FindIs.done (h : FindIs Z up old r) (hle : r.hi ≤ r.lo) {lo hi : Int} (he : EndsOf Z lo hi) : r.lo = if up then hi else lo := by
 obtain ⟨lo', hi', h1, h2⟩ := h.has
 have e1 := he.2.2 _ h1.1
 have e2 := he.2.2 _ h1.2.1
 have e3 := h1.2.2 _ he.1
 have e4 := h1.2.2 _ he.2.1
 cases up <;> simp at h2 ⊢ <;> omega
end
end Go.Proofs.Ythihdiilokdidaa
end
