/- A plan with the fewest dips (plain): the states that dips bring about, gone through in breadth. · The fewest dips of a right plan (plain): a plan in the order of what is known first; what dips bring about, and what is known by them. · Bath: CheckSeries (walk). · Bath: how far things are apart, in memory; span, low, high, between (walks). · Bath: the readings of a series (walks): the iterator. · Maps with keys of any one type, as the program makes them (no key is ever taken out or laid anew): the runs of their operations. · Mixed regions in the body of a range over a function. · Bath: work (walk). -/
import Derived.Test.YtnplefhigbkbbaaQ2
import Derived.Test.YtnplefhigbkbbaaQ1
set_option linter.unusedVariables false
set_option linter.unusedSimpArgs false
set_option linter.unusedSectionVars false
section
namespace Go.Proofs.Ytnplefhigbkbbaa

/-- a state that so many dips bring about. -/
inductive Rch (D : List Dp) : Nat → S6 → Prop where
  | zero : Rch D 0 begun6
  | step {m : Nat} {s : S6} {d : Dp} : Rch D m s → d ∈ D → Rch D (m + 1) (nearer s d.ins)
theorem Rch.zero_eq {D : List Dp} {s : S6} (h : Rch D 0 s) : s = begun6 := by cases h; rfl
theorem Rch.succ_inv {D : List Dp} {m : Nat} {t : S6} (h : Rch D (m + 1) t) : ∃ s d, Rch D m s ∧ d ∈ D ∧ t = nearer s d.ins := by
  cases h with
  | step h hd => exact ⟨_, _, h, hd, rfl⟩
theorem Rch.cnt {D : List Dp} (hD : ∀ d ∈ D, In6 d.ins) {m : Nat} {s : S6} (h : Rch D m s) : Cnt s := by
  induction h with
  | zero => exact Cnt.begun
  | step _ hd ih => exact ih.nearer (hD _ hd)
theorem least_ex {P : Nat → Prop} : ∀ {n : Nat}, P n → ∃ m, P m ∧ ∀ k, P k → m ≤ k := by
  intro n
  induction n using Nat.strongRecOn with
  | ind n ih =>
    intro h
    by_cases hk : ∃ k, k < n ∧ P k
    · obtain ⟨k, hk, hp⟩ := hk
      exact ih k hk hp
    · exact ⟨n, h, fun k hp => Nat.le_of_not_lt fun hlt => hk ⟨k, hlt, hp⟩⟩
/-- the fewest dips that bring a state about. -/
def IsDist (D : List Dp) (dist : S6 → Nat) : Prop := ∀ m s, Rch D m s → Rch D (dist s) s ∧ dist s ≤ m
theorem dist_ex (D : List Dp) : ∃ dist, IsDist D dist := by
  have h : ∀ s, ∃ m, (∃ k, Rch D k s) → Rch D m s ∧ ∀ k, Rch D k s → m ≤ k := fun s => by
    by_cases hk : ∃ k, Rch D k s
    · obtain ⟨k, hk⟩ := hk
      obtain ⟨m, h1, h2⟩ := least_ex (P := fun k => Rch D k s) hk
      exact ⟨m, fun _ => ⟨h1, h2⟩⟩
    · exact ⟨0, fun h => absurd h hk⟩
  obtain ⟨f, hf⟩ := Classical.axiomOfChoice h
  exact ⟨f, fun m s hr => ⟨(hf s ⟨m, hr⟩).1, (hf s ⟨m, hr⟩).2 m hr⟩⟩
instance : Inhabited S6 := ⟨begun6⟩
def gS (V : List S6) (k : Nat) : S6 := V.getD k default
theorem gS_mem {V : List S6} {k : Nat} (h : k < V.length) : gS V k ∈ V := by
  unfold gS; simp [h]
theorem gS_of {V : List S6} {s : S6} (h : s ∈ V) : ∃ k, k < V.length ∧ gS V k = s := by
  obtain ⟨k, hk, e⟩ := List.getElem_of_mem h
  exact ⟨k, hk, by unfold gS; simp [hk, e]⟩
theorem gS_app {V : List S6} {t : S6} {k : Nat} (h : k < V.length) : gS (V ++ [t]) k = gS V k := by
  unfold gS
  simp [List.getElem?_append, h]
theorem gS_last {V : List S6} {t : S6} : gS (V ++ [t]) V.length = t := by
  unfold gS; simp
section
variable {D : List Dp} {R : S6 → Prop} {dist : S6 → Nat}
theorem dist_begun (hd : IsDist D dist) : dist begun6 = 0 := by have := (hd 0 _ .zero).2; omega
theorem dist_zero (hd : IsDist D dist) {m : Nat} {s : S6} (h : Rch D m s) (h0 : dist s = 0) : s = begun6 := by
  have := (hd m s h).1
  rw [h0] at this
  exact this.zero_eq
theorem dist_step (hd : IsDist D dist) {m : Nat} {s : S6} {d : Dp} (h : Rch D m s) (hm : d ∈ D) : dist (nearer s d.ins) ≤ dist s + 1 := (hd _ _ (.step (hd m s h).1 hm)).2

/-- the search: all that has been found (V, in that order), of which the first h have been gone on from. -/
structure Bfs (D : List Dp) (R : S6 → Prop) (dist : S6 → Nat) (V : List S6) (h : Nat) : Prop where
  rch : ∀ s ∈ V, ∃ m, Rch D m s
  beg : begun6 ∈ V
  srt : ∀ i j, i ≤ j → j < V.length → dist (gS V i) ≤ dist (gS V j)
  top : ∀ i, i < V.length → h < V.length → dist (gS V i) ≤ dist (gS V h) + 1
  exp : ∀ j, j < h → ∀ d ∈ D, nearer (gS V j) d.ins ∈ V
  hle : h ≤ V.length
  no : ∀ s ∈ V, ¬ R s
  nod : V.Nodup
variable {V : List S6} {h : Nat}
theorem Bfs.start (hd : IsDist D dist) (h0 : ¬ R begun6) : Bfs D R dist [begun6] 0 where
  rch := fun s hs => ⟨0, by rw [List.mem_singleton.1 hs]; exact .zero⟩
  beg := by simp
  srt := fun i j hij hj => by
    have e : j = 0 := by simpa using hj
    have e2 : i = 0 := by omega
    rw [e, e2]; exact Nat.le_refl _
  top := fun i hi _ => by
    have e : i = 0 := by simpa using hi
    rw [e]; omega
  exp := fun j hj => by omega
  hle := by simp
  no := fun s hs => by rw [List.mem_singleton.1 hs]; exact h0
  nod := by simp
/-- who is as near as the one that is gone on from has been found. -/
theorem Bfs.near (H : Bfs D R dist V h) (hd : IsDist D dist) (hh : h < V.length) : ∀ (k : Nat) (s : S6) (m : Nat), Rch D m s → dist s = k → k ≤ dist (gS V h) → s ∈ V
  | 0, s, m, hr, e, _ => by rw [dist_zero hd hr e]; exact H.beg
  | k + 1, s, m, hr, e, hk => by
    have h1 := (hd m s hr).1
    rw [e] at h1
    obtain ⟨t, d, h2, hdm, rfl⟩ := h1.succ_inv
    have h3 := (hd k t h2).2
    have h4 := dist_step hd h2 hdm
    obtain ⟨j, hj, ej⟩ := gS_of (H.near hd hh k t k h2 (by omega) (by omega))
    have hjh : j < h := by
      rcases Nat.lt_or_ge j h with h5 | h5
      · exact h5
      · have := H.srt h j h5 hj
        rw [ej] at this
        omega
    have h6 := H.exp j hjh d hdm
    rw [ej] at h6
    exact h6
theorem Bfs.new (H : Bfs D R dist V h) (hd : IsDist D dist) (hh : h < V.length) {d : Dp} (hdm : d ∈ D) (hn : nearer (gS V h) d.ins ∉ V) : (∃ m, Rch D m (nearer (gS V h) d.ins)) ∧ dist (nearer (gS V h) d.ins) = dist (gS V h) + 1 := by
  obtain ⟨m, hm⟩ := H.rch _ (gS_mem hh)
  have h1 := dist_step hd hm hdm
  refine ⟨⟨m + 1, .step hm hdm⟩, ?_⟩
  rcases Nat.lt_or_ge (dist (gS V h)) (dist (nearer (gS V h) d.ins)) with h2 | h2
  · omega
  · exact absurd (H.near hd hh _ _ (m + 1) (.step hm hdm) rfl h2) hn
/-- the first that is right has been had with the fewest dips. -/
theorem Bfs.found (H : Bfs D R dist V h) (hd : IsDist D dist) (hh : h < V.length) {d : Dp} (hdm : d ∈ D) (hn : nearer (gS V h) d.ins ∉ V) : ∀ m r, Rch D m r → R r → dist (nearer (gS V h) d.ins) ≤ m := by
  intro m r hr hR
  have h1 := (H.new hd hh hdm hn).2
  have h2 := (hd m r hr).2
  rcases Nat.lt_or_ge (dist (gS V h)) (dist r) with h3 | h3
  · omega
  · exact absurd hR (H.no r (H.near hd hh _ r m hr rfl h3))
/-- nothing is left: nothing right can be had. -/
theorem Bfs.none (H : Bfs D R dist V h) (hh : h = V.length) : ∀ m r, Rch D m r → ¬ R r := by
  have h1 : ∀ m r, Rch D m r → r ∈ V := by
    intro m r hr
    induction hr with
    | zero => exact H.beg
    | step _ hdm ih =>
      obtain ⟨j, hj, ej⟩ := gS_of ih
      have := H.exp j (by omega) _ hdm
      rw [ej] at this
      exact this
  exact fun m r hr => H.no r (h1 m r hr)
theorem Bfs.push (H : Bfs D R dist V h) (hd : IsDist D dist) (hh : h < V.length) {d : Dp} (hdm : d ∈ D) (hn : nearer (gS V h) d.ins ∉ V) (hR : ¬ R (nearer (gS V h) d.ins)) : Bfs D R dist (V ++ [nearer (gS V h) d.ins]) h := by
  obtain ⟨hr, hdist⟩ := H.new hd hh hdm hn
  generalize nearer (gS V h) d.ins = t at *
  have hl : (V ++ [t]).length = V.length + 1 := by simp
  exact {
    rch := fun s hs => by
      rcases List.mem_append.1 hs with h1 | h1
      · exact H.rch s h1
      · rw [List.mem_singleton.1 h1]; exact hr
    beg := List.mem_append.2 (.inl H.beg)
    srt := fun i j hij hj => by
      rw [hl] at hj
      by_cases e : j = V.length
      · rw [e, gS_last]
        by_cases e2 : i = V.length
        · rw [e2, gS_last]; exact Nat.le_refl _
        · rw [gS_app (by omega), hdist]; exact H.top i (by omega) hh
      · rw [gS_app (by omega), gS_app (by omega)]; exact H.srt i j hij (by omega)
    top := fun i hi _ => by
      rw [hl] at hi
      rw [gS_app hh]
      by_cases e : i = V.length
      · rw [e, gS_last, hdist]; exact Nat.le_refl _
      · rw [gS_app (by omega)]; exact H.top i (by omega) hh
    exp := fun j hj d hdm => by
      rw [gS_app (by omega)]
      exact List.mem_append.2 (.inl (H.exp j hj d hdm))
    hle := by omega
    no := fun s hs => by
      rcases List.mem_append.1 hs with h1 | h1
      · exact H.no s h1
      · rw [List.mem_singleton.1 h1]; exact hR
    nod := by
      rw [List.nodup_append]
      refine ⟨H.nod, by simp, fun a ha b hb => ?_⟩
      rw [List.mem_singleton.1 hb]
      rintro rfl
      exact hn ha }
theorem Bfs.next (H : Bfs D R dist V h) (hh : h < V.length) (he : ∀ d ∈ D, nearer (gS V h) d.ins ∈ V) : Bfs D R dist V (h + 1) where
  rch := H.rch
  beg := H.beg
  srt := H.srt
  top := fun i hi h1 => by
    have := H.top i hi hh
    have := H.srt h (h + 1) (by omega) h1
    omega
  exp := fun j hj => by
    rcases Nat.lt_succ_iff_lt_or_eq.1 hj with h1 | h1
    · exact H.exp j h1
    · rw [h1]; exact he
  hle := hh
  no := H.no
  nod := H.nod
end

/-- so many numbers below a bound, none twice. -/
theorem nodup_lt : ∀ {N : Nat} {l : List Nat}, l.Nodup → (∀ x ∈ l, x < N) → l.length ≤ N
  | 0, l, _, h => by
    cases l with
    | nil => exact Nat.le_refl _
    | cons x l => exact absurd (h x (by simp)) (by omega)
  | N + 1, l, hn, h => by
    have h1 : (l.erase N).length ≤ N := nodup_lt (hn.erase N) fun x hx => by
      have h2 := (List.Nodup.mem_erase_iff hn).1 hx
      have := h x h2.2
      omega
    have h3 := List.length_erase (a := N) (l := l)
    split at h3 <;> omega
theorem nodup_map {α : Type} {f : α → Nat} : ∀ {l : List α}, l.Nodup → (∀ x ∈ l, ∀ y ∈ l, f x = f y → x = y) → (l.map f).Nodup
  | [], _, _ => by simp
  | a :: l, hn, h => by
    rw [List.nodup_cons] at hn
    rw [List.map_cons, List.nodup_cons]
    refine ⟨fun hm => ?_, nodup_map hn.2 fun x hx y hy => h x (List.mem_cons_of_mem _ hx) y (List.mem_cons_of_mem _ hy)⟩
    obtain ⟨y, hy, e⟩ := List.mem_map.1 hm
    have := h a (by simp) y (List.mem_cons_of_mem _ hy) e.symm
    rw [← this] at hy
    exact hn.1 hy
/-- a state as a number. -/
def codeS (s : S6) : Nat := (s.a + 1).toNat + 7 * ((s.b + 1).toNat + 7 * ((s.c + 1).toNat + 7 * ((s.d + 1).toNat + 7 * ((s.e + 1).toNat + 7 * (s.f + 1).toNat))))
theorem digit7 {x y p q : Nat} (hx : x < 7) (hy : y < 7) (e : x + 7 * p = y + 7 * q) : x = y ∧ p = q := by omega
theorem dig_eq {x y : Int} (hx : -1 ≤ x) (hy : -1 ≤ y) (e : (x + 1).toNat = (y + 1).toNat) : x = y := by omega
theorem dig_lt {x : Int} (h : -1 ≤ x ∧ x ≤ 5) : (x + 1).toNat < 7 := by omega
theorem codeS_inj {s t : S6} (hs : Bd6 5 s) (ht : Bd6 5 t) (e : codeS s = codeS t) : s = t := by
  have s0 := hs 0 (by omega)
  have s1 := hs 1 (by omega)
  have s2 := hs 2 (by omega)
  have s3 := hs 3 (by omega)
  have s4 := hs 4 (by omega)
  have s5 := hs 5 (by omega)
  have t0 := ht 0 (by omega)
  have t1 := ht 1 (by omega)
  have t2 := ht 2 (by omega)
  have t3 := ht 3 (by omega)
  have t4 := ht 4 (by omega)
  have t5 := ht 5 (by omega)
  unfold codeS at e
  obtain ⟨e0, e⟩ := digit7 (dig_lt s0) (dig_lt t0) e
  obtain ⟨e1, e⟩ := digit7 (dig_lt s1) (dig_lt t1) e
  obtain ⟨e2, e⟩ := digit7 (dig_lt s2) (dig_lt t2) e
  obtain ⟨e3, e⟩ := digit7 (dig_lt s3) (dig_lt t3) e
  obtain ⟨e4, e5⟩ := digit7 (dig_lt s4) (dig_lt t4) e
  have f0 := dig_eq s0.1 t0.1 e0
  have f1 := dig_eq s1.1 t1.1 e1
  have f2 := dig_eq s2.1 t2.1 e2
  have f3 := dig_eq s3.1 t3.1 e3
  have f4 := dig_eq s4.1 t4.1 e4
  have f5 := dig_eq s5.1 t5.1 e5
  cases s
  cases t
  simp only [S6.get] at f0 f1 f2 f3 f4 f5
  rw [f0, f1, f2, f3, f4, f5]
theorem codeS_lt {s : S6} (hs : Bd6 5 s) : codeS s < 117649 := by
  have s0 := hs 0 (by omega)
  have s1 := hs 1 (by omega)
  have s2 := hs 2 (by omega)
  have s3 := hs 3 (by omega)
  have s4 := hs 4 (by omega)
  have s5 := hs 5 (by omega)
  have d0 := dig_lt s0
  have d1 := dig_lt s1
  have d2 := dig_lt s2
  have d3 := dig_lt s3
  have d4 := dig_lt s4
  have d5 := dig_lt s5
  simp only [S6.get] at d0 d1 d2 d3 d4 d5
  unfold codeS
  omega
theorem Bfs.few {D : List Dp} {R : S6 → Prop} {dist : S6 → Nat} {V : List S6} {h : Nat} (H : Bfs D R dist V h) (hD : ∀ d ∈ D, In6 d.ins) : V.length ≤ 117649 := by
  have hb : ∀ s ∈ V, Bd6 5 s := fun s hs => by
    obtain ⟨m, hm⟩ := H.rch s hs
    exact (hm.cnt hD).bd
  have h1 : (V.map codeS).Nodup := nodup_map H.nod fun x hx y hy e => codeS_inj (hb x hx) (hb y hy) e
  have h2 := nodup_lt h1 (N := 117649) fun x hx => by
    obtain ⟨s, hs, rfl⟩ := List.mem_map.1 hx
    exact codeS_lt (hb s hs)
  simpa using h2

/-- how each state came to be known: by a dip, from one that was known before. -/
def WaysOk (D : List Dp) (dist : S6 → Nat) (L : List (S6 × (S6 × Dp))) : Prop :=
  ∀ t s d, (t, (s, d)) ∈ L → t = begun6 ∨ (d ∈ D ∧ s ∈ L.map (·.1) ∧ t = nearer s d.ins ∧ dist t = dist s + 1)
theorem WaysOk.push {D : List Dp} {dist : S6 → Nat} {L : List (S6 × (S6 × Dp))} (h : WaysOk D dist L) {s : S6} {d : Dp} (hd : d ∈ D) (hs : s ∈ L.map (·.1)) (e : dist (nearer s d.ins) = dist s + 1) : WaysOk D dist (L ++ [(nearer s d.ins, (s, d))]) := by
  intro t s' d' hm
  rw [List.map_append, List.mem_append]
  rcases List.mem_append.1 hm with h1 | h1
  · rcases h t s' d' h1 with h2 | ⟨h2, h3, h4⟩
    · exact .inl h2
    · exact .inr ⟨h2, .inl h3, h4⟩
  · have h2 := List.mem_singleton.1 h1
    injection h2 with h2 h3
    injection h3 with h3 h4
    subst h2 h3 h4
    exact .inr ⟨hd, .inl hs, rfl, e⟩
/-- dips that lead from what is known without dips to a state. -/
inductive Path (D : List Dp) : List Dp → S6 → Prop where
  | nil : Path D [] begun6
  | snoc {l : List Dp} {s : S6} {d : Dp} : Path D l s → d ∈ D → Path D (l ++ [d]) (nearer s d.ins)
theorem Path.rch {D : List Dp} {l : List Dp} {s : S6} (h : Path D l s) : Rch D l.length s := by
  induction h with
  | nil => exact .zero
  | snoc _ hd ih => rw [List.length_append]; exact .step ih hd
theorem Rch.path {D : List Dp} {m : Nat} {s : S6} (h : Rch D m s) : ∃ l, l.length = m ∧ Path D l s := by
  induction h with
  | zero => exact ⟨[], rfl, .nil⟩
  | step _ hd ih =>
    obtain ⟨l, e, hl⟩ := ih
    exact ⟨l ++ [_], by simp [e], .snoc hl hd⟩
end Go.Proofs.Ytnplefhigbkbbaa
end

section
namespace Go.Proofs.Ytnplefhigbkbbaa

theorem gDp_mem {p : List Dp} {k : Nat} (h : k < p.length) : gDp p k ∈ p := by unfold gDp; simp [h]
theorem gDp_of {p : List Dp} {d : Dp} (h : d ∈ p) : ∃ k, k < p.length ∧ gDp p k = d := by
  obtain ⟨k, hk, e⟩ := List.getElem_of_mem h
  exact ⟨k, hk, by unfold gDp; simp [hk, e]⟩
/-- the least that one of a dip is known by. -/
def fstK (s : S6) (d : Dp) : Int := fstTo s d.ins d.ins.length
/-- a number is known to be at most another one. -/
def Le6 (x y : Int) : Prop := 0 ≤ x ∧ x ≤ y
theorem nearer_le {s : S6} {d : List Int} (h : Cnt s) (hd : In6 d) {i : Nat} (hi : i < 6) {c : Int} (hc : Le6 (s.get i) c) : Le6 ((nearer s d).get i) c := by
  unfold Le6 at *
  rcases (nearer_spec h hd).1 i hi with e | ⟨⟨j, m, _, _, _, h1, e⟩, h2⟩
  · rw [e]; exact hc
  · omega
/-- dips of which each knows one by v steps. -/
theorem run_level {p : List Dp} {K : S6} {v : Int} (hp : ∀ d ∈ p, In6 d.ins) : ∀ (l : List Dp) (m : Nat) (s : S6), Rch p m s → (∀ d ∈ l, d ∈ p ∧ ∃ j, j < d.ins.length ∧ Le6 (s.get (gI d.ins j).toNat) v) →
    ∃ s', Rch p (m + l.length) s' ∧ (∀ i, i < 6 → ∀ c, Le6 (s.get i) c → Le6 (s'.get i) c) ∧ ∀ d ∈ l, ∀ j, j < d.ins.length → Le6 (s'.get (gI d.ins j).toNat) (v + 1)
  | [], m, s, hr, _ => ⟨s, hr, fun _ _ _ h => h, fun d hd => by cases hd⟩
  | d :: l, m, s, hr, h => by
    have hc := hr.cnt hp
    obtain ⟨hdp, j0, hj0, h0⟩ := h d (by simp)
    have hd6 := hp d hdp
    obtain ⟨s', h1, h2, h3⟩ := run_level (K := K) (v := v) hp l (m + 1) (nearer s d.ins) (.step hr hdp) (fun e he => by
      obtain ⟨g1, j, hj, g2⟩ := h e (List.mem_cons_of_mem _ he)
      exact ⟨g1, j, hj, nearer_le hc hd6 (by have := hp e g1 j hj; omega) g2⟩)
    refine ⟨s', by rw [List.length_cons, show m + (l.length + 1) = m + 1 + l.length by omega]; exact h1, fun i hi c hcc => h2 i hi c (nearer_le hc hd6 hi hcc), fun e he j hj => ?_⟩
    rcases List.mem_cons.1 he with rfl | he
    · have h4 := (nearer_spec hc hd6).2 j j0 hj hj0 (by have := h0.1; omega)
      refine h2 _ (by have := hd6 j hj; omega) _ ⟨h4.1, ?_⟩
      have := h0.2
      omega
    · exact h3 e he j hj
theorem filter_split {p : List Dp} {f : Dp → Int} {v : Int} (hv : 0 ≤ v) : (p.filter fun d => decide (0 ≤ f d ∧ f d < v + 1)).length = (p.filter fun d => decide (0 ≤ f d ∧ f d < v)).length + (p.filter fun d => decide (f d = v)).length := by
  induction p with
  | nil => rfl
  | cons d p ih =>
    rw [List.filter_cons, List.filter_cons, List.filter_cons]
    by_cases h1 : f d = v
    · rw [if_pos (by simp; omega), if_neg (by simp; omega), if_pos (by simp; omega), List.length_cons, List.length_cons, ih]; omega
    · by_cases h2 : 0 ≤ f d ∧ f d < v
      · rw [if_pos (by simp; omega), if_pos (by simp; omega), if_neg (by simp; omega), List.length_cons, List.length_cons, ih]; omega
      · rw [if_neg (by simp; omega), if_neg (by simp; omega), if_neg (by simp; omega), ih]
theorem Dst.pos {p : List Dp} {i v : Nat} (h : Dst p i (v + 1)) : ∃ m k a b, Dst p m v ∧ k < p.length ∧ a < (gDp p k).ins.length ∧ b < (gDp p k).ins.length ∧ (gI (gDp p k).ins a).toNat = m ∧ (gI (gDp p k).ins b).toNat = i := by
  cases h with
  | step h hk hi hj e => exact ⟨_, _, _, _, h, hk, hi, hj, e, rfl⟩
theorem Dst.lt {p : List Dp} (hp : In6P p) {i v : Nat} (h : Dst p i v) : i < 6 := by
  cases h with
  | std => omega
  | step h hk hi hj e => have := hp _ hk _ hj; omega
/-- who is known by v + 1 steps is in a dip of which the first is known by v. -/
theorem KnownIs.prev {p : List Dp} {K : S6} (hK : KnownIs p K) (hp : In6P p) {i : Nat} (hi : i < 6) {v : Nat} (hv : K.get i = (v : Int) + 1) :
    ∃ k a b, k < p.length ∧ a < (gDp p k).ins.length ∧ b < (gDp p k).ins.length ∧ (gI (gDp p k).ins b).toNat = i ∧ K.get (gI (gDp p k).ins a).toNat = (v : Int) ∧ ∀ j, j < (gDp p k).ins.length → K.get (gI (gDp p k).ins j).toNat = -1 ∨ (v : Int) ≤ K.get (gI (gDp p k).ins j).toNat := by
  rcases hK i hi with ⟨e, _⟩ | ⟨_, h1, h2⟩
  · omega
  rw [show (K.get i).toNat = v + 1 by omega] at h1
  obtain ⟨m, k, a, b, g1, g2, g3, g4, g5, g6⟩ := h1.pos
  have low : ∀ j, j < (gDp p k).ins.length → K.get (gI (gDp p k).ins j).toNat = -1 ∨ (v : Int) ≤ K.get (gI (gDp p k).ins j).toNat := fun j hj => by
    have hj6 : (gI (gDp p k).ins j).toNat < 6 := by have := hp k g2 j hj; omega
    rcases hK _ hj6 with ⟨e, _⟩ | ⟨e, h3, _⟩
    · exact .inl e
    · right
      have h4 := h2 _ (g6 ▸ Dst.step h3 g2 hj g4 rfl)
      omega
  refine ⟨k, a, b, g2, g3, g4, g6, ?_, low⟩
  have hm6 := g1.lt hp
  rw [g5]
  rcases low a g3 with e | e
  · rw [g5] at e
    rcases hK m hm6 with ⟨_, h3⟩ | ⟨h3, _⟩
    · exact absurd g1 (h3 v)
    · omega
  · rw [g5] at e
    rcases hK m hm6 with ⟨_, h3⟩ | ⟨_, _, h3⟩
    · exact absurd g1 (h3 v)
    · have := h3 v g1
      omega
theorem In6P.mem {p : List Dp} (hp : In6P p) : ∀ d ∈ p, In6 d.ins := fun d hd => by
  obtain ⟨k, hk, rfl⟩ := gDp_of hd
  exact hp k hk
theorem known_ex0 {p : List Dp} (hp : In6P p) : ∀ (n : Nat) (s : S6), pot s ≤ n → Cnt s → Sound p s → ∃ K, KnownIs p K ∧ Cnt K
  | n, s, hn, hc, hs => by
    rcases rndTo_pot hc hp (Nat.le_refl p.length) with ⟨_, h⟩ | h
    · exact ⟨s, known_of hc hp hs h, hc⟩
    · match n, hn with
      | 0, hn => omega
      | n + 1, hn => exact known_ex0 hp n (rndTo s p p.length) (by omega) (rndTo_cnt hc hp (Nat.le_refl _)) (Sound.rnd hs hc hp (Nat.le_refl _))
theorem known_ex {p : List Dp} (hp : In6P p) : ∃ K, KnownIs p K ∧ Cnt K := known_ex0 hp _ begun6 (Nat.le_refl _) Cnt.begun (Sound.begun p)
theorem KnownIs.cnt {p : List Dp} {K : S6} (hK : KnownIs p K) (hp : In6P p) : Cnt K := by
  obtain ⟨K', h1, h2⟩ := known_ex hp
  rw [hK.uniq h1]; exact h2
/-- the dips of a plan, in an order in which what is known by it is known when they have been gone through once. -/
theorem KnownIs.rch {p : List Dp} {K : S6} (hK : KnownIs p K) (hp : In6P p) : ∃ m s, m ≤ p.length ∧ Rch p m s ∧ ∀ i, i < 6 → K.get i ≠ -1 → Le6 (s.get i) (K.get i) := by
  have hm := hp.mem
  have h0 : ∀ v : Nat, ∃ s, Rch p (p.filter fun d => decide (0 ≤ fstK K d ∧ fstK K d < (v : Int))).length s ∧ ∀ i, i < 6 → 0 ≤ K.get i → K.get i ≤ (v : Int) → Le6 (s.get i) (K.get i) := by
    intro v
    induction v with
    | zero =>
      refine ⟨begun6, ?_, fun i hi h1 h2 => ?_⟩
      · rw [List.filter_eq_nil_iff.2 (fun d _ => by simp <;> omega)]
        exact .zero
      · rcases hK i hi with ⟨e, _⟩ | ⟨_, h3, _⟩
        · omega
        · rw [show (K.get i).toNat = 0 by omega] at h3
          have hi0 : i = 0 := by cases h3; rfl
          rw [begun_get hi, if_pos hi0]
          exact ⟨by omega, by omega⟩
    | succ v ih =>
      obtain ⟨s, hr, hs⟩ := ih
      have hlo : ∀ i, i < 6 → -1 ≤ K.get i := fun i hi => by rcases hK i hi with ⟨e, _⟩ | ⟨e, _⟩ <;> omega
      obtain ⟨s', h1, h2, h3⟩ := run_level (K := K) (v := (v : Int)) hm (p.filter fun d => decide (fstK K d = (v : Int))) _ s hr (fun d hd => by
        obtain ⟨hdp, e⟩ := List.mem_filter.1 hd
        have e := of_decide_eq_true e
        have hd6 := hm d hdp
        rcases fstTo_spec hlo hd6 (Nat.le_refl _) with ⟨e2, _⟩ | ⟨_, ⟨j, hj, e2⟩, _⟩
        · unfold fstK at e; omega
        · have hj6 : (gI d.ins j).toNat < 6 := by have := hd6 j hj; omega
          have e3 : K.get (gI d.ins j).toNat = (v : Int) := by rw [e2]; exact e
          have h4 := hs _ hj6 (by omega) (by omega)
          rw [e3] at h4
          exact ⟨hdp, j, hj, h4⟩)
      refine ⟨s', ?_, fun i hi g1 g2 => ?_⟩
      · rw [show ((v + 1 : Nat) : Int) = (v : Int) + 1 by omega, filter_split (by omega)]
        exact h1
      · by_cases e : K.get i ≤ (v : Int)
        · exact h2 i hi _ (hs i hi g1 e)
        · have e2 : K.get i = (v : Int) + 1 := by omega
          obtain ⟨k, a, b, f1, f2, f3, f4, f5, f6⟩ := hK.prev hp hi e2
          have hmem : gDp p k ∈ p.filter fun d => decide (fstK K d = (v : Int)) := by
            refine List.mem_filter.2 ⟨gDp_mem f1, decide_eq_true ?_⟩
            unfold fstK
            rcases fstTo_spec hlo (hp k f1) (Nat.le_refl _) with ⟨_, g3⟩ | ⟨_, ⟨j, hj, g3⟩, g4⟩
            · have := g3 a f2; omega
            · have q1 := g4 a f2
              have q2 := f6 j hj
              omega
          have := h3 _ hmem b f3
          rw [f4] at this
          rw [e2]
          exact this
  obtain ⟨s, h1, h2⟩ := h0 6
  refine ⟨_, s, List.length_filter_le _ _, h1, fun i hi hne => ?_⟩
  rcases hK i hi with ⟨e, _⟩ | ⟨e, h3, h4⟩
  · exact absurd e hne
  · refine h2 i hi e ?_
    have := (hK.cnt hp).hi hi
    omega
/-- more dips: what was known is known. -/
theorem Dst.app {p q : List Dp} {i v : Nat} (h : Dst p i v) : Dst (p ++ q) i v := by
  induction h with
  | std => exact .std
  | @step m v k i j _ hk hi hj e ih =>
    have e2 : gDp (p ++ q) k = gDp p k := by unfold gDp; simp [List.getElem?_append, hk]
    have := Dst.step (p := p ++ q) (k := k) (i := i) (j := j) ih (by rw [List.length_append]; omega) (by rw [e2]; exact hi) (by rw [e2]; exact hj) (by rw [e2]; exact e)
    rw [e2] at this
    exact this
theorem Path.sound {D l : List Dp} {s : S6} (hD : ∀ d ∈ D, In6 d.ins) (h : Path D l s) : Sound l s := by
  induction h with
  | nil => exact Sound.begun []
  | @snoc l s d h hd ih =>
    have e2 : gDp (l ++ [d]) l.length = d := by unfold gDp; simp
    have h1 : Sound (l ++ [d]) s := fun i hi => (ih i hi).imp id fun ⟨a, b⟩ => ⟨a, b.app⟩
    have h2 := Sound.nearer (k := l.length) h1 (h.rch.cnt hD) (by simp) (by rw [e2]; exact hD d hd)
    rw [e2] at h2
    exact h2
theorem Path.mem {D l : List Dp} {s : S6} (h : Path D l s) : ∀ d ∈ l, d ∈ D := by
  induction h with
  | nil => intro d hd; cases hd
  | snoc _ hd ih =>
    intro e he
    rcases List.mem_append.1 he with he | he
    · exact ih e he
    · rw [List.mem_singleton.1 he]; exact hd
theorem Path.in6 {D l : List Dp} {s : S6} (hD : ∀ d ∈ D, In6 d.ins) (h : Path D l s) : In6P l := fun k hk => hD _ (h.mem _ (gDp_mem hk))
theorem Path.le {D l : List Dp} {s K : S6} (hD : ∀ d ∈ D, In6 d.ins) (h : Path D l s) (hK : KnownIs l K) {i : Nat} (hi : i < 6) (hne : s.get i ≠ -1) : Le6 (K.get i) (s.get i) := by
  rcases h.sound hD i hi with e | ⟨e, h1⟩
  · exact absurd e hne
  · rcases hK i hi with ⟨_, h2⟩ | ⟨e2, _, h2⟩
    · exact absurd h1 (h2 _)
    · have := h2 _ h1
      exact ⟨e2, by omega⟩

/-- are all of a works known by few enough steps? -/
def RightS (w : Wo) (s : S6) : Prop := ∀ i, i < w.rng.length → 0 ≤ s.get i ∧ s.get i ≤ w.steps
/-- a plan of a works by which all are known by few enough steps. -/
structure RightP (w : Wo) (p : List Dp) : Prop where
  dips : ∀ k, k < p.length → DipOk w (gDp p k)
  known : ∃ K, KnownIs p K ∧ RightS w K
theorem RightP.in6 {w : Wo} {p : List Dp} (h : RightP w p) (hw : WoOk w) : In6P p := fun k hk => (h.dips k hk).in6 hw
theorem Rch.ins {D E : List Dp} (h : ∀ d ∈ D, ∃ e ∈ E, e.ins = d.ins) {m : Nat} {s : S6} (hr : Rch D m s) : Rch E m s := by
  induction hr with
  | zero => exact .zero
  | step _ hd ih =>
    obtain ⟨e, he, e2⟩ := h _ hd
    have := Rch.step ih he
    rw [e2] at this
    exact this
/-- what a right plan brings about can be had with its dips. -/
theorem RightP.rch {w : Wo} {p D : List Dp} (h : RightP w p) (hw : WoOk w) (hD : ∀ d, DipOk w d → ∃ e ∈ D, e.ins = d.ins) : ∃ m s, m ≤ p.length ∧ Rch D m s ∧ RightS w s := by
  obtain ⟨K, hK, hR⟩ := h.known
  obtain ⟨m, s, h1, h2, h3⟩ := hK.rch (h.in6 hw)
  have hn := hw.n
  refine ⟨m, s, h1, h2.ins fun d hd => ?_, fun i hi => ?_⟩
  · obtain ⟨k, hk, rfl⟩ := gDp_of hd
    exact hD _ (h.dips k hk)
  · have h4 := hR i hi
    have h5 := h3 i (by omega) (by omega)
    unfold Le6 at h5
    omega
/-- a path to something right is a right plan. -/
theorem Path.right {w : Wo} {D l : List Dp} {s : S6} (h : Path D l s) (hw : WoOk w) (hD : ∀ d ∈ D, DipOk w d) (hR : RightS w s) : RightP w l := by
  have h6 : ∀ d ∈ D, In6 d.ins := fun d hd => (hD d hd).in6 hw
  obtain ⟨K, hK, _⟩ := known_ex (h.in6 h6)
  have hn := hw.n
  refine ⟨fun k hk => hD _ (h.mem _ (gDp_mem hk)), K, hK, fun i hi => ?_⟩
  have h1 := hR i hi
  have h2 := h.le h6 hK (i := i) (by omega) (by omega)
  unfold Le6 at h2
  omega

/-- a smaller plan by which the same is known: one dip for each. -/
theorem known_sub {p q : List Dp} {K : S6} (hK : KnownIs p K) (hp : In6P p) (hq : In6P q) (n : Nat) (hn : n ≤ 6)
    (h : ∀ i v, i < n → K.get i = ((v : Nat) : Int) + 1 → ∃ d ∈ q, ∃ a b, a < d.ins.length ∧ b < d.ins.length ∧ (gI d.ins b).toNat = i ∧ (gI d.ins a).toNat < n ∧ K.get (gI d.ins a).toNat = (v : Int)) :
    ∀ v : Nat, ∀ i, i < n → K.get i = (v : Int) → Dst q i v
  | 0, i, hi, e => by
    rcases hK i (by omega) with ⟨e2, _⟩ | ⟨_, h1, _⟩
    · omega
    · rw [show (K.get i).toNat = 0 by omega] at h1
      have : i = 0 := by cases h1; rfl
      subst this
      exact .std
  | v + 1, i, hi, e => by
    obtain ⟨d, hd, a, b, ha, hb, e1, ha6, e2⟩ := h i v hi (by omega)
    obtain ⟨k, hk, rfl⟩ := gDp_of hd
    have h1 := known_sub hK hp hq n hn h v _ ha6 e2
    rw [← e1]
    exact .step h1 hk ha hb rfl
end Go.Proofs.Ytnplefhigbkbbaa
end

section
namespace Go.Proofs.Ytnplefhigbkbbaa
open Go.RowKit
attribute [local go_sem] Ex.cell? Ex.frozen?

set_option maxRecDepth 100000 in
set_option maxHeartbeats 3200000 in
theorem check_any (s : Se) (Ao Ab : Option Addr) (co cb : Nat) (rA : Nat → Option Addr) (rc : Nat → Nat) (w : World) (hs : SeIn w w.heap.size s Ao Ab rA rc) (hrl : ∀ k, k < s.baths.length → (gBt s.baths k).reads.length ≤ 1000000) (hbl : s.baths.length ≤ 1000000) (hol : s.offs.length ≤ 1000000) :
    Calls Try.prog 61 #[.agg #[.slice Ao s.offs.length co, .int .i64 s.err, .slice Ab s.baths.length cb]] w fun e w' => e = .returned (.int .i64 (ckSe s)) ∧ Below w.heap.size w w' := by
  have hb1 := ex_alloc (Below.refl w.heap.size w) (.cells #[.slice Ao s.offs.length co, .int .i64 s.err, .slice Ab s.baths.length cb] 34)
  have q1 : Blk (w.alloc (.cells #[.slice Ao s.offs.length co, .int .i64 s.err, .slice Ab s.baths.length cb] 34)) w.heap.size 34 #[.slice Ao s.offs.length co, .int .i64 s.err, .slice Ab s.baths.length cb] := Blk.new _ _ _
  by_cases h1 : 6 < s.offs.length
  · have HR : Hid (ckSe s = 3) := Lib.hid (by unfold ckSe; rw [if_pos (.inl h1)])
    have d1 : decide ((6 : Int) < (s.offs.length : Int)) = true := decide_eq_true (by omega)
    go_enter Try.func61, Try.ntmps61
    go_wp2
    go_ret
    exact ⟨ret_int HR.out.symm, hb1⟩
  have d1 : decide ((6 : Int) < (s.offs.length : Int)) = false := decide_eq_false (by omega)
  by_cases h2 : 6 < s.baths.length
  · have HR : Hid (ckSe s = 3) := Lib.hid (by unfold ckSe; rw [if_pos (.inr h2)])
    have d2 : decide ((6 : Int) < (s.baths.length : Int)) = true := decide_eq_true (by omega)
    go_enter Try.func61, Try.ntmps61
    go_wp2
    go_ret
    exact ⟨ret_int HR.out.symm, hb1⟩
  have d2 : decide ((6 : Int) < (s.baths.length : Int)) = false := decide_eq_false (by omega)
  have HL := Lib.hid (show ¬ (s.offs.length > 6 ∨ s.baths.length > 6) by omega)
  by_cases h3 : s.offs.length = 0
  · have HR : Hid (ckSe s = 1) := Lib.hid (by unfold ckSe; rw [if_neg HL.out, if_pos (.inl h3)])
    have c1 : (s.offs.length == 0) = true := by simp [h3]
    have c2 : ((s.offs.length : Int) == 0) = true := by simp [h3]
    clear h3
    go_enter Try.func61, Try.ntmps61
    go_wp2
    go_ret
    exact ⟨ret_int HR.out.symm, hb1⟩
  have c1 : (s.offs.length == 0) = false := by simp [h3]
  have c2 : ((s.offs.length : Int) == 0) = false := by rw [beq_eq_false_iff_ne]; omega
  cases h4 : offsB s.offs
  · have HR : Hid (ckSe s = 1) := Lib.hid (by unfold ckSe; rw [if_neg HL.out, if_pos (.inr (.inl h4))])
    have H4 : Hid (allTo (fun k => (spanB (gR s.offs k) (-100) 100)) s.offs.length = false) := Lib.hid h4
    clear h4
    go_enter Try.func61, Try.ntmps61
    go_wp2_with fail
    refine (all_off s.offs.length s.offs Ao co _ (hs.go hb1).offs (by omega)).mono ?_
    rintro e w2 ⟨rfl, hb2⟩
    rw [H4.out]
    go_wp2
    go_ret
    exact ⟨ret_int HR.out.symm, ex_trans hb1 hb2⟩
  have H4 : Hid (allTo (fun k => (spanB (gR s.offs k) (-100) 100)) s.offs.length = true) := Lib.hid h4
  have HO := Lib.hid h4
  clear h4
  cases h5 : inB s.err 0 20
  · have HR : Hid (ckSe s = 1) := Lib.hid (by
      unfold ckSe
      rw [if_neg HL.out, if_pos (.inr (.inr (.inl (fun k => by rw [inB_iff.2 k] at h5; cases h5))))])
    have H5 := Lib.hid h5
    clear h5
    go_enter Try.func61, Try.ntmps61
    go_wp2_with fail
    refine (all_off s.offs.length s.offs Ao co _ (hs.go hb1).offs (by omega)).mono ?_
    rintro e w2 ⟨rfl, hb2⟩
    rw [H4.out]
    have p1 := q1.below hb2 q1.lt
    have a1 : w2.cell? ⟨w.heap.size, 1, none⟩ = some (.int .i64 s.err) := p1.cell 1
    have l1 := p1.lt
    go_wp2_with fail
    refine (within_any _ _ _ _).mono ?_
    rintro e w3 ⟨rfl, rfl⟩
    rw [H5.out]
    go_wp2
    go_ret
    exact ⟨ret_int HR.out.symm, ex_trans hb1 hb2⟩
  have H5 := Lib.hid h5
  have HE := Lib.hid (inB_iff.1 h5)
  clear h5
  obtain ⟨r, hr⟩ : ∃ r, btsB s.offs.length s.baths = r := ⟨_, rfl⟩
  have HB : Hid (allTo (fun k => (btOk s.offs.length (gBt s.baths k))) s.baths.length = r) := Lib.hid hr
  have HR : Hid (ckSe s = if r then 0 else 1) := Lib.hid (by
    unfold ckSe
    rw [if_neg HL.out]
    cases r
    · rw [if_pos (.inr (.inr (.inr hr)))]; rfl
    · rw [if_neg]
      · rfl
      · rintro (k | k | k | k)
        · exact h3 k
        · rw [HO.out] at k; cases k
        · exact k HE.out
        · rw [hr] at k; cases k)
  clear hr
  go_enter Try.func61, Try.ntmps61
  go_wp2_with fail
  refine (all_off s.offs.length s.offs Ao co _ (hs.go hb1).offs (by omega)).mono ?_
  rintro e w2 ⟨rfl, hb2⟩
  rw [H4.out]
  have p1 := q1.below hb2 q1.lt
  have a0 : w2.cell? ⟨w.heap.size, 0, none⟩ = some (.slice Ao s.offs.length co) := p1.cell 0
  have a1 : w2.cell? ⟨w.heap.size, 1, none⟩ = some (.int .i64 s.err) := p1.cell 1
  have a2 : w2.cell? ⟨w.heap.size, 2, none⟩ = some (.slice Ab s.baths.length cb) := p1.cell 2
  have l1 := p1.lt
  go_wp2_with fail
  refine (within_any _ _ _ _).mono ?_
  rintro e w3 ⟨rfl, rfl⟩
  rw [H5.out]
  go_wp2_with fail
  have hs2 := hs.go (ex_trans hb1 hb2)
  refine (all_bath s.offs.length s.baths.length co cb Ao Ab s.err (by omega) s.baths.length s.baths rA rc hrl Ab cb w2 hs2.reads hs2.baths (by omega)).mono ?_
  rintro e w4 ⟨rfl, hb4⟩
  rw [HB.out]
  cases r
  · go_wp2
    go_ret
    exact ⟨ret_int HR.out.symm, ex_trans (ex_trans hb1 hb2) hb4⟩
  · go_wp2
    go_ret
    exact ⟨ret_int HR.out.symm, ex_trans (ex_trans hb1 hb2) hb4⟩
end Go.Proofs.Ytnplefhigbkbbaa
end

section
namespace Go.Proofs.Ytnplefhigbkbbaa
open Go.RowKit
attribute [local go_sem] Ex.cell? Ex.frozen? run_store_func

def farV (f : Mat) (i : Nat) : Value := .int .i64 (f (i / 13) (i % 13))
/-- block q is how far things are apart. -/
def FarAt (W : World) (q : Nat) (f : Mat) : Prop := VArr W q 187 169 (farV f)
section
variable {W W' : World} {q : Nat} {f : Mat}
theorem FarAt.lt (h : FarAt W q f) : q < W.heap.size := VArr.lt h
theorem FarAt.cell (h : FarAt W q f) {a b : Nat} (ha : a < 13) (hb : b < 13) : W.cell? ⟨q, a * 13 + b, none⟩ = some (.int .i64 (f a b)) := by
  have := VArr.cell h (i := a * 13 + b) (by omega)
  rw [this]
  unfold farV
  rw [show (a * 13 + b) / 13 = a by omega, show (a * 13 + b) % 13 = b by omega]
theorem FarAt.frozen (h : FarAt W q f) (i : Nat) : W.frozen? ⟨q, i, none⟩ = false := VArr.frozen h i
theorem FarAt.below (h : FarAt W q f) (hb : Below W.heap.size W W') : FarAt W' q f := VArr.below h hb
theorem FarAt.fr {R : Nat → Prop} (h : FarAt W q f) (hf : Fr R W W') (hn : ¬ R q) : FarAt W' q f := VArr.fr h hf hn
theorem FarAt.set (h : FarAt W q f) {a b : Nat} (v : Int) (ha : a < 13) (hb : b < 13) : FarAt (W.setCell ⟨q, a * 13 + b, none⟩ (.int .i64 v)) q (set2 f a b v) := by
  refine (VArr.set h (i := a * 13 + b) (.int .i64 v) (by omega)).ext (fun i hi => ?_)
  unfold farV set2
  by_cases e : i = a * 13 + b
  · subst e
    simp only [if_true]
    rw [if_pos ⟨by omega, by omega⟩]
  · simp only [e, if_false]
    rw [if_neg (by omega)]
end

set_option maxRecDepth 100000 in
set_option maxHeartbeats 1600000 in
theorem span_any (q a b : Nat) (f : Mat) (lo hi : Int) (w : World) (hf : FarAt w q f) (ha : a < 13) (hb : b < 13) (hlo : -100000 ≤ lo ∧ lo ≤ 100000) :
    Calls Try.prog 122 #[.pointer (some ⟨q, 0, none⟩), .int .i64 (a : Int), .int .i64 (b : Int), .agg #[.int .i64 lo, .int .i64 hi]] w fun e w' => e = .returned (.tuple #[]) ∧ Fr (fun x => x = q) w w' ∧ FarAt w' q (spanM f a b lo hi) := by
  go_enter Try.func122, Try.ntmps122
  have c1 := hf.cell ha hb
  have c2 := hf.cell hb ha
  have lq := hf.lt
  have w1 : IntKind.i64.wrap (-lo) = -lo := IntWalk.i64_in _ (by omega)
  go_wp2_with fail
  have q1 : Blk (w.alloc (.cells #[.int .i64 lo, .int .i64 hi] 41)) w.heap.size 41 #[.int .i64 lo, .int .i64 hi] := Blk.new _ _ _
  have hb1 := ex_alloc (Below.refl w.heap.size w) (.cells #[.int .i64 lo, .int .i64 hi] 41)
  have f1 := hf.below hb1
  generalize w.alloc (.cells #[.int .i64 lo, .int .i64 hi] 41) = V at *
  have d1 := f1.cell ha hb
  have lq1 := f1.lt
  have e1 : V.cell? ⟨w.heap.size, 1, none⟩ = some (.int .i64 hi) := q1.cell 1
  have le := q1.lt
  refine wp_region_ext_mix 16 [(false, 0), (false, 1), (false, 2), (false, 3), (false, 4), (false, 5), (false, 6), (false, 7), (false, 8), (false, 9), (false, 10), (false, 11), (false, 14), (false, 15), (true, 12), (true, 13)] (by kernel_rfl) (by kernel_rfl) (by intro d _ _ _ _ h; cases d <;> exact h) ?_
  have hX0 := (Below.refl V.heap.size V).drew
  repeat (refine mix_quiet rfl ?_; go_big_quiet_step (fail); refine wpQuiet_nil ?_)
  refine mix_loud rfl ?_
  go_wp2_with fail
  have hX1 : Below V.heap.size V (V.alloc (.cells #[.int .i64 (f a b), .int .i64 (hi)] 3)).drew := (ex_alloc (Below.refl _ _) _).drew
  refine ⟨inEx hX1, ?_⟩
  refine mix_loud rfl ?_
  go_wp2_with fail
  refine (least2 V.heap.size 2 (f a b) (hi) _ (by simp [go_sem]) (by simp [go_sem])).mono ?_
  rintro e w' ⟨rfl, rfl⟩
  go_wp2_with fail
  refine ⟨inEx hX1, ?_⟩
  refine mix_nil (r := [_, _]) rfl ?_
  have f2 := f1.below hX1
  have fz2 := f1.frozen (a * 13 + b)
  have f3 := f2.set (min (f a b) hi) ha hb
  have hF1 : Fr (fun x => x = q) w ((V.alloc (.cells #[.int .i64 (f a b), .int .i64 hi] 3)).drew.setCell ⟨q, a * 13 + b, none⟩ (.int .i64 (min (f a b) hi))) := (Fr.below (ex_trans hb1 hX1)).andSet rfl
  have q2 := (q1.below hX1 le).fr ((Fr.refl (fun x => x = q) (V.alloc (.cells #[.int .i64 (f a b), .int .i64 hi] 3)).drew).andSet (i := a * 13 + b) (v := .int .i64 (min (f a b) hi)) rfl) (by omega)
  go_wp2_with fail
  clear d1 e1
  have hU : (V.alloc (.cells #[.int .i64 (f a b), .int .i64 hi] 3)).drew.setCell ⟨q, a * 13 + b, none⟩ (.int .i64 (min (f a b) hi)) = ((V.setCell ⟨q, a * 13 + b, none⟩ (.int .i64 (min (f a b) hi))).alloc (.cells #[.int .i64 (f a b), .int .i64 hi] 3)).drew := by
    simp [go_sem, lq1]
  rw [hU] at f3 hF1 q2
  clear hU fz2
  generalize ((V.setCell ⟨q, a * 13 + b, none⟩ (.int .i64 (min (f a b) hi))).alloc (.cells #[.int .i64 (f a b), .int .i64 hi] 3)).drew = U at *
  obtain ⟨f', hf'⟩ : ∃ f', set2 f a b (min (f a b) hi) = f' := ⟨_, rfl⟩
  have HFE := Lib.hid hf'
  rw [hf'] at f3
  clear f1 f2 q1 hb1 hX1 hX0 hf'
  have d2 := f3.cell hb ha
  have lq2 := f3.lt
  have e0 : U.cell? ⟨w.heap.size, 0, none⟩ = some (.int .i64 lo) := q2.cell 0
  have le2 := q2.lt
  refine wp_region_ext_mix 17 [(false, 0), (false, 1), (false, 2), (false, 3), (false, 4), (false, 5), (false, 6), (false, 7), (false, 8), (false, 9), (false, 10), (false, 11), (false, 12), (false, 15), (false, 16), (true, 13), (true, 14)] (by kernel_rfl) (by kernel_rfl) (by intro d _ _ _ _ h; cases d <;> exact h) ?_
  have hX0 := (Below.refl U.heap.size U).drew
  repeat (refine mix_quiet rfl ?_; go_big_quiet_step (fail); refine wpQuiet_nil ?_)
  refine mix_loud rfl ?_
  go_wp2_with fail
  have hX1 : Below U.heap.size U (U.alloc (.cells #[.int .i64 (f' b a), .int .i64 (-lo)] 3)).drew := (ex_alloc (Below.refl _ _) _).drew
  refine ⟨inEx hX1, ?_⟩
  refine mix_loud rfl ?_
  go_wp2_with fail
  refine (least2 U.heap.size 2 (f' b a) (-lo) _ (by simp [go_sem]) (by simp [go_sem])).mono ?_
  rintro e w' ⟨rfl, rfl⟩
  go_wp2_with fail
  refine ⟨inEx hX1, ?_⟩
  refine mix_nil (r := [_, _]) rfl ?_
  have f4 := f3.below hX1
  have fz4 := f3.frozen (b * 13 + a)
  have f5 := f4.set (min (f' b a) (-lo)) hb ha
  have hF2 : Fr (fun x => x = q) w ((U.alloc (.cells #[.int .i64 (f' b a), .int .i64 (-lo)] 3)).drew.setCell ⟨q, b * 13 + a, none⟩ (.int .i64 (min (f' b a) (-lo)))) := (hF1.trans (Fr.below (R := fun x => x = q) hX1) (fun _ _ h => h)).andSet rfl
  go_wp2
  have hU : (U.alloc (.cells #[.int .i64 (f' b a), .int .i64 (-lo)] 3)).drew.setCell ⟨q, b * 13 + a, none⟩ (.int .i64 (min (f' b a) (-lo))) = ((U.setCell ⟨q, b * 13 + a, none⟩ (.int .i64 (min (f' b a) (-lo)))).alloc (.cells #[.int .i64 (f' b a), .int .i64 (-lo)] 3)).drew := by
    simp [go_sem, lq2]
  rw [hU] at f5 hF2
  refine bodyPost_end (v := .tuple #[]) (results_none Try.results122 _ _ _) rfl ⟨rfl, hF2, ?_⟩
  unfold spanM
  rw [HFE.out]
  exact f5

set_option maxHeartbeats 800000 in
theorem low_any (q a b : Nat) (f : Mat) (w : World) (hf : FarAt w q f) (ha : a < 13) (hb : b < 13) (hbd : -1000000 ≤ f b a ∧ f b a ≤ 1000000) :
    Calls Try.prog 104 #[.pointer (some ⟨q, 0, none⟩), .int .i64 (a : Int), .int .i64 (b : Int)] w fun e w' => e = .returned (.int .i64 (-(f b a))) ∧ Below w.heap.size w w' := by
  have c2 := hf.cell hb ha
  have lq := hf.lt
  have w1 : IntKind.i64.wrap (-(f b a)) = -(f b a) := IntWalk.i64_in _ (by omega)
  go_enter Try.func104, Try.ntmps104
  go_wp2
  go_ret
  exact ⟨rfl, Below.refl _ _⟩
set_option maxHeartbeats 800000 in
theorem high_any (q a b : Nat) (f : Mat) (w : World) (hf : FarAt w q f) (ha : a < 13) (hb : b < 13) :
    Calls Try.prog 105 #[.pointer (some ⟨q, 0, none⟩), .int .i64 (a : Int), .int .i64 (b : Int)] w fun e w' => e = .returned (.int .i64 (f a b)) ∧ Below w.heap.size w w' := by
  have c2 := hf.cell ha hb
  have lq := hf.lt
  go_enter Try.func105, Try.ntmps105
  go_wp2
  go_ret
  exact ⟨rfl, Below.refl _ _⟩
set_option maxRecDepth 100000 in
set_option maxHeartbeats 1600000 in
theorem between_any (q a b : Nat) (f : Mat) (w : World) (hf : FarAt w q f) (ha : a < 13) (hb : b < 13) (hbd : -1000000 ≤ f b a ∧ f b a ≤ 1000000) :
    Calls Try.prog 70 #[.pointer (some ⟨q, 0, none⟩), .int .i64 (a : Int), .int .i64 (b : Int)] w fun e w' => e = .returned (.agg #[.int .i64 (-(f b a)), .int .i64 (f a b)]) ∧ Below w.heap.size w w' := by
  have lq := hf.lt
  go_enter Try.func70, Try.ntmps70
  go_wp2_with fail
  have hb1 := ex_alloc (ex_alloc (ex_alloc (Below.refl w.heap.size w) (.cells #[.int .i64 0, .int .i64 0] 41)) (.cells #[.func (.func 104) #[] #[]] 174)) (.cells #[.func (.func 105) #[] #[]] 174)
  have q0 : Blk (((w.alloc (.cells #[.int .i64 0, .int .i64 0] 41)).alloc (.cells #[.func (.func 104) #[] #[]] 174)).alloc (.cells #[.func (.func 105) #[] #[]] 174)) w.heap.size 41 #[.int .i64 0, .int .i64 0] := ((Blk.new _ _ _).alloc _).alloc _
  have q1 : Blk (((w.alloc (.cells #[.int .i64 0, .int .i64 0] 41)).alloc (.cells #[.func (.func 104) #[] #[]] 174)).alloc (.cells #[.func (.func 105) #[] #[]] 174)) (w.heap.size + 1) 174 #[.func (.func 104) #[] #[]] := (Blk.new' _ _ _ (by simp)).alloc _
  have q2 : Blk (((w.alloc (.cells #[.int .i64 0, .int .i64 0] 41)).alloc (.cells #[.func (.func 104) #[] #[]] 174)).alloc (.cells #[.func (.func 105) #[] #[]] 174)) (w.heap.size + 1 + 1) 174 #[.func (.func 105) #[] #[]] := Blk.new' _ _ _ (by simp)
  generalize ((w.alloc (.cells #[.int .i64 0, .int .i64 0] 41)).alloc (.cells #[.func (.func 104) #[] #[]] 174)).alloc (.cells #[.func (.func 105) #[] #[]] 174) = V at *
  have f1 := hf.below hb1
  have c1 : V.cell? ⟨w.heap.size + 1, 0, none⟩ = some (.func (.func 104) #[] #[]) := q1.cell 0
  have c2 : V.cell? ⟨w.heap.size + 1 + 1, 0, none⟩ = some (.func (.func 105) #[] #[]) := q2.cell 0
  have l1 := q1.lt
  have l2 := q2.lt
  refine wp_region_ext_mix 13 [(false, 0), (false, 1), (false, 2), (false, 3), (false, 4), (false, 6), (false, 7), (false, 8), (false, 9), (false, 10), (true, 5), (true, 11), (false, 12)] (by kernel_rfl) (by kernel_rfl) (by intro d _ _ _ _ h; cases d <;> exact h) ?_
  have hX0 := (Below.refl V.heap.size V).drew
  repeat (refine mix_quiet rfl ?_; go_big_quiet_step (fail); refine wpQuiet_nil ?_)
  refine mix_loud rfl ?_
  go_wp2_with fail
  refine (low_any q a b f V.drew (f1.below hX0) ha hb hbd).mono ?_
  rintro e w2 ⟨rfl, h2⟩
  have hX2 := ex_trans hX0 h2
  go_wp2_with fail
  refine ⟨inEx hX2, ?_⟩
  refine mix_loud rfl ?_
  go_wp2_with fail
  refine (high_any q a b f w2 (f1.below hX2) ha hb).mono ?_
  rintro e w3 ⟨rfl, h3⟩
  have hX3 := ex_trans hX2 h3
  go_wp2_with fail
  refine ⟨inEx hX3, ?_⟩
  repeat (refine mix_quiet rfl ?_; go_big_quiet_step (fail); refine wpQuiet_nil ?_)
  refine mix_nil rfl ?_
  have z := q0.below hX3 q0.lt
  have z0 := z.cell 0
  have z1 := z.cell 1
  have fr0 := z.frozen 0
  have fr1 := z.frozen 1
  have lz := z.lt
  have hB3 := ex_trans hb1 hX3
  simp at z0 z1
  go_wp2
  have r5 := (z.set_ 0 (.int .i64 (-(f b a)))).set_ 1 (.int .i64 (f a b))
  simp only [List.setIfInBounds_toArray, List.set_cons_zero, List.set_cons_succ] at r5
  refine bodyPost_ret (results_cell_row rfl _ _ w.heap.size 41 #[.int .i64 (-(f b a)), .int .i64 (f a b)] (0, 0) _ rfl r5 rfl rfl rfl) rfl ?_
  exact ⟨rfl, ex_set (ex_set hB3 (Nat.le_refl _) _) (Nat.le_refl _) _⟩
end Go.Proofs.Ytnplefhigbkbbaa
end

section
namespace Go.Proofs.Ytnplefhigbkbbaa
open Go.RowKit Go.Shelf
attribute [local go_sem] Oper.semAt_some

theorem wide3 {P : Program} {f : FuncId} {args : Array Value} {w : World} {n m : Nat} {R : Ending → World → Prop} (h : Calls P f args w R) : Fence.wide.fn f ∧ (Fence.wide.depth.isSome = true → 1 ≤ n) ∧ CallsIn Fence.wide m P f args w R :=
  ⟨trivial, fun h => by simp [Fence.wide] at h, callsIn_wide.2 h⟩
theorem vint {k : IntKind} {a b : Int} (h : a = b) : Value.int k a = .int k b := by rw [h]
abbrev PlX (s : Se) := { p : Nat × Nat // p ∈ placeL s }
def encP (s : Se) (p : Nat × Nat) : Array Value := #[.agg #[.int .i64 (p.1 : Int), .int .i64 (p.2 : Int)], .agg #[.int .i64 (rdAt s p).inst, .int .i64 (rdAt s p).val]]
/-- what lies below a place lies as it lay. -/
structure KeepsLow (B : Nat) (W W' : World) : Prop where
  size : W.heap.size ≤ W'.heap.size
  low : ∀ k, k < B → W'.heap[k]? = W.heap[k]?
theorem KeepsLow.refl (B : Nat) (W : World) : KeepsLow B W W := ⟨Nat.le_refl _, fun _ _ => rfl⟩
theorem KeepsLow.trans {B : Nat} {X Y Z : World} (h : KeepsLow B X Y) (k : KeepsLow B Y Z) : KeepsLow B X Z := ⟨Nat.le_trans h.size k.size, fun i hi => (k.low i hi).trans (h.low i hi)⟩
theorem KeepsLow.below {B : Nat} {W W' : World} (h : Below W.heap.size W W') (hB : B ≤ W.heap.size) : KeepsLow B W W' := ⟨h.size, fun k hk => h.block k (by omega)⟩
theorem KeepsLow.alloc {B : Nat} (W : World) (o : Obj) (hB : B ≤ W.heap.size) : KeepsLow B W (W.alloc o) := KeepsLow.below (ex_alloc (Below.refl _ _) o) hB
theorem KeepsLow.slAt {W W' : World} {B sz n : Nat} {A : Option Addr} {f : Nat → Nat → Value} (h : SlAt W B sz A n f) (hk : KeepsLow B W W') : SlAt W' B sz A n f :=
  fun hn => let ⟨b, off, e, hb, hc⟩ := h hn; ⟨b, off, e, hb, fun k j hk' hj => by rw [← hc k j hk' hj]; simp [World.cell?, hk.low b hb]⟩
theorem SeIn.low {W W' : World} {s : Se} {Ao Ab : Option Addr} {rA : Nat → Option Addr} {rc : Nat → Nat} {B : Nat} (h : SeIn W B s Ao Ab rA rc) (hk : KeepsLow B W W') : SeIn W' B s Ao Ab rA rc :=
  ⟨hk.slAt h.offs, hk.slAt h.baths, fun b hb => hk.slAt (h.reads b hb)⟩
theorem reads_any (s : Se) (Ao Ab : Option Addr) (co cb : Nat) (rA : Nat → Option Addr) (rc : Nat → Nat) (w : World) (hs : SeIn w w.heap.size s Ao Ab rA rc) :
    Calls Try.prog 102 #[.agg #[.slice Ao s.offs.length co, .int .i64 s.err, .slice Ab s.baths.length cb]] w fun e w' => e = .returned (.func (.func 121) #[] #[.pointer (some ⟨w.heap.size, 0, none⟩)]) ∧ w' = w.alloc (.cells #[.slice Ao s.offs.length co, .int .i64 s.err, .slice Ab s.baths.length cb] 34) := by
  go_enter Try.func102, Try.ntmps102
  go_wp2
  go_ret
  exact ⟨rfl, rfl⟩

theorem placeB_mono {s : Se} : ∀ {n m : Nat}, n ≤ m → (placeB s n).length ≤ (placeB s m).length
  | n, 0, h => by
    obtain rfl : n = 0 := Nat.le_zero.1 h
    exact Nat.le_refl _
  | n, m + 1, h => by
    rcases Nat.eq_or_lt_of_le h with rfl | hlt
    · exact Nat.le_refl _
    · have := placeB_mono (s := s) (show n ≤ m by omega)
      rw [placeB, List.length_append]
      omega
theorem place_le {s : Se} {m : Nat} (h : m + 1 ≤ s.baths.length) : (placeB s m ++ (List.range (gBt s.baths m).reads.length).map (fun i => (m, i))).length ≤ (placeL s).length := placeB_mono (n := m + 1) h

set_option maxRecDepth 100000 in
set_option maxHeartbeats 4000000 in
theorem reads1_in (n : Nat) (s : Se) (Ao Ab : Option Addr) (co cb : Nat) (rA : Nat → Option Addr) (rc : Nat → Nat) (hbl : s.baths.length ≤ 1000000) (hrl : ∀ k, k < s.baths.length → (gBt s.baths k).reads.length ≤ 1000000)
    (l bl : Nat) (J Jx : List (PlX s) → World → Prop) (W : World) (B : Nat) (hB : B ≤ W.heap.size) (hs : SeIn W B s Ao Ab rA rc)
    (hJ : AbidesFrom W.heap.size J) (hJx : AbidesFrom W.heap.size Jx) (q1 : Blk W bl 34 #[.slice Ao s.offs.length co, .int .i64 s.err, .slice Ab s.baths.length cb])
    (hY : ∀ pre x W1, J pre W1 → pre.length < (placeL s).length → YieldAt Fence.wide (n - 1) Try.prog l (encP s x.1) W1 fun e W' =>
      (e = .returned (.bool true) ∧ J (pre ++ [x]) W' ∧ KeepsLow B W1 W') ∨ (e = .returned (.bool false) ∧ Jx (pre ++ [x]) W'))
    (h0 : J [] W) :
    CallsIn Fence.wide n Try.prog 121 #[.func (.yield l) #[] #[], .pointer (some ⟨bl, 0, none⟩)] W fun e W' => (∃ v, e = .returned v) ∧
      ((∃ xs, xs.map (·.1) = placeL s ∧ J xs W') ∨ (∃ pre, Jx pre W')) := by
  have a0 : W.cell? ⟨bl, 0, none⟩ = some (.slice Ao s.offs.length co) := q1.cell 0
  have a1 : W.cell? ⟨bl, 1, none⟩ = some (.int .i64 s.err) := q1.cell 1
  have a2 : W.cell? ⟨bl, 2, none⟩ = some (.slice Ab s.baths.length cb) := q1.cell 2
  have lt1 := q1.lt
  refine callsIn_of_wp Try.func121 rfl trivial ?_ rfl
  simp only [Try.ntmps121, List.size_toArray, List.length_cons, List.length_nil, Nat.reduceAdd, Nat.reduceSub, Array.replicate_succ, Array.replicate_zero, List.push_toArray, List.append_toArray, List.nil_append, List.cons_append]
  gi_wp2_with fail
  gi_loopw [10] (fun i wr => ∃ m : Nat, m ≤ s.baths.length ∧ i = .int .i64 (m : Int) ∧ KeepsLow B W wr ∧ ∃ pre : List (PlX s), pre.map (·.1) = placeB s m ∧ J pre wr)
    (fun i _ => s.baths.length - (intOf i).toNat)
  case atStart => exact ⟨0, by omega, rfl, .refl _ _, [], rfl, h0⟩
  case round =>
    obtain ⟨m, hm, rfl, hkc, pre, hpre, hJp⟩ := hrel
    by_cases hlt : m < s.baths.length
    · have hsz := hkc.size
      obtain ⟨bi, oi, rfl, hbi, g0, g1, g2⟩ := IsBts.at_ (hs.low hkc).baths hlt
      have hbw : bi < wr.heap.size := by omega
      have hrk := hrl m hlt
      have HP := Lib.hid hpre
      have hK1 : KeepsLow B W (wr.alloc (.cells #[.int .i64 (gBt s.baths m).heat.lo, .int .i64 (gBt s.baths m).heat.hi, .slice (rA m) (gBt s.baths m).reads.length (rc m)] 116)) := hkc.trans (KeepsLow.alloc _ _ (by omega))
      have hJ1 := AbidesFrom.below hJ hJp (ex_alloc (Below.refl wr.heap.size wr) (.cells #[.int .i64 (gBt s.baths m).heat.lo, .int .i64 (gBt s.baths m).heat.hi, .slice (rA m) (gBt s.baths m).reads.length (rc m)] 116))
      clear hpre
      gi_wp2_with fail
      clear g0 g1 g2
      gi_loopw [18] (fun i wr => ∃ k : Nat, k ≤ (gBt s.baths m).reads.length ∧ i = .int .i64 (k : Int) ∧ KeepsLow B W wr ∧ ∃ pre : List (PlX s), pre.map (·.1) = placeB s m ++ (List.range k).map (fun i => (m, i)) ∧ J pre wr)
        (fun i _ => (gBt s.baths m).reads.length - (intOf i).toNat)
      case atStart => exact ⟨0, by omega, rfl, hK1, pre, by rw [HP.out]; simp, hJ1⟩
      case round =>
        clear HP hJp pre hkc hK1 hJ1 hbw
        obtain ⟨k, hk, rfl, hkc, pre, hpre, hJp⟩ := hrel
        have HP := Lib.hid hpre
        clear hpre
        by_cases hlk : k < (gBt s.baths m).reads.length
        · have hsz2 := hkc.size
          obtain ⟨bj, oj, hAj, hbj, g0, g1⟩ := IsRds.at_ ((hs.low hkc).reads m hlt) hlk
          rw [hAj]
          have hbw : bj < wr.heap.size := by omega
          have hmem : (m, k) ∈ placeL s := mem_placeL.2 ⟨hlt, hlk⟩
          have hpl : (placeB s m ++ List.map (fun i => (m, i)) (List.range k)).length < (placeL s).length := by
            have e : (placeB s m ++ (List.range (gBt s.baths m).reads.length).map (fun i => (m, i))).length ≤ (placeL s).length := place_le (Nat.succ_le_of_lt hlt)
            simp only [List.length_append, List.length_map, List.length_range] at e ⊢
            omega
          have hlen : pre.length < (placeL s).length := by
            have h2 := congrArg List.length HP.out
            rw [List.length_map] at h2
            omega
          have hw4 := ex_alloc (Below.refl wr.heap.size wr) (.cells #[.int .i64 (gRd (gBt s.baths m).reads k).inst, .int .i64 (gRd (gBt s.baths m).reads k).val] 118)
          have hk4 : KeepsLow B W (wr.alloc (.cells #[.int .i64 (gRd (gBt s.baths m).reads k).inst, .int .i64 (gRd (gBt s.baths m).reads k).val] 118)) := hkc.trans (KeepsLow.alloc _ _ (by omega))
          obtain ⟨fn, tmps, assign, body, hy, hR⟩ := hY pre ⟨_, hmem⟩ _ (AbidesFrom.below hJ hJp hw4) hlen
          have hy' : (Instr.yield l #[.agg #[.int .i64 (m : Int), .int .i64 (k : Int)], .agg #[.int .i64 (gRd (gBt s.baths m).reads k).inst, .int .i64 (gRd (gBt s.baths m).reads k).val]]).run Try.prog (wr.alloc (.cells #[.int .i64 (gRd (gBt s.baths m).reads k).inst, .int .i64 (gRd (gBt s.baths m).reads k).val] 118)) = .ok (.round l fn tmps assign body) (wr.alloc (.cells #[.int .i64 (gRd (gBt s.baths m).reads k).inst, .int .i64 (gRd (gBt s.baths m).reads k).val] 118)) := hy
          clear hy hlen hpl
          gi_wp2_with fail
          refine ⟨fun h => by simp [Fence.wide] at h, ?_⟩
          refine hR.mono ?_
          rintro e W' (⟨rfl, hJ', hk'⟩ | ⟨rfl, hJx'⟩)
          · gi_wp2
            refine ⟨⟨k + 1, by omega, by simp, hk4.trans hk', _, ?_, hJ'⟩, by simp [intOf]; omega⟩
            rw [List.map_append, HP.out, List.range_succ, List.map_append]
            simp [List.append_assoc]
          · gi_wp2
            refine bodyPost_ret (results_none rfl _ _ _) rfl ?_
            exact ⟨⟨_, rfl⟩, .inr ⟨_, hJx'⟩⟩
        · have hkn : k = (gBt s.baths m).reads.length := by omega
          have HP2 : Hid (pre.map (·.1) = placeB s (m + 1)) := Lib.hid (by rw [HP.out, hkn]; rfl)
          clear hkn HP
          gi_wp2
          refine ⟨⟨m + 1, by omega, by simp, hkc, pre, HP2.out, hJp⟩, by simp [intOf]; omega⟩
    · have hmn : m = s.baths.length := by omega
      have HP2 : Hid (pre.map (·.1) = placeL s) := Lib.hid (by rw [hpre, hmn]; rfl)
      clear hmn hpre
      gi_wp2
      go_end0
      exact ⟨⟨_, rfl⟩, .inl ⟨pre, HP2.out, hJp⟩⟩
end Go.Proofs.Ytnplefhigbkbbaa
end

section
namespace Go.Proofs.Ytnplefhigbkbbaa
open Go.RowKit

/-- keys of one type: how they are told apart. -/
structure KeyOk {α : Type} [DecidableEq α] (t : TypeId) (kV : α → Value) : Prop where
  eq : ∀ (s u : α) (w : World), (Op.equal t (kV s) (kV u)).run Try.prog w = .ok (s == u) w
  check : ∀ (em : Bool) (s : α) (w : World), (Instr.checkKey em 10000 t (kV s)).run Try.prog w = .ok () w
  und : ∃ d, Try.prog.underlying t = some d ∧ ∀ (s : α) (e : MapEntry) (es : List MapEntry) (i : Nat), Instr.findNow d (kV s) (e :: es) i = none

section
variable {α β : Type} [DecidableEq α] {t : TypeId} {kV : α → Value} {vV : β → Value}
def mkE (kV : α → Value) (vV : β → Value) (L : List (α × β)) : Array MapEntry := (L.zipIdx.map fun p => { key := kV p.1.1, val := vV p.1.2, born := p.2 }).toArray
/-- a map as the program makes it: the keys, with what is at them, in the order in which they came. -/
def IsMp (kV : α → Value) (vV : β → Value) (W : World) (b : Nat) (L : List (α × β)) : Prop := W.heap[b]? = some (.map (mkE kV vV L) L.length)
theorem mpGetObj {W : World} {b c : Nat} {es : Array MapEntry} (h : W.heap[b]? = some (.map es c)) : (getObj b).run Try.prog W = .ok (.map es c) W := by simp [getObj, Sem.run, h]
theorem mpSetObj {W : World} {b c : Nat} {es : Array MapEntry} (o' : Obj) (h : W.heap[b]? = some (.map es c)) : (setObj b o').run Try.prog W = .ok () (W.putObj b o') := by simp [setObj, Sem.run, h, World.putObj]
/-- what is at a key. -/
def mpAt (s : α) : List (α × β) → Nat → Option (Nat × β)
  | [], _ => none
  | p :: l, i => if p.1 = s then some (i, p.2) else mpAt s l (i + 1)
theorem mp_asking (hk : KeyOk t kV) (s : α) (w : World) : ∀ (l : List (α × β)) (k i : Nat),
    (Instr.findAsking t (kV s) (l.zipIdx k |>.map fun p => { key := kV p.1.1, val := vV p.1.2, born := p.2 }) i).run Try.prog w = .ok ((mpAt s l i).map fun x => (x.1, vV x.2)) w
  | [], _, _ => by simp [Instr.findAsking, mpAt]
  | p :: l, k, i => by
    simp only [List.zipIdx_cons, List.map_cons, Instr.findAsking, Sem.run_bind, hk.eq, Result.andThen_ok]
    by_cases h : p.1 = s
    · have hb : (s == p.1) = true := by simp [h]
      simp [mpAt, h]
    · have hb : (s == p.1) = false := by simpa using fun e => h e.symm
      simp only [hb, Bool.false_eq_true, if_false]
      rw [mp_asking hk s w l (k + 1) (i + 1), mpAt, if_neg h]
theorem mp_find (hk : KeyOk t kV) (s : α) (L : List (α × β)) (w : World) : (Instr.findKey t (kV s) (mkE kV vV L).toList).run Try.prog w = .ok ((mpAt s L 0).map fun x => (x.1, vV x.2)) w := by
  obtain ⟨d, hd, hn⟩ := hk.und
  unfold Instr.findKey
  simp only [Sem.run_bind, run_underlying hd, Result.andThen_ok]
  have h2 : (mkE kV vV L).toList = (L.zipIdx 0 |>.map fun p => { key := kV p.1.1, val := vV p.1.2, born := p.2 }) := by simp [mkE]
  rw [h2]
  cases L with
  | nil => simp [Instr.findNow, mpAt]
  | cons p l =>
    rw [List.zipIdx_cons, List.map_cons, hn]
    exact mp_asking hk s w (p :: l) 0 0
/-- is there something at a key, and what? -/
def mpGet (s : α) (L : List (α × β)) : Option β := (mpAt s L 0).map (·.2)
theorem mpAt_some {s : α} : ∀ {L : List (α × β)} {i : Nat}, ((mpAt s L i).map (·.2)) = ((mpAt s L 0).map (·.2))
  | [], _ => rfl
  | p :: l, i => by
    rw [mpAt, mpAt]
    split
    · rfl
    · rw [mpAt_some (L := l) (i := i + 1), mpAt_some (L := l) (i := 0 + 1)]
theorem mpGet_cons {s : α} {p : α × β} {L : List (α × β)} : mpGet s (p :: L) = if p.1 = s then some p.2 else mpGet s L := by
  unfold mpGet
  rw [mpAt]
  split
  · rfl
  · exact mpAt_some
theorem mpGet_app {s : α} {p : α × β} : ∀ {L : List (α × β)}, mpGet s L = none → mpGet s (L ++ [p]) = if p.1 = s then some p.2 else none
  | [], _ => by rw [List.nil_append, mpGet_cons]; rfl
  | q :: L, h => by
    rw [mpGet_cons] at h
    split at h
    · cases h
    · rename_i hne
      rw [List.cons_append, mpGet_cons, if_neg hne]
      exact mpGet_app h
theorem mpGet_mem {s : α} {v : β} : ∀ {L : List (α × β)}, mpGet s L = some v → (s, v) ∈ L
  | [], h => by cases h
  | q :: L, h => by
    rw [mpGet_cons] at h
    split at h
    · rename_i e; injection h with h; rw [← e, ← h]; simp
    · exact List.mem_cons_of_mem _ (mpGet_mem h)
theorem mpGet_none {s : α} {L : List (α × β)} (h : mpGet s L = none) : mpAt s L 0 = none := by
  unfold mpGet at h
  cases hm : mpAt s L 0 with
  | none => rfl
  | some x => rw [hm] at h; cases h
theorem mpGet_some {s : α} {L : List (α × β)} {v : β} (h : mpGet s L = some v) : ∃ i, mpAt s L 0 = some (i, v) := by
  unfold mpGet at h
  cases hm : mpAt s L 0 with
  | none => rw [hm] at h; cases h
  | some x =>
    rw [hm] at h
    obtain ⟨i, u⟩ := x
    injection h with h
    exact ⟨i, by rw [← h]⟩
theorem mkE_push (L : List (α × β)) (s : α) (v : β) : (mkE kV vV L).push { key := kV s, val := vV v, born := L.length } = mkE kV vV (L ++ [(s, v)]) := by
  simp [mkE, List.zipIdx_append]
theorem IsMp.lt {W : World} {b : Nat} {L : List (α × β)} (h : IsMp kV vV W b L) : b < W.heap.size := (Array.getElem?_eq_some_iff.1 h).1
theorem IsMp.of_block {W W' : World} {b : Nat} {L : List (α × β)} (h : IsMp kV vV W b L) (hb : W'.heap[b]? = W.heap[b]?) : IsMp kV vV W' b L := hb.trans h
theorem IsMp.below {W W' : World} {b : Nat} {L : List (α × β)} (h : IsMp kV vV W b L) (hb : Below W.heap.size W W') : IsMp kV vV W' b L := h.of_block (hb.block b h.lt)
theorem IsMp.fr {R : Nat → Prop} {W W' : World} {b : Nat} {L : List (α × β)} (h : IsMp kV vV W b L) (hf : Fr R W W') (hn : ¬ R b) : IsMp kV vV W' b L := h.of_block (hf.block b h.lt hn)
theorem IsMp.new (W : World) {g : Nat} (hg : W.heap.size = g) : IsMp kV vV (W.alloc (.map #[] 0)) g [] := by
  subst hg; exact World.alloc_heap_new W _
theorem mp_lookup2 {mt et : TypeId} (hm : Try.prog.underlying mt = some (.map t et)) {i0 : TypeInfo} {z : Value} (hi : Try.prog.info? et = some i0) (hz : i0.zero = some z) (hk : KeyOk t kV) {W : World} {b : Nat} {L : List (α × β)} (h : IsMp kV vV W b L) (s : α) :
    (Instr.lookup mt (.map (some b)) (kV s) true).run Try.prog W = .ok (match mpGet s L with | some v => .tuple #[vV v, .bool true] | none => .tuple #[z, .bool false]) W := by
  unfold Instr.lookup
  simp only [Sem.run_bind, run_underlying hm, Result.andThen_ok, mpGetObj h, hk.check, mp_find hk, Sem.run_pure]
  cases hg : mpGet s L with
  | none =>
    rw [mpGet_none hg]
    simp [go_sem, zeroValue, typeInfo, hi, hz]
  | some v =>
    obtain ⟨i, hi⟩ := mpGet_some hg
    rw [hi]
    simp
theorem mp_update {mt et : TypeId} (hm : Try.prog.underlying mt = some (.map t et)) (hk : KeyOk t kV) {W : World} {b : Nat} {L : List (α × β)} (h : IsMp kV vV W b L) (s : α) (v : β) (hs : mpGet s L = none) :
    (Instr.mapUpdate mt (.map (some b)) (kV s) (vV v)).run Try.prog W = .ok () (W.putObj b (.map (mkE kV vV (L ++ [(s, v)])) (L ++ [(s, v)]).length)) := by
  unfold Instr.mapUpdate
  simp only [Sem.run_bind, run_underlying hm, Result.andThen_ok, mpGetObj h, hk.check, mp_find hk, mpGet_none hs]
  simp only [Option.map_none]
  rw [mkE_push, mpSetObj _ h]
  simp
end
end Go.Proofs.Ytnplefhigbkbbaa
end

section
namespace Go.Proofs.Ytnplefhigbkbbaa
open Go.RowKit
theorem wpIn_region_mixed_tail {P : Program} {Q : Exit → Act → World → Prop} {id l0 nn : Nat} {a : Act} {w : World} {l : List Oper} (n : Nat) (ks : List (Bool × Nat)) (S : World → Prop) (hm : P.follows .mixedOrders = true)
    (hB : (mixedB .any l.toArray n ks && decide (ks.length = n)) = true) (hnd : noDefer l = true) (hout : ¬ LetsOut Q) (hQ : ∀ d v c a w, Q (.panic c) (a.put d v) w → Q (.panic c) a w)
    (hS : S { w with drawn := w.drawn + 1 })
    (h : wpMixO P l.toArray Q S (fun a'' w'' => wpList P l.toArray Q (l.drop n) a'' w'') ks a { w with drawn := w.drawn + 1 }) :
    (Code.region id l.toArray true).wpIn (Fence.wide.inRound l0) nn P Q a w := by
  simp only [mixedB, Bool.and_eq_true, decide_eq_true_eq] at hB
  obtain ⟨⟨⟨⟨⟨hsel, hn⟩, hs⟩, hc⟩, hlex⟩, hlen⟩ := hB
  have hdl : (l.drop n).length = l.toArray.size - n := by simp
  have inv0 : HeadInv .any l.toArray n (Array.replicate l.toArray.size false) :=
    ⟨by simp, fun j oj _ hl => (by rw [getD_replicate_false] at hl; cases hl), fun t _ ht => getD_in (by simpa using ht) (getD_replicate_false _ _)⟩
  have H := mix_head (md := .any) (g := l.toArray.size - n) (T := fun a'' w'' => wpList P l.toArray Q (l.drop n) a'' w'') hsel hQ hs hc hn ks _ a _ inv0 hlex hS h
  refine wpIn_region_any hm (wpAnyIn_of_wpAny hout (noDefer_spec hnd) _ _ _ _ ?_)
  have := wpAny_of_headH (g := l.toArray.size - n) (fun listed' a' w' hL => by
    have := wpAny_of_seq (md := .any) (l.drop n) n listed' a' w' (fun j => by simp [List.getElem?_drop]) (by rw [hdl]; exact hL.1) hL.2
    rwa [hdl] at this) _ _ _ _ H
  rw [hlen, show n + (l.toArray.size - n) = l.toArray.size by omega] at this
  exact this
theorem wpIn_region_gx_mix {P : Program} {Q : Exit → Act → World → Prop} {id l0 nn : Nat} {a : Act} {w : World} {l : List Oper} (row : Option Nat) (n : Nat) (ks : List (Bool × Nat)) (hm : P.follows .mixedOrders = true)
    (hB : (mixedB .any l.toArray n ks && decide (ks.length = n)) = true) (hnd : noDefer l = true) (hout : ¬ LetsOut Q) (hQ : ∀ d v c a w, Q (.panic c) (a.put d v) w → Q (.panic c) a w)
    (h : wpMix P l Q (fun w' => ∃ x : Gx w row, w' = x.W) n ks a w.drew) : (Code.region id l.toArray true).wpIn (Fence.wide.inRound l0) nn P Q a w :=
  wpIn_region_mixed_tail n ks _ hm hB hnd hout hQ ⟨⟨w.drew, ⟨rfl, rfl, rfl, Nat.le_refl _, fun _ _ _ => rfl⟩⟩, rfl⟩ h
theorem wpIn_region_ext_mix {P : Program} {Q : Exit → Act → World → Prop} {id l0 nn : Nat} {a : Act} {w : World} {l : List Oper} (n : Nat) (ks : List (Bool × Nat)) (hm : P.follows .mixedOrders = true)
    (hB : (mixedB .any l.toArray n ks && decide (ks.length = n)) = true) (hnd : noDefer l = true) (hout : ¬ LetsOut Q) (hQ : ∀ d v c a w, Q (.panic c) (a.put d v) w → Q (.panic c) a w)
    (h : wpMix P l Q (fun w' => ∃ x : Ex w, w' = x.W) n ks a w.drew) : (Code.region id l.toArray true).wpIn (Fence.wide.inRound l0) nn P Q a w :=
  wpIn_region_mixed_tail n ks _ hm hB hnd hout hQ ⟨⟨_, (Below.refl w.heap.size w).drew⟩, rfl⟩ h
end Go.Proofs.Ytnplefhigbkbbaa
end

section
namespace Go.Proofs.Ytnplefhigbkbbaa
open Go.RowKit Go.Shelf
attribute [local go_sem] Oper.semAt_some Ex.cell? Ex.frozen? Gx.cell?

/-- a place, in cells; readings that are left out, as a key. -/
def cP (p : Nat × Nat) : List Value := [.int .i64 (p.1 : Int), .int .i64 (p.2 : Int)]
def keyL (n : Nat) : Value := .agg #[.int .u64 (n : Int)]
def vBool (b : Bool) : Value := .bool b
def fPl (l : List (Nat × Nat)) : Nat → Nat → Value := fun k j => match j with | 0 => .int .i64 (((l.getD k (0, 0)).1 : Nat) : Int) | _ => .int .i64 (((l.getD k (0, 0)).2 : Nat) : Int)
theorem own_P {l : List (Nat × Nat)} {w : World} {base : Nat} {e : TypeId} {v : Value} (h : w.ownsRow base e 2 v l.length (l.flatMap cP)) : ∃ A c, v = .slice A l.length c ∧ l.length ≤ c ∧ c ≤ maxLen ∧ SlAt w w.heap.size 2 A l.length (fPl l) :=
  own_flat (sz := 2) (l := l) (fun _ => rfl) (fun k hk j hj => by
    have e : l.getD k (0, 0) = l[k] := by simp [hk]
    match j, hj with
    | 0, _ => simp [cP, fPl, hk]
    | 1, _ => simp [cP, fPl, hk]) rfl h
theorem place_info : (Try.prog.info? 137).map (fun i => (i.zero, i.size, i.bytes)) = some (some (.agg #[.int .i64 0, .int .i64 0]), 2, 16) := by kernel_rfl
/-- a series at work. -/
structure WorkAt (W : World) (q m : Nat) (s : Se) (Ao Ab : Option Addr) (co cb : Nat) (A : Option Addr) (c : Nat) (L : List (Nat × Bool)) : Prop where
  wk : Blk W q 136 #[.slice Ao s.offs.length co, .int .i64 s.err, .slice Ab s.baths.length cb, .slice A (placeL s).length c, .map (some m)]
  pl : SlAt W W.heap.size 2 A (placeL s).length (fPl (placeL s))
  mp : IsMp keyL vBool W m L

set_option maxRecDepth 100000 in
set_option maxHeartbeats 4000000 in
theorem work_any (s : Se) (Ao Ab : Option Addr) (co cb : Nat) (rA : Nat → Option Addr) (rc : Nat → Nat) (w : World) (hs : SeIn w w.heap.size s Ao Ab rA rc) (hbl : s.baths.length ≤ 1000000) (hrl : ∀ k, k < s.baths.length → (gBt s.baths k).reads.length ≤ 1000000) (hpl : (placeL s).length ≤ 1000000) :
    Calls Try.prog 76 #[.agg #[.slice Ao s.offs.length co, .int .i64 s.err, .slice Ab s.baths.length cb]] w fun e w' => ∃ q m A c, e = .returned (.pointer (some ⟨q, 0, none⟩)) ∧ WorkAt w' q m s Ao Ab co cb A c [] ∧ w.heap.size ≤ q ∧ w.heap.size ≤ m ∧ Below w.heap.size w w' := by
  obtain ⟨i0, hi0, hz0, hz1, hz2⟩ := info_parts place_info
  have HI := Lib.hid hi0
  clear hi0
  refine calls_of_marks (n := 5) Try.func76 rfl ?_
  simp only [Try.ntmps76, List.size_toArray, List.length_cons, List.length_nil, Nat.reduceAdd, Nat.reduceSub, Array.replicate_succ, Array.replicate_zero, List.push_toArray, List.append_toArray, List.nil_append, List.cons_append]
  have hmk := @run_makeMap Try.prog
  go_wp2_with fail
  have hb4 := ex_alloc (ex_alloc (ex_alloc (ex_alloc (Below.refl w.heap.size w) (.cells #[.slice Ao s.offs.length co, .int .i64 s.err, .slice Ab s.baths.length cb] 34)) (.map #[] 0)) (.cells #[.slice Ao s.offs.length co, .int .i64 s.err, .slice Ab s.baths.length cb, .slice none 0 0, .map (some (w.heap.size + 1))] 136)) (.cells #[.pointer (some ⟨w.heap.size + 1 + 1, 0, none⟩)] 128)
  refine (reads_any s Ao Ab co cb rA rc _ (hs.go hb4)).mono ?_
  rintro e w5 ⟨rfl, rfl⟩
  go_wp2_with fail
  have hb5 := ex_alloc hb4 (.cells #[.slice Ao s.offs.length co, .int .i64 s.err, .slice Ab s.baths.length cb] 34)
  have mp : IsMp keyL vBool (((((w.alloc (.cells #[.slice Ao s.offs.length co, .int .i64 s.err, .slice Ab s.baths.length cb] 34)).alloc (.map #[] 0)).alloc (.cells #[.slice Ao s.offs.length co, .int .i64 s.err, .slice Ab s.baths.length cb, .slice none 0 0, .map (some (w.heap.size + 1))] 136)).alloc (.cells #[.pointer (some ⟨w.heap.size + 1 + 1, 0, none⟩)] 128)).alloc (.cells #[.slice Ao s.offs.length co, .int .i64 s.err, .slice Ab s.baths.length cb] 34)) (w.heap.size + 1) [] := (((IsMp.new (kV := keyL) (vV := vBool) _ (by simp)).of_block (Below.heap_alloc _ _ _ (by simp))).of_block (Below.heap_alloc _ _ _ (by simp))).of_block (Below.heap_alloc _ _ _ (by simp))
  have q0 : Blk (((((w.alloc (.cells #[.slice Ao s.offs.length co, .int .i64 s.err, .slice Ab s.baths.length cb] 34)).alloc (.map #[] 0)).alloc (.cells #[.slice Ao s.offs.length co, .int .i64 s.err, .slice Ab s.baths.length cb, .slice none 0 0, .map (some (w.heap.size + 1))] 136)).alloc (.cells #[.pointer (some ⟨w.heap.size + 1 + 1, 0, none⟩)] 128)).alloc (.cells #[.slice Ao s.offs.length co, .int .i64 s.err, .slice Ab s.baths.length cb] 34)) (w.heap.size + 1 + 1) 136 #[.slice Ao s.offs.length co, .int .i64 s.err, .slice Ab s.baths.length cb, .slice none 0 0, .map (some (w.heap.size + 1))] := ((Blk.new' _ _ _ (by simp)).alloc _).alloc _
  have qp : Blk (((((w.alloc (.cells #[.slice Ao s.offs.length co, .int .i64 s.err, .slice Ab s.baths.length cb] 34)).alloc (.map #[] 0)).alloc (.cells #[.slice Ao s.offs.length co, .int .i64 s.err, .slice Ab s.baths.length cb, .slice none 0 0, .map (some (w.heap.size + 1))] 136)).alloc (.cells #[.pointer (some ⟨w.heap.size + 1 + 1, 0, none⟩)] 128)).alloc (.cells #[.slice Ao s.offs.length co, .int .i64 s.err, .slice Ab s.baths.length cb] 34)) (w.heap.size + 1 + 1 + 1) 128 #[.pointer (some ⟨w.heap.size + 1 + 1, 0, none⟩)] := (Blk.new' _ _ _ (by simp)).alloc _
  have qb : Blk (((((w.alloc (.cells #[.slice Ao s.offs.length co, .int .i64 s.err, .slice Ab s.baths.length cb] 34)).alloc (.map #[] 0)).alloc (.cells #[.slice Ao s.offs.length co, .int .i64 s.err, .slice Ab s.baths.length cb, .slice none 0 0, .map (some (w.heap.size + 1))] 136)).alloc (.cells #[.pointer (some ⟨w.heap.size + 1 + 1, 0, none⟩)] 128)).alloc (.cells #[.slice Ao s.offs.length co, .int .i64 s.err, .slice Ab s.baths.length cb] 34)) (w.heap.size + 1 + 1 + 1 + 1) 34 #[.slice Ao s.offs.length co, .int .i64 s.err, .slice Ab s.baths.length cb] := Blk.new' _ _ _ (by simp)
  generalize ((((w.alloc (.cells #[.slice Ao s.offs.length co, .int .i64 s.err, .slice Ab s.baths.length cb] 34)).alloc (.map #[] 0)).alloc (.cells #[.slice Ao s.offs.length co, .int .i64 s.err, .slice Ab s.baths.length cb, .slice none 0 0, .map (some (w.heap.size + 1))] 136)).alloc (.cells #[.pointer (some ⟨w.heap.size + 1 + 1, 0, none⟩)] 128)).alloc (.cells #[.slice Ao s.offs.length co, .int .i64 s.err, .slice Ab s.baths.length cb] 34) = W5 at *
  have lb := qb.lt
  have hIown : OwnFrom W5.heap.size (fun (pre : List (PlX s)) W => W5.heap.size ≤ W.heap.size ∧ Below w.heap.size w W ∧ Blk W (w.heap.size + 1 + 1 + 1) 128 #[.pointer (some ⟨w.heap.size + 1 + 1, 0, none⟩)] ∧ IsMp keyL vBool W (w.heap.size + 1) [] ∧ ∃ v, Blk W (w.heap.size + 1 + 1) 136 #[.slice Ao s.offs.length co, .int .i64 s.err, .slice Ab s.baths.length cb, v, .map (some (w.heap.size + 1))] ∧ W.ownsRow W5.heap.size 137 2 v pre.length ((pre.map (·.1)).flatMap cP)) := by
    rintro pre A C row ⟨h0, h1, h2, h3, v, h4, h5⟩ hgr hr
    have hne : ∀ {b : Nat} {t : TypeId} {cs : Array Value}, Blk A b t cs → some b ≠ row := fun {b t cs} h e => by
      obtain ⟨_, o, ho, hc⟩ := hr _ e.symm
      rw [h] at ho; cases ho; cases hc
    refine ⟨Nat.le_trans h0 hgr.size, h1.grown hgr h1.size (fun j hj => by have := (hr j hj).1; omega), h2.grown hgr (hne h2), h3.of_block (hgr.block _ h3.lt (fun e => by have := (hr _ e.symm).1; omega)), v, h4.grown hgr (hne h4), ?_⟩
    refine own_fr h5 (Fr.grown (R := fun b => row = some b) hgr (fun b e => .inl e)) (fun b hb e => ?_)
    rcases h5.2 with ⟨rfl, _⟩ | ⟨g, cap, cur, rfl, _, hh, _⟩
    · simp [Value.ownBlock] at hb
    · have hg : g = b := by simpa [Value.ownBlock] using hb
      subst hg
      obtain ⟨_, o, ho, hc⟩ := hr _ e
      rw [hh] at ho; cases ho; cases hc
  refine (wpIn_wide (n := 5)).1 (wpIn_rangeFunc_ownH (F := Fence.wide) (n := 5) rfl (by omega) (gf := 121) (lb := #[.pointer (some ⟨w.heap.size + 1 + 1 + 1 + 1, 0, none⟩)]) rfl trivial (enters_of Try.func121 (by kernel_rfl) rfl)
    (encs := fun x : PlX s => encP s x.1) (Kp := KeepsLow w.heap.size) (S := fun xs => xs.map (·.1) = placeL s) (Sp := fun _ => True) (N := (placeL s).length) (w0 := W5)
    (fun l J Jx W hW hJ hJx hY h0 => (reads1_in 4 s Ao Ab co cb rA rc hbl hrl l _ J Jx W w.heap.size (by have := hW.size; omega) (hs.below (ex_trans hb5 hW)) hJ hJx (qb.below hW qb.lt) hY h0).mono
      (fun e W' hp => ⟨hp.1, hp.2.imp id (fun ⟨pre, hpre⟩ => ⟨pre, trivial, hpre⟩)⟩))
    (fun h k => h.trans k) (fun W l o o' hl ho _ _ => ⟨by simp, fun k hk => World.putObj_heap_other (by omega)⟩) (Below.refl _ _) (fun _ => rfl)
    (fun (pre : List (PlX s)) W => W5.heap.size ≤ W.heap.size ∧ Below w.heap.size w W ∧ Blk W (w.heap.size + 1 + 1 + 1) 128 #[.pointer (some ⟨w.heap.size + 1 + 1, 0, none⟩)] ∧ IsMp keyL vBool W (w.heap.size + 1) [] ∧ ∃ v, Blk W (w.heap.size + 1 + 1) 136 #[.slice Ao s.offs.length co, .int .i64 s.err, .slice Ab s.baths.length cb, v, .map (some (w.heap.size + 1))] ∧ W.ownsRow W5.heap.size 137 2 v pre.length ((pre.map (·.1)).flatMap cP))
    (fun _ _ _ => False) hIown (fun _ _ _ _ _ hs _ _ => hs) ⟨Nat.le_refl _, hb5, qp, mp, _, q0, ⟨rfl, .inl ⟨rfl, rfl⟩⟩⟩
    (fun (x : PlX s) a' W => ∃ Bx, W5.heap.size ≤ Bx ∧ Blk W Bx 137 #[.int .i64 (x.1.1 : Int), .int .i64 (x.1.2 : Int)] ∧ (∀ v, W.cell? ⟨w.heap.size + 1 + 1, 3, none⟩ = some v → v.ownBlock ≠ some Bx) ∧ a' = ⟨#[.agg #[.slice Ao s.offs.length co, .int .i64 s.err, .slice Ab s.baths.length cb], .pointer (some ⟨w.heap.size, 0, none⟩), .pointer none, .pointer (some ⟨w.heap.size + 1 + 1 + 1, 0, none⟩), .pointer (some ⟨Bx, 0, none⟩), .agg #[.slice Ao s.offs.length co, .int .i64 s.err, .slice Ab s.baths.length cb], .map (some (w.heap.size + 1)), .agg #[.slice Ao s.offs.length co, .int .i64 s.err, .slice Ab s.baths.length cb, .slice none 0 0, .map (some (w.heap.size + 1))], .pointer (some ⟨w.heap.size + 1 + 1, 0, none⟩), .agg #[.slice Ao s.offs.length co, .int .i64 s.err, .slice Ab s.baths.length cb], .func (.func 121) #[] #[.pointer (some ⟨w.heap.size + 1 + 1 + 1 + 1, 0, none⟩)], .agg #[.int .i64 (x.1.1 : Int), .int .i64 (x.1.2 : Int)], .agg #[.int .i64 (rdAt s x.1).inst, .int .i64 (rdAt s x.1).val], undef, undef, undef, undef, undef, undef, undef, undef, undef, undef, undef], []⟩)
    ?hAx ?assign ?body ?done ?stop)
  case hAx =>
    rintro x a' _ A C row ⟨Bx, h1, h2, hv, h3⟩ hgr hr
    have hlA := h2.lt
    refine ⟨Bx, h1, h2.grown hgr (fun e => by obtain ⟨_, o, ho, hc⟩ := hr _ e.symm; rw [h2] at ho; cases ho; cases hc), fun v hc => hv v ?_, h3⟩
    rw [← hc]
    simp [World.cell?, hgr.block (w.heap.size + 1 + 1) (by omega) (fun e => by have := (hr _ e.symm).1; omega)]
  case stop => rintro D c pre W _ _ hf _; exact hf.elim
  case assign =>
    rintro l pre x W K hi hK
    unfold encP
    gi_wp2
    exact hK _ _ ((KeepsOthers.alloc W _).from _) (KeepsLow.alloc W _ (by have := hi.1; have := hb5.size; omega)) (hIown.alloc _ hi) ⟨W.heap.size, hi.1, Blk.new W _ _, fun u hc e => (by
      obtain ⟨_, _, _, _, v, h4, h5⟩ := hi
      have hv : (W.alloc (.cells #[.int .i64 (x.1.1 : Int), .int .i64 (x.1.2 : Int)] 137)).cell? ⟨w.heap.size + 1 + 1, 3, none⟩ = some v := (h4.alloc _).cell 3
      rw [hv] at hc
      injection hc with hc
      subst hc
      have := own_lt h5 e
      omega), rfl⟩
  case done =>
    rintro D xs W hD hxs ⟨h0, h1, h2, h3, v, h4, h5⟩ hDd
    have c1 : W.cell? ⟨w.heap.size + 1 + 1 + 1, 0, none⟩ = some (.pointer (some ⟨w.heap.size + 1 + 1, 0, none⟩)) := h2.cell 0
    have lc := h2.lt
    go_wp2
    show LeavesInM _ _ _ _ _ _ _ _ _
    rw [hxs] at h5
    have hlx : xs.length = (placeL s).length := by rw [← hxs, List.length_map]
    rw [hlx] at h5
    refine leaves_marks w.heap.size _ W ⟨D, rfl, hDd, by simp, trivial⟩ (fun d hd D' hD' => ?_) (fun W' hW' => ⟨_, results_tmp rfl _ _ _, w.heap.size + 1 + 1, w.heap.size + 1, ?_⟩)
    · rcases List.mem_singleton.1 hd with rfl
      injection hD' with hD'
      have := hb5.size
      omega
    · have h5' := own_base h5 (show w.heap.size ≤ W5.heap.size from hb5.size)
      have h6 : W'.ownsRow w.heap.size 137 2 v (placeL s).length ((placeL s).flatMap cP) := by
        refine ⟨h5'.1, h5'.2.imp id ?_⟩
        rintro ⟨g', cap, cur, e, hb', hh', rest⟩
        exact ⟨g', cap, cur, e, hb', hW'.same _ _ hh' (fun x e => by cases e), rest⟩
      obtain ⟨A, c, rfl, hc1, hc2, hsl⟩ := own_P h6
      exact ⟨A, c, rfl, ⟨hW'.same _ _ h4 (fun x e => by cases e), hsl, h3.of_block (hW'.same _ _ h3 (fun x e => by cases e) |>.trans h3.symm)⟩, by omega, by omega, hW'.below h1⟩
  case body =>
    rintro l' pre x a' W hl' ⟨r', hr'⟩ ⟨h0, h1, h2, h3, v, h4, h5⟩ ⟨Bx, hBx, bX, hBv, rfl⟩ hlen
    have c1 : W.cell? ⟨w.heap.size + 1 + 1 + 1, 0, none⟩ = some (.pointer (some ⟨w.heap.size + 1 + 1, 0, none⟩)) := h2.cell 0
    have lc := h2.lt
    have c2 : W.cell? ⟨w.heap.size + 1 + 1, 3, none⟩ = some v := h4.cell 3
    have l4 := h4.lt
    have x0 : W.cell? ⟨Bx, 0, none⟩ = some (.int .i64 (x.1.1 : Int)) := bX.cell 0
    have x1 : W.cell? ⟨Bx, 1, none⟩ = some (.int .i64 (x.1.2 : Int)) := bX.cell 1
    have lx := bX.lt
    have hge := fun (j : Nat) (hj : v.ownBlock = some j) => own_ge h5 hj
    have n1 : ¬ some (w.heap.size + 1 + 1 + 1) = v.ownBlock := fun e => by have := hge _ e.symm; omega
    have n2 : ¬ some (w.heap.size + 1 + 1) = v.ownBlock := fun e => by have := hge _ e.symm; omega
    have n3 : ¬ some Bx = v.ownBlock := fun e => hBv v c2 e.symm
    gi_wp2_with fail
    refine wpIn_region_gx_mix v.ownBlock 8 [(false, 0), (false, 1), (false, 2), (false, 3), (false, 4), (false, 5), (true, 6), (true, 7)] (by kernel_rfl) (by kernel_rfl) (by kernel_rfl) (by rintro ⟨_, _, hf⟩; exact hf) (by intro d _ _ _ _ h; cases d <;> exact h) ?_
    repeat (refine mix_quiet rfl ?_; go_big_quiet_step (fail); refine wpQuiet_nil ?_)
    refine mix_loud rfl ?_
    go_wp2_with fail
    have hX1 : Below W.heap.size W (W.alloc (.cells #[.int .i64 (x.1.1 : Int), .int .i64 (x.1.2 : Int)] 137)).drew := (ex_alloc (Below.refl W.heap.size W) _).drew
    refine ⟨inGx (grown_row hX1), ?_⟩
    refine mix_loud rfl ?_
    have y4 := own_below h5 hX1
    have c63 : pre.length + 1 ≤ maxLen := by unfold maxLen; omega
    have cby : (pre.length + 1) * 16 ≤ 140737488355328 := by omega
    have hbase : W5.heap.size ≤ (W.alloc (.cells #[.int .i64 (x.1.1 : Int), .int .i64 (x.1.2 : Int)] 137)).drew.heap.size := Nat.le_trans h0 hX1.size
    go_wp2_with (at_builtin; refine wpList_append_lies _ rfl _ _ _ rfl W5.heap.size 137 i0 _ 2 16 Try.underlying51 HI.out hz0 hz1 hz2 rfl (by omega) v _ _ rfl y4 ⟨W.heap.size, 0, none⟩ 1 1 [.int .i64 (x.1.1 : Int), .int .i64 (x.1.2 : Int)] rfl rfl (World.news_of_block (w := (W.alloc (.cells #[.int .i64 (x.1.1 : Int), .int .i64 (x.1.2 : Int)] 137)).drew) (heap_alloc_new W _)) (by simp [Value.oneCell']) (by omega) c63 cby hbase (W.heap.size + 1) (by simp) ?_; intro gg cap w1 hown' hgrow hat hlt')
    have hg1 : W.grownBy w1 v.ownBlock := (grown_row hX1).andThen hgrow (fun j hj => .inr hj)
    refine ⟨inGx hg1, ?_⟩
    refine mix_nil (r := [_, _, _]) rfl ?_
    have r4 := h4.grown hg1 n2
    have r2 := h2.grown hg1 n1
    have fz := r4.frozen 3
    have c3 : w1.cell? ⟨w.heap.size + 1 + 1, 3, none⟩ = some v := r4.cell 3
    have lr := r4.lt
    have s1 := hg1.size
    have hs5 := hb5.size
    have r3 := h3.of_block (hg1.block _ h3.lt (fun e => by have := hge _ e.symm; omega))
    have hB1 : Below w.heap.size w w1 := h1.grown hg1 h1.size (fun j hj => by have := hge j hj; omega)
    have hfr : Fr (fun b => b = w.heap.size + 1 + 1) w1 (w1.setCell ⟨w.heap.size + 1 + 1, 3, none⟩ (.slice (some ⟨gg, 0, none⟩) (pre.length + 1) cap)) := (Fr.refl _ w1).andSet rfl
    have hgg : W5.heap.size ≤ gg := by
      rcases hat with h | h
      · exact hge _ h
      · omega
    go_wp2
    have hkf : KeepsFrom W5.heap.size W w1 := ⟨s1, fun k o hk ho hc => by
      refine (hg1.block k (Array.getElem?_eq_some_iff.1 ho).1 (fun e => ?_)).trans ho
      rcases h5.2 with ⟨rfl, _⟩ | ⟨g, cp, cur, rfl, _, hh, _⟩
      · simp [Value.ownBlock] at e
      · have hgk : g = k := by simpa [Value.ownBlock] using e.symm
        subst hgk
        rw [hh] at ho; cases ho; cases hc⟩
    have hsz : (w1.setCell ⟨w.heap.size + 1 + 1, 3, none⟩ (.slice (some ⟨gg, 0, none⟩) (pre.length + 1) cap)).heap.size = w1.heap.size := by simp
    refine ⟨⟨by rw [hsz]; exact s1, fun k o hk ho hc => ?_⟩, ⟨by rw [hsz]; exact s1, fun k hk => ?_⟩, by rw [hsz]; omega, hfr.toBelow hB1 hB1.size (fun x hx => by omega), r2.fr hfr (by omega), r3.fr hfr (by omega), .slice (some ⟨gg, 0, none⟩) (pre.length + 1) cap, ?_, ?_⟩
    · exact (hfr.block k (by have := (Array.getElem?_eq_some_iff.1 (hkf.same k o hk ho hc)).1; exact this) (by omega)).trans (hkf.same k o hk ho hc)
    · refine (hfr.block k (by omega) (by omega)).trans (hg1.block k (by omega) (fun e => by have := hge _ e.symm; omega))
    · have z := r4.set_ 3 (.slice (some ⟨gg, 0, none⟩) (pre.length + 1) cap)
      simpa only [List.setIfInBounds_toArray, List.set_cons_zero, List.set_cons_succ] using z
    · have h7 := own_fr hown' hfr (fun b hb => by
        have : gg = b := by simpa [Value.ownBlock] using hb
        omega)
      rw [List.map_append, List.flatMap_append, List.length_append]
      simpa [cP] using h7
end Go.Proofs.Ytnplefhigbkbbaa
end
