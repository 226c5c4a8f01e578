/- The reference's Zeros (plain): how far a day's loops have come. · The reference's leads: can a sink become another one? (walk). · The reference's Zeros (walk). · ranges: the same ones? (walk) · The law GlassHolds (walk). -/
import Derived.Test.YtlgmeofpkfliaaaGl
import Derived.Test.YtlgmeofpkfliaaaGg
import Derived.Test.YtlgmeofpkfliaaaGf
import Derived.Test.YtlgmeofpkfliaaaGj
set_option linter.unusedVariables false
set_option linter.unusedSimpArgs false
set_option linter.unusedSectionVars false
section
namespace Go.Proofs.Ytlgmeofpkfliaaa

/-- can a sink become another one? -/
noncomputable def leadsB (blo bhi : Int) (D : List Int) (f t : Int) : Bool := @decide (∃ b, (blo ≤ b ∧ b ≤ bhi) ∧ ∃ k, k < D.length ∧ mx3 (f - b) 0 (gI D k) = t) (Classical.propDecidable _)
theorem leadsB_iff {blo bhi : Int} {D : List Int} {f t : Int} : leadsB blo bhi D f t = true ↔ ∃ b, (blo ≤ b ∧ b ≤ bhi) ∧ ∃ k, k < D.length ∧ mx3 (f - b) 0 (gI D k) = t := by
  unfold leadsB; letI := Classical.propDecidable (∃ b, (blo ≤ b ∧ b ≤ bhi) ∧ ∃ k, k < D.length ∧ mx3 (f - b) 0 (gI D k) = t)
  rw [decide_eq_true_iff]

section
variable (g : Gl) (h : List Rg) (l : List Ic) (o : Nat → Bool) (D : List Int) (M : Nat → Nat → Nat → Bool)
def Gone (G : Nat → Nat → Nat → Bool) (e : Nat) : Prop := ∀ e' r s : Nat, e ≤ e' → e' ≤ h.length → r < 52 → s < 31 → (G e' r s = true ↔ Goes g h l o (h.length - e') e' ((r : Int), (s : Int)))
def Void (G : Nat → Nat → Nat → Bool) (e : Nat) : Prop := ∀ e' r s : Nat, e' < e → G e' r s = false
def Lead (G : Nat → Nat → Nat → Bool) (e r s : Nat) (c : Int) (f : Nat) : Prop := M e ((r : Int) - c).toNat f = true → leadsB g.blo g.bhi D (f : Int) (s : Int) = true → G e ((r : Int) - c).toNat f = true
/-- all items up to (n, m, c, f), in the loops' order, are in. -/
structure QQ (e n m : Nat) (c : Int) (f : Nat) (G : Nat → Nat → Nat → Bool) : Prop where
  known : Gone g h l o G (e + 1)
  blank : Void G e
  sound : ∀ r s : Nat, G e r s = true → Goes g h l o (h.length - e) e ((r : Int), (s : Int))
  p2 : ∀ r s : Nat, r < n → s < 31 → G (e + 1) r s = true → ∀ c : Int, (creep g e).lo ≤ c → c ≤ (creep g e).hi → c ≤ r → ∀ f, f < 31 → Lead g D M G e r s c f
  p3 : ∀ s : Nat, s < m → G (e + 1) n s = true → ∀ c : Int, (creep g e).lo ≤ c → c ≤ (creep g e).hi → c ≤ n → ∀ f, f < 31 → Lead g D M G e n s c f
  p4 : ∀ c' : Int, (creep g e).lo ≤ c' → c' < c → ∀ f, f < 31 → Lead g D M G e n m c' f
  p5 : ∀ f', f' < f → Lead g D M G e n m c f'
end
section
variable {g : Gl} {h : List Rg} {l : List Ic} {o : Nat → Bool} {D : List Int} {M : Nat → Nat → Nat → Bool} {e n m f : Nat} {c : Int} {G : Nat → Nat → Nat → Bool}
theorem upd_off {e x y e' r s : Nat} (he : e' ≠ e) : upd G e x y e' r s = G e' r s := by unfold upd; rw [if_neg (fun h => he h.1)]
theorem Lead.mono {r s : Nat} {G' : Nat → Nat → Nat → Bool} (h : Lead g D M G e r s c f) (hm : ∀ x y, G e x y = true → G' e x y = true) : Lead g D M G' e r s c f := fun h1 h2 => hm _ _ (h h1 h2)
theorem QQ.start (hk : Gone g h l o G (e + 1)) (hb : Void G (e + 1)) : QQ g h l o D M e 0 0 (creep g e).lo 0 G :=
  ⟨hk, fun e' r s he => hb e' r s (by omega), fun r s hm => by rw [hb e r s (by omega)] at hm; exact absurd hm (by simp), fun r s hr => by omega, fun s hs => by omega, fun c' h1 h2 => by omega, fun f' hf => by omega⟩
theorem QQ.no (p : QQ g h l o D M e n m c f G) (hf : ¬ (M e ((n : Int) - c).toNat f = true ∧ leadsB g.blo g.bhi D (f : Int) (m : Int) = true)) : QQ g h l o D M e n m c (f + 1) G :=
  ⟨p.known, p.blank, p.sound, p.p2, p.p3, p.p4, fun f' hf' => by
    rcases Nat.lt_succ_iff_lt_or_eq.1 hf' with h1 | h1
    · exact p.p5 f' h1
    · subst h1; intro a b; exact absurd ⟨a, b⟩ hf⟩
theorem QQ.yes (p : QQ g h l o D M e n m c f G) {x : Nat} (hx : x = ((n : Int) - c).toNat) (hg : Goes g h l o (h.length - e) e ((x : Int), (f : Int))) : QQ g h l o D M e n m c (f + 1) (upd G e x f) := by
  have hm : ∀ r s, G e r s = true → upd G e x f e r s = true := fun r s h => upd_mono h
  refine ⟨fun e' r s he h1 hr hs => by rw [upd_off (by omega)]; exact p.known e' r s he h1 hr hs, fun e' r s he => by rw [upd_off (by omega)]; exact p.blank e' r s he, fun r s h => ?_, fun r s hr hs hM => ?_, fun s hs hM => ?_, fun c' h1 h2 k' hk' => (p.p4 c' h1 h2 k' hk').mono hm, fun k' hk' => ?_⟩
  · rw [upd_iff] at h
    rcases h with ⟨_, rfl, rfl⟩ | h
    · exact hg
    · exact p.sound r s h
  · rw [upd_off (by omega)] at hM
    exact fun c' h1 h2 h3 k' hk' => (p.p2 r s hr hs hM c' h1 h2 h3 k' hk').mono hm
  · rw [upd_off (by omega)] at hM
    exact fun c' h1 h2 h3 k' hk' => (p.p3 s hs hM c' h1 h2 h3 k' hk').mono hm
  · rcases Nat.lt_succ_iff_lt_or_eq.1 hk' with h1 | h1
    · exact (p.p5 k' h1).mono hm
    · subst h1; intro _ _; rw [← hx]; exact upd_self
theorem QQ.creep (p : QQ g h l o D M e n m c 31 G) : QQ g h l o D M e n m (c + 1) 0 G :=
  ⟨p.known, p.blank, p.sound, p.p2, p.p3, fun c' h1 h2 f hf => by
    rcases Int.lt_or_eq_of_le (show c' ≤ c by omega) with h5 | h5
    · exact p.p4 c' h1 h5 f hf
    · subst h5; exact p.p5 f hf, fun f hf => by omega⟩
theorem QQ.sink (p : QQ g h l o D M e n m c 0 G) (hc : (Go.Proofs.Ytlgmeofpkfliaaa.creep g e).hi < c ∨ (n : Int) < c ∨ G (e + 1) n m = false) : QQ g h l o D M e n (m + 1) (Go.Proofs.Ytlgmeofpkfliaaa.creep g e).lo 0 G :=
  ⟨p.known, p.blank, p.sound, p.p2, fun s hs hM c' h1 h2 h3 f hf => by
    rcases Nat.lt_succ_iff_lt_or_eq.1 hs with h5 | h5
    · exact p.p3 s h5 hM c' h1 h2 h3 f hf
    · subst h5
      rcases hc with hc | hc | hc
      · exact p.p4 c' h1 (by omega) f hf
      · exact p.p4 c' h1 (by omega) f hf
      · rw [hc] at hM; exact absurd hM (by simp), fun c' h1 h2 => by omega, fun f hf => by omega⟩
theorem QQ.rise (p : QQ g h l o D M e n 31 c f G) : QQ g h l o D M e (n + 1) 0 (Go.Proofs.Ytlgmeofpkfliaaa.creep g e).lo 0 G :=
  ⟨p.known, p.blank, p.sound, fun r s hr hs hM => by
    rcases Nat.lt_succ_iff_lt_or_eq.1 hr with h5 | h5
    · exact p.p2 r s h5 hs hM
    · subst h5; exact p.p3 s hs hM, fun s hs => by omega, fun c' h1 h2 => by omega, fun f hf => by omega⟩
/-- an item leads on. -/
theorem lead_goes (hok : Ok g h) (he : e < h.length) (hD : ∀ y : Int, (∃ k, k < D.length ∧ gI D k = y) ↔ ∃ x, ((gR h e).lo ≤ x ∧ x ≤ (gR h e).hi) ∧ y = sinks g x) (hM : Known g h l o M h.length) (hk : Gone g h l o G (e + 1))
    (hn : n < 52) (hm : m < 31) (hG : G (e + 1) n m = true) (hc : (Go.Proofs.Ytlgmeofpkfliaaa.creep g e).lo ≤ c ∧ c ≤ (Go.Proofs.Ytlgmeofpkfliaaa.creep g e).hi) (hcn : c ≤ n) (hf : f < 31) {x : Nat} (hx : (x : Int) = (n : Int) - c) (hMx : M e x f = true) (hl : leadsB g.blo g.bhi D (f : Int) (m : Int) = true) : Goes g h l o (h.length - e) e ((x : Int), (f : Int)) := by
  obtain ⟨b, hb, k, hk1, hk2⟩ := leadsB_iff.1 hl
  obtain ⟨y, hy, hy2⟩ := (hD _).1 ⟨k, hk1, rfl⟩
  have hcr := hok.creep e
  have e1 : h.length - e = h.length - (e + 1) + 1 := by omega
  rw [e1]
  refine ⟨(hM e x f (by omega) (by omega) hf).1 hMx, ((n : Int), (m : Int)), (mem_nextL hok he).2 ⟨y, b, c, hy, hb, hc, ?_⟩, (hk (e + 1) n m (Nat.le_refl _) (by omega) hn hm).1 hG⟩
  simp only [Prod.mk.injEq]
  exact ⟨by omega, by rw [← hy2, hk2]⟩
theorem goes_bd (hok : Ok g h) {k d : Nat} (hd : d + k ≤ h.length) {t : St} (ht : Goes g h l o k d t) : (0 ≤ t.1 ∧ t.1 ≤ 3 * d) ∧ (0 ≤ t.2 ∧ t.2 ≤ 30) := by
  obtain ⟨σ, p, _, e1⟩ := (can_iff hok (by omega)).1 (goes_can ht)
  have hb := path_bd hok p (d := d) (Nat.le_refl _)
  rw [e1] at hb
  exact hb
theorem QQ.day (hok : Ok g h) (he : e < h.length) (hD : ∀ y : Int, (∃ k, k < D.length ∧ gI D k = y) ↔ ∃ x, ((gR h e).lo ≤ x ∧ x ≤ (gR h e).hi) ∧ y = sinks g x) (hM : Known g h l o M h.length) (p : QQ g h l o D M e 52 0 c f G) : Gone g h l o G e ∧ Void G e := by
  have hnh := hok.nh
  refine ⟨fun e' r s h1 h2 hr hs => ?_, p.blank⟩
  rcases Nat.eq_or_lt_of_le h1 with rfl | hlt
  rotate_left
  · exact p.known e' r s (by omega) h2 hr hs
  refine ⟨p.sound r s, fun hg => ?_⟩
  have e1 : h.length - e = h.length - (e + 1) + 1 := by omega
  rw [e1] at hg
  obtain ⟨h3, ⟨a1, a2⟩, h4, h5⟩ := hg
  have hb := goes_bd hok (by omega) h5
  simp only at hb
  obtain ⟨y, b, c', hy, hb', hc', ht⟩ := (mem_nextL hok he).1 h4
  simp only [Prod.mk.injEq] at ht
  obtain ⟨t1, t2⟩ := ht
  have hcr := hok.creep e
  obtain ⟨k, hk1, hk2⟩ := (hD _).2 ⟨y, hy, rfl⟩
  have hG : G (e + 1) a1.toNat a2.toNat = true := (p.known (e + 1) a1.toNat a2.toNat (Nat.le_refl _) (by omega) (by omega) (by omega)).2 (by rw [Int.toNat_of_nonneg (by omega), Int.toNat_of_nonneg (by omega)]; exact h5)
  have hl := p.p2 a1.toNat a2.toNat (by omega) (by omega) hG c' hc'.1 hc'.2 (by omega) s hs
  unfold Lead at hl
  have e2 : (((a1.toNat : Nat) : Int) - c').toNat = r := by omega
  rw [e2] at hl
  refine hl ((hM e r s (by omega) hr hs).2 h3) (leadsB_iff.2 ⟨b, hb', k, hk1, ?_⟩)
  rw [hk2, Int.toNat_of_nonneg (by omega), t2]
end

/-- a day's range, so far. -/
def Seen (S : Nat → Nat → Bool) (n m r s : Nat) : Prop := ((r < n ∧ s < 31) ∨ (r = n ∧ s < m)) ∧ S r s = true
def ZR (g : Gl) (S : Nat → Nat → Bool) (n m : Nat) (is : Bool) (lo hi : Int) : Prop :=
  ((∀ r s, ¬ Seen S n m r s) ∧ lo = 5000 ∧ hi = -5000) ∨ (is = true ∧ EndsOf (fun z => ∃ r s : Nat, Seen S n m r s ∧ z = g.base + (r : Int) - (s : Int)) lo hi)
section
variable {g : Gl} {S : Nat → Nat → Bool} {n m : Nat} {is : Bool} {lo hi : Int}
theorem ZR.start : ZR g S 0 0 is 5000 (-5000) := .inl ⟨fun r s h => by rcases h.1 with h1 | h1 <;> omega, rfl, rfl⟩
theorem ZR.of {n' m' : Nat} (h : ∀ r s, Seen S n m r s ↔ Seen S n' m' r s) (p : ZR g S n m is lo hi) : ZR g S n' m' is lo hi := by
  rcases p with ⟨h1, h2⟩ | ⟨h1, h2, h3, h4⟩
  · exact .inl ⟨fun r s k => h1 r s ((h r s).2 k), h2⟩
  · refine .inr ⟨h1, ?_, ?_, fun z hz => h4 z ?_⟩
    · obtain ⟨r, s, k, e⟩ := h2; exact ⟨r, s, (h r s).1 k, e⟩
    · obtain ⟨r, s, k, e⟩ := h3; exact ⟨r, s, (h r s).1 k, e⟩
    · obtain ⟨r, s, k, e⟩ := hz; exact ⟨r, s, (h r s).2 k, e⟩
theorem ZR.skip (p : ZR g S n m is lo hi) (h : S n m = false) : ZR g S n (m + 1) is lo hi := p.of (fun r s => by
  unfold Seen
  constructor
  · rintro ⟨h1 | h1, h2⟩
    · exact ⟨.inl h1, h2⟩
    · exact ⟨.inr ⟨h1.1, by omega⟩, h2⟩
  · rintro ⟨h1 | h1, h2⟩
    · exact ⟨.inl h1, h2⟩
    · refine ⟨.inr ⟨h1.1, ?_⟩, h2⟩
      rcases Nat.lt_succ_iff_lt_or_eq.1 h1.2 with h3 | h3
      · exact h3
      · rw [h1.1, h3, h] at h2; cases h2)
theorem ZR.rise (p : ZR g S n 31 is lo hi) : ZR g S (n + 1) 0 is lo hi := p.of (fun r s => by
  unfold Seen
  refine and_congr_left fun _ => ?_
  omega)
theorem ZR.add (p : ZR g S n m is lo hi) (h : S n m = true) (hz : -5000 ≤ g.base + (n : Int) - (m : Int) ∧ g.base + (n : Int) - (m : Int) ≤ 5000) : ZR g S n (m + 1) true (min lo (g.base + (n : Int) - (m : Int))) (max hi (g.base + (n : Int) - (m : Int))) := by
  have hs : Seen S n (m + 1) n m := ⟨.inr ⟨rfl, by omega⟩, h⟩
  have hm : ∀ r s, Seen S n m r s → Seen S n (m + 1) r s := fun r s k => ⟨k.1.imp id (fun k => ⟨k.1, by omega⟩), k.2⟩
  have hi' : ∀ r s, Seen S n (m + 1) r s → Seen S n m r s ∨ (r = n ∧ s = m) := fun r s k => by
    rcases k.1 with h1 | h1
    · exact .inl ⟨.inl h1, k.2⟩
    · rcases Nat.lt_succ_iff_lt_or_eq.1 h1.2 with h3 | h3
      · exact .inl ⟨.inr ⟨h1.1, h3⟩, k.2⟩
      · exact .inr ⟨h1.1, h3⟩
  rcases p with ⟨h1, rfl, rfl⟩ | ⟨_, h2, h3, h4⟩
  · rw [Int.min_eq_right hz.2, Int.max_eq_right hz.1]
    refine .inr ⟨rfl, ⟨n, m, hs, rfl⟩, ⟨n, m, hs, rfl⟩, ?_⟩
    rintro z ⟨r, s, k, rfl⟩
    rcases hi' r s k with k | ⟨rfl, rfl⟩
    · exact absurd k (h1 r s)
    · omega
  · refine .inr ⟨rfl, ?_, ?_, ?_⟩
    · rcases Int.le_total lo (g.base + (n : Int) - (m : Int)) with h5 | h5
      · rw [Int.min_eq_left h5]; obtain ⟨r, s, k, e⟩ := h2; exact ⟨r, s, hm r s k, e⟩
      · rw [Int.min_eq_right h5]; exact ⟨n, m, hs, rfl⟩
    · rcases Int.le_total hi (g.base + (n : Int) - (m : Int)) with h5 | h5
      · rw [Int.max_eq_right h5]; exact ⟨n, m, hs, rfl⟩
      · rw [Int.max_eq_left h5]; obtain ⟨r, s, k, e⟩ := h3; exact ⟨r, s, hm r s k, e⟩
    · rintro z ⟨r, s, k, rfl⟩
      rcases hi' r s k with k | ⟨rfl, rfl⟩
      · have := h4 _ ⟨r, s, k, rfl⟩; omega
      · omega
end
/-- a whole day's range. -/
theorem ZR.day {g : Gl} {h : List Rg} {l : List Ic} {o : Nat → Bool} (hok : Ok g h) {G : Nat → Nat → Nat → Bool} {e : Nat} (he : e < h.length) (hk : Gone g h l o G (e + 1)) {is : Bool} {lo hi : Int} (p : ZR g (G (e + 1)) 52 0 is lo hi) (ha : agreeB g h l o = true) :
    is = true ∧ EndsOf (fun z => ∃ s, Goes g h l o (h.length - 1 - e) (e + 1) s ∧ z = zero g s) lo hi := by
  have hnh := hok.nh
  have e1 : h.length - 1 - e = h.length - (e + 1) := by omega
  have hs : ∀ t : St, Goes g h l o (h.length - 1 - e) (e + 1) t ↔ ∃ r s : Nat, Seen (G (e + 1)) 52 0 r s ∧ t = ((r : Int), (s : Int)) := fun t => by
    rw [e1]
    constructor
    · intro hg
      have hb := goes_bd hok (by omega) hg
      obtain ⟨a, b⟩ := t
      simp only at hb
      refine ⟨a.toNat, b.toNat, ⟨.inl ⟨by omega, by omega⟩, (hk (e + 1) _ _ (Nat.le_refl _) (by omega) (by omega) (by omega)).2 ?_⟩, ?_⟩
      · rw [Int.toNat_of_nonneg (by omega), Int.toNat_of_nonneg (by omega)]; exact hg
      · rw [Int.toNat_of_nonneg (by omega), Int.toNat_of_nonneg (by omega)]
    · rintro ⟨r, s, h1, rfl⟩
      have : r < 52 ∧ s < 31 := by rcases h1.1 with h2 | h2 <;> omega
      exact (hk (e + 1) r s (Nat.le_refl _) (by omega) this.1 this.2).1 h1.2
  have hf : (fun z => ∃ s, Goes g h l o (h.length - 1 - e) (e + 1) s ∧ z = zero g s) = (fun z => ∃ r s : Nat, Seen (G (e + 1)) 52 0 r s ∧ z = g.base + (r : Int) - (s : Int)) := funext fun z => propext <| by
    constructor
    · rintro ⟨t, h1, rfl⟩
      obtain ⟨r, s, h2, rfl⟩ := (hs t).1 h1
      exact ⟨r, s, h2, rfl⟩
    · rintro ⟨r, s, h2, rfl⟩
      exact ⟨((r : Int), (s : Int)), (hs _).2 ⟨r, s, h2, rfl⟩, rfl⟩
  rw [hf]
  rcases p with ⟨h1, _⟩ | ⟨h1, h2⟩
  · obtain ⟨σ, p, f⟩ := (agree_iff hok).1 ha
    obtain ⟨r, s, h2, _⟩ := (hs (σ (e + 1))).1 ((goes_iff hok (by omega)).2 ⟨σ, by rw [show e + 1 + (h.length - 1 - e) = h.length by omega]; exact ⟨p, f, rfl⟩⟩)
    exact absurd h2 (h1 r s)
  · exact ⟨h1, h2⟩
theorem goes_agree {g : Gl} {h : List Rg} {l : List Ic} {o : Nat → Bool} (hok : Ok g h) {k d : Nat} (hd : d + k = h.length) {t : St} (ht : Goes g h l o k d t) : agreeB g h l o = true := by
  obtain ⟨σ, p, f, _⟩ := (goes_iff hok (by omega)).1 ht
  rw [hd] at p f
  exact (agree_iff hok).2 ⟨σ, p, f⟩
end Go.Proofs.Ytlgmeofpkfliaaa
end

section
namespace Go.Proofs.Ytlgmeofpkfliaaa
open Go.RowKit
attribute [local go_sem] Ex.cell? Ex.frozen?

set_option maxRecDepth 100000 in
set_option maxHeartbeats 3200000 in
theorem leads_any (blo bhi : Int) (Ad : Option Addr) (cd : Nat) (D : List Int) (f t : Int) (w : World) (hD : SlAt w w.heap.size 1 Ad D.length (fI D)) (hb : 0 ≤ blo ∧ blo ≤ bhi ∧ bhi ≤ 5) (hf : 0 ≤ f ∧ f ≤ 31) (hDl : D.length ≤ 1000000) :
    Calls Try.prog 62 #[.agg #[.int .i64 blo, .int .i64 bhi], .slice Ad D.length cd, .int .i64 f, .int .i64 t] w fun e w' => e = .returned (.bool (leadsB blo bhi D f t)) ∧ Below w.heap.size w w' := by
  have hb1 := ex_alloc (Below.refl w.heap.size w) (.cells #[.int .i64 blo, .int .i64 bhi] 25)
  have q1 : Blk (w.alloc (.cells #[.int .i64 blo, .int .i64 bhi] 25)) w.heap.size 25 #[.int .i64 blo, .int .i64 bhi] := Blk.new _ _ _
  go_enter Try.func62, Try.ntmps62
  go_wp2_with fail
  have hD1 := (hD.below hb1).up hb1.size
  generalize w.alloc (.cells #[.int .i64 blo, .int .i64 bhi] 25) = V at *
  refine wp_loop (fun a W => Rel (fun a W => ∃ b : Int, blo ≤ b ∧ b ≤ bhi + 1 ∧ W = V ∧ Hid (∀ b', blo ≤ b' → b' < b → ∀ k, k < D.length → mx3 (f - b') 0 (gI D k) ≠ t) ∧ ∃ u : Nat → Value, a = ⟨List.toArray (u 0 :: .slice Ad D.length cd :: .int .i64 f :: .int .i64 t :: .pointer (some ⟨w.heap.size, 0, none⟩) :: u 5 :: u 6 :: u 7 :: u 8 :: .int .i64 b :: u 10 :: u 11 :: u 12 :: u 13 :: u 14 :: u 15 :: u 16 :: u 17 :: u 18 :: u 19 :: u 20 :: u 21 :: u 22 :: u 23 :: u 24 :: u 25 :: u 26 :: u 27 :: u 28 :: u 29 :: u 30 :: u 31 :: u 32 :: u 33 :: u 34 :: []), []⟩) a W)
    (fun a _ => (bhi + 1 - intOf (a.tmps.getD 9 undef)).toNat) ⟨⟨blo, by omega, by omega, rfl, Lib.hid (fun b' h1 h2 => by omega), exFrame (by kernel_rfl)⟩⟩ ?_
  rintro a W ⟨⟨b, h1, h2, rfl, HB, u, rfl⟩⟩
  have c1 : W.cell? ⟨w.heap.size, 1, none⟩ = some (.int .i64 bhi) := q1.cell 1
  have lc := q1.lt
  by_cases hbb : b ≤ bhi
  · have e1 : decide (b ≤ bhi) = true := decide_eq_true hbb
    go_wp2_with fail
    refine wp_loop (fun a W' => Rel (fun a W' => ∃ k : Nat, k ≤ D.length ∧ W' = W ∧ Hid (∀ k', k' < k → mx3 (f - b) 0 (gI D k') ≠ t) ∧ ∃ u : Nat → Value, a = ⟨List.toArray (u 0 :: .slice Ad D.length cd :: .int .i64 f :: .int .i64 t :: .pointer (some ⟨w.heap.size, 0, none⟩) :: u 5 :: u 6 :: u 7 :: u 8 :: .int .i64 b :: .int .i64 (k : Int) :: u 11 :: u 12 :: u 13 :: u 14 :: u 15 :: u 16 :: u 17 :: u 18 :: u 19 :: u 20 :: u 21 :: u 22 :: u 23 :: u 24 :: u 25 :: u 26 :: u 27 :: u 28 :: u 29 :: u 30 :: u 31 :: u 32 :: u 33 :: u 34 :: []), []⟩) a W')
      (fun a _ => D.length - (intOf (a.tmps.getD 10 undef)).toNat) ⟨⟨0, by omega, rfl, Lib.hid (fun k' hk => by omega), exFrame (by kernel_rfl)⟩⟩ ?_
    rintro a W' ⟨⟨k, hk, rfl, HK, u, rfl⟩⟩
    by_cases hkD : k < D.length
    · obtain ⟨bi, oi, rfl, hbi, g0⟩ := IsInts.at_ hD1 hkD
      have w1 : IntKind.i64.wrap (f - b) = f - b := IntWalk.i64_in _ (by omega)
      obtain ⟨m, hm⟩ : ∃ m, m = mx3 (f - b) 0 (gI D k) := ⟨_, rfl⟩
      by_cases hmt : m = t
      · have HL := Lib.hid (show leadsB blo bhi D f t = true from leadsB_iff.2 ⟨b, ⟨h1, hbb⟩, k, hkD, by rw [← hm, hmt]⟩)
        have e2 : (m == t) = true := by simp [hmt]
        go_wp2_with (refine pause_at 32 rfl ?_)
        refine Paused.mk ?_
        refine wpList_max3 _ rfl _ _ _ _ rfl (f - b) 0 (gI D k) rfl rfl rfl ?_
        rw [← hm]
        clear hm
        go_wp2_with fail
        go_ret
        exact ⟨by rw [HL.out]; rfl, hb1⟩
      · have HN := Lib.hid (show ∀ k', k' < k + 1 → mx3 (f - b) 0 (gI D k') ≠ t from fun k' hk' => by
          rcases Nat.lt_succ_iff_lt_or_eq.1 hk' with h3 | h3
          · exact HK.out k' h3
          · subst h3; rw [← hm]; exact hmt)
        have e2 : (m == t) = false := by simp [hmt]
        clear hmt
        go_wp2_with (refine pause_at 32 rfl ?_)
        refine Paused.mk ?_
        refine wpList_max3 _ rfl _ _ _ _ rfl (f - b) 0 (gI D k) rfl rfl rfl ?_
        rw [← hm]
        clear hm
        go_wp2_with fail
        refine ⟨⟨⟨k + 1, by omega, rfl, HN, exFrame (by kernel_rfl)⟩⟩, ?_⟩
        show D.length - (intOf (.int .i64 ((k : Int) + 1))).toNat < D.length - (intOf (.int .i64 (k : Int))).toNat
        simp [intOf]
        omega
    · have hkE : k = D.length := by omega
      subst hkE
      have HN := Lib.hid (show ∀ b', blo ≤ b' → b' < b + 1 → ∀ k, k < D.length → mx3 (f - b') 0 (gI D k) ≠ t from fun b' h3 h4 k hk => by
        rcases Int.lt_or_eq_of_le (show b' ≤ b by omega) with h5 | h5
        · exact HB.out b' h3 h5 k hk
        · subst h5; exact HK.out k hk)
      go_wp2_with fail
      refine ⟨⟨⟨b + 1, by omega, by omega, rfl, HN, exFrame (by kernel_rfl)⟩⟩, ?_⟩
      first
      | (show (bhi + 1 - intOf (.int .i64 (b + 1))).toNat < (bhi + 1 - intOf (.int .i64 b)).toNat; simp [intOf]; omega)
      | (show max (bhi + 1 - intOf (.int .i64 (b + 1))) 0 < bhi + 1 - intOf (.int .i64 b); simp only [intOf]; omega)
  · have e1 : decide (b ≤ bhi) = false := decide_eq_false hbb
    have HL := Lib.hid (show leadsB blo bhi D f t = false from by
      rw [← Bool.not_eq_true, leadsB_iff]
      rintro ⟨b', h3, k, h4, h5⟩
      exact HB.out b' h3.1 (by omega) k h4 h5)
    go_wp2
    go_ret
    exact ⟨by rw [HL.out]; rfl, hb1⟩
end Go.Proofs.Ytlgmeofpkfliaaa
end

section
namespace Go.Proofs.Ytlgmeofpkfliaaa
open Go.RowKit
attribute [local go_sem] Ex.cell? Ex.frozen?

theorem run_build_rangeR (a b : Int) (W : World) : (Instr.build 25 #[(0, .int .i64 a), (1, .int .i64 b)]).run Try.prog W = .ok (.agg #[.int .i64 a, .int .i64 b]) W := by
  kernel_rfl
theorem rangeR_info : (Try.prog.info? 25).map (fun i => (i.zero, i.size, i.bytes)) = some (some (.agg #[.int .i64 0, .int .i64 0]), 2, 16) := by kernel_rfl
theorem run_make_rangesR (n : Nat) (hn : n ≤ 16) : ∃ oc : Array Value, oc.size = n * 2 ∧ ∀ W : World, (Instr.makeSlice 28 (.int .i64 (n : Int)) (.int .i64 (n : Int))).run Try.prog W = .ok (.slice (some ⟨W.heap.size, 0, none⟩) n n) (W.alloc (.cells oc 25)) := by
  obtain ⟨i0, hi0, hz0, hz1, hz2⟩ := info_parts rangeR_info
  refine ⟨_, ?_, fun W => by
    have := run_makeSlice (P := Try.prog) (w := W) 28 25 i0 _ Try.underlying28 hi0 hz0 .i64 .i64 (n : Int) (n : Int) (by omega) (by omega) (by rw [hz1, Int.toNat_natCast]; omega) (by rw [hz2]; omega) (by omega)
    rw [Int.toNat_natCast, hz1] at this
    exact this⟩
  simp [madeCells]

def updv (M : Nat → Nat → Nat → Bool) (d r s : Nat) (b : Bool) : Nat → Nat → Nat → Bool := fun d' r' s' => if d' = d ∧ r' = r ∧ s' = s then b else M d' r' s'
theorem updv_true {M : Nat → Nat → Nat → Bool} {d r s : Nat} : updv M d r s true = upd M d r s := rfl
theorem MapAt.setv {W : World} {q : Nat} {M : Nat → Nat → Nat → Bool} (h : MapAt W q M) {d r s : Nat} (b : Bool) (hd : d < 17) (hr : r < 52) (hs : s < 31) : MapAt (W.setCell ⟨q, d * 1612 + r * 31 + s, none⟩ (.bool b)) q (updv M d r s b) := by
  obtain ⟨cs, h1, h2, h3⟩ := h
  refine ⟨cs.setIfInBounds (d * 1612 + r * 31 + s) (.bool b), h1.set_ _ _, by simpa using h2, fun d' r' s' hd' hr' hs' => ?_⟩
  rw [Array.getElem?_setIfInBounds]
  by_cases he : d' = d ∧ r' = r ∧ s' = s
  · obtain ⟨rfl, rfl, rfl⟩ := he
    rw [if_pos rfl, if_pos (by omega)]
    simp [updv]
  · rw [if_neg (by omega), h3 d' r' s' hd' hr' hs']
    simp [updv, he]
theorem MapAt.zero (W : World) : MapAt (W.alloc (.cells Try.zeroCells120 120)) W.heap.size (fun _ _ _ => false) := by
  obtain ⟨h1, h2⟩ := chkF_iff zc_ok
  have h1' : Try.zeroCells120.size = 27404 := by rw [← Array.length_toList]; exact h1
  generalize Try.zeroCells120 = zc at *
  refine ⟨_, Blk.new _ _ _, h1', fun d r s hd hr hs => ?_⟩
  have hk : d * 1612 + r * 31 + s < zc.size := by omega
  rw [Array.getElem?_eq_getElem hk, h2 zc[d * 1612 + r * 31 + s] (by simp)]
theorem MapAt.fr {R : Nat → Prop} {W W' : World} {q : Nat} {M : Nat → Nat → Nat → Bool} (h : MapAt W q M) (hf : Fr R W W') (hn : ¬ R q) : MapAt W' q M := by
  obtain ⟨cs, h1, h2⟩ := h
  exact ⟨cs, h1.fr hf hn, h2⟩

/-- the ranges of the days from d on, where they lie. -/
def ZBl (W : World) (z n d : Nat) (zf : Nat → Rg) : Prop := ∃ oc, Blk W z 25 oc ∧ oc.size = n * 2 ∧ ∀ i, d ≤ i → i < n → oc[i * 2]? = some (.int .i64 (zf i).lo) ∧ oc[i * 2 + 1]? = some (.int .i64 (zf i).hi)
def updz (zf : Nat → Rg) (i : Nat) (r : Rg) : Nat → Rg := fun j => if j = i then r else zf j
theorem ZBl.lt {W : World} {z n d : Nat} {zf : Nat → Rg} (h : ZBl W z n d zf) : z < W.heap.size := by obtain ⟨_, h1, _⟩ := h; exact h1.lt
theorem ZBl.below {W W' : World} {z n d : Nat} {zf : Nat → Rg} (h : ZBl W z n d zf) (hb : Below W.heap.size W W') : ZBl W' z n d zf := by obtain ⟨oc, h1, h2⟩ := h; exact ⟨oc, h1.below hb h1.lt, h2⟩
theorem ZBl.fr {R : Nat → Prop} {W W' : World} {z n d : Nat} {zf : Nat → Rg} (h : ZBl W z n d zf) (hf : Fr R W W') (hn : ¬ R z) : ZBl W' z n d zf := by obtain ⟨oc, h1, h2⟩ := h; exact ⟨oc, h1.fr hf hn, h2⟩
theorem ZBl.frozen {W : World} {z n d : Nat} {zf : Nat → Rg} (h : ZBl W z n d zf) (i : Nat) : W.frozen? ⟨z, i, none⟩ = false := by obtain ⟨_, h1, _⟩ := h; exact h1.frozen i
theorem ZBl.cell {W : World} {z n d : Nat} {zf : Nat → Rg} (h : ZBl W z n d zf) {i : Nat} (h1 : d ≤ i) (h2 : i < n) : W.cell? ⟨z, i * 2, none⟩ = some (.int .i64 (zf i).lo) ∧ W.cell? ⟨z, i * 2 + 1, none⟩ = some (.int .i64 (zf i).hi) := by
  obtain ⟨oc, hb, _, hc⟩ := h
  rw [hb.cell, hb.cell]
  exact hc i h1 h2
theorem ZBl.any2 {W : World} {z n d : Nat} {zf : Nat → Rg} (h : ZBl W z n d zf) {i : Nat} (h2 : i < n) : ∃ u v, W.cell? ⟨z, i * 2, none⟩ = some u ∧ W.cell? ⟨z, i * 2 + 1, none⟩ = some v := by
  obtain ⟨oc, hb, hs, hc⟩ := h
  rw [hb.cell, hb.cell]
  exact ⟨oc[i * 2]'(by omega), oc[i * 2 + 1]'(by omega), Array.getElem?_eq_getElem (by omega), Array.getElem?_eq_getElem (by omega)⟩
theorem ZBl.set {W : World} {z n d : Nat} {zf : Nat → Rg} (h : ZBl W z n d zf) {i : Nat} (hi : i < n) (hd : d ≤ i + 1) (a b : Int) : ZBl ((W.setCell ⟨z, i * 2, none⟩ (.int .i64 a)).setCell ⟨z, i * 2 + 1, none⟩ (.int .i64 b)) z n (min d i) (updz zf i ⟨a, b⟩) := by
  obtain ⟨oc, h1, h2, h3⟩ := h
  refine ⟨_, (h1.set_ (i * 2) (.int .i64 a)).set_ (i * 2 + 1) (.int .i64 b), by simpa using h2, fun j hj hjn => ?_⟩
  simp only [Array.getElem?_setIfInBounds, Array.size_setIfInBounds]
  unfold updz
  by_cases hij : j = i
  · subst hij
    rw [if_pos rfl, if_neg (by omega), if_pos rfl, if_pos (by omega), if_pos rfl, if_pos (by omega)]
    exact ⟨rfl, rfl⟩
  · rw [if_neg hij, if_neg (by omega), if_neg (by omega), if_neg (by omega), if_neg (by omega)]
    exact h3 j (by omega) hjn
/-- what the walk knows: the glass's variable, the map, the map that goes, the ranges. -/
structure ZSt (gc : Array Value) (w : World) (q z gb n d : Nat) (M G : Nat → Nat → Nat → Bool) (zf : Nat → Rg) (W : World) : Prop where
  bw : Below w.heap.size w W
  qg : Blk W w.heap.size 27 gc
  mp : MapAt W q M
  gp : MapAt W gb G
  zp : ZBl W z n d zf
  o2 : q < z
  o3 : z < gb
  o1 : w.heap.size < z
section
variable {gc : Array Value} {w : World} {q z gb n d : Nat} {M G : Nat → Nat → Nat → Bool} {zf : Nat → Rg} {W W' : World}
theorem ZSt.below (h : ZSt gc w q z gb n d M G zf W) (hb : Below W.heap.size W W') : ZSt gc w q z gb n d M G zf W' := ⟨ex_trans h.bw hb, h.qg.below hb h.qg.lt, h.mp.below hb, h.gp.below hb, h.zp.below hb, h.o2, h.o3, h.o1⟩
theorem ZSt.setG (h : ZSt gc w q z gb n d M G zf W) {e r s : Nat} (b : Bool) (hd : e < 17) (hr : r < 52) (hs : s < 31) : ZSt gc w q z gb n d M (updv G e r s b) zf (W.setCell ⟨gb, e * 1612 + r * 31 + s, none⟩ (.bool b)) := by
  have hf : Fr (fun b => b = gb) W (W.setCell ⟨gb, e * 1612 + r * 31 + s, none⟩ (.bool b)) := (Fr.refl (fun b => b = gb) W).andSet rfl
  have o1 := h.o1
  have o2 := h.o2
  have o3 := h.o3
  exact ⟨hf.toBelow h.bw h.bw.size (fun x hx => by omega), h.qg.fr hf (by omega), h.mp.fr hf (by omega), h.gp.setv b hd hr hs, h.zp.fr hf (by omega), o2, o3, o1⟩
theorem ZSt.setZ (h : ZSt gc w q z gb n d M G zf W) {i : Nat} (hi : i < n) (hd : d ≤ i + 1) (a b : Int) : ZSt gc w q z gb n (min d i) M G (updz zf i ⟨a, b⟩) ((W.setCell ⟨z, i * 2, none⟩ (.int .i64 a)).setCell ⟨z, i * 2 + 1, none⟩ (.int .i64 b)) := by
  have hf : Fr (fun b => b = z) W ((W.setCell ⟨z, i * 2, none⟩ (.int .i64 a)).setCell ⟨z, i * 2 + 1, none⟩ (.int .i64 b)) := ((Fr.refl (fun b => b = z) W).andSet rfl).andSet rfl
  have o1 := h.o1
  have o2 := h.o2
  have o3 := h.o3
  exact ⟨hf.toBelow h.bw h.bw.size (fun x hx => by omega), h.qg.fr hf (by omega), h.mp.fr hf (by omega), h.gp.fr hf (by omega), h.zp.set hi hd a b, o2, o3, o1⟩
end
/-- the map is copied up to (r, s). -/
def Copied (n : Nat) (M G : Nat → Nat → Nat → Bool) (r s : Nat) : Prop := (∀ e r' s', e ≠ n → G e r' s' = false) ∧ ∀ r' s', r' < r ∨ (r' = r ∧ s' < s) → s' < 31 → G n r' s' = M n r' s'
theorem copied_step {n r s : Nat} {M G : Nat → Nat → Nat → Bool} (h : Copied n M G r s) : Copied n M (updv G n r s (M n r s)) r (s + 1) := by
  refine ⟨fun e r' s' he => by unfold updv; rw [if_neg (fun k => he k.1)]; exact h.1 e r' s' he, fun r' s' hk hs => ?_⟩
  unfold updv
  by_cases he : r' = r ∧ s' = s
  · obtain ⟨rfl, rfl⟩ := he
    rw [if_pos ⟨rfl, rfl, rfl⟩]
  · rw [if_neg (fun k => he k.2)]
    exact h.2 r' s' (by omega) hs
theorem copied_row {n r : Nat} {M G : Nat → Nat → Nat → Bool} (h : Copied n M G r 31) : Copied n M G (r + 1) 0 := ⟨h.1, fun r' s' hk hs => h.2 r' s' (by omega) hs⟩
theorem gone_last {g : Gl} {h : List Rg} {l : List Ic} {o : Nat → Bool} {M G : Nat → Nat → Nat → Bool} (hM : Known g h l o M h.length) (hc : Copied h.length M G 52 0) : Gone g h l o G h.length ∧ Void G h.length := by
  refine ⟨fun e' r s h1 h2 hr hs => ?_, fun e' r s he => hc.1 e' r s (by omega)⟩
  obtain rfl : e' = h.length := by omega
  rw [hc.2 r s (.inl hr) hs, Nat.sub_self]
  exact hM h.length r s (Nat.le_refl _) hr hs
/-- a Bool as a number: an existential over Bool would be taken apart by the walk. -/
def bN (n : Nat) : Bool := n != 0
/-- the days from d on are told. -/
def DZ (g : Gl) (h : List Rg) (l : List Ic) (o : Nat → Bool) (d : Nat) (zf : Nat → Rg) (is : Bool) : Prop :=
  (is = true → agreeB g h l o = true) ∧ (agreeB g h l o = true → (d < h.length → is = true) ∧ ∀ i, d ≤ i → i < h.length → EndsOf (fun z => ∃ s, Goes g h l o (h.length - 1 - i) (i + 1) s ∧ z = zero g s) (zf i).lo (zf i).hi)

structure ZD (gc : Array Value) (w : World) (q z gb n d : Nat) (M G : Nat → Nat → Nat → Bool) (zf : Nat → Rg) (pc : Nat) (cl chi : Int) (v : Value) (D : List Int) (W : World) : Prop where
  zs : ZSt gc w q z gb n d M G zf W
  qc : Blk W pc 25 #[.int .i64 cl, .int .i64 chi]
  ow : W.ownsRow (gb + 1) 3 1 v D.length (D.map (Value.int .i64))
  op : gb < pc
section
variable {gc : Array Value} {w : World} {q z gb n d : Nat} {M G : Nat → Nat → Nat → Bool} {zf : Nat → Rg} {pc : Nat} {cl chi : Int} {v : Value} {D : List Int} {W W' : World}
theorem MapAt.blk {W : World} {q : Nat} {M : Nat → Nat → Nat → Bool} (h : MapAt W q M) : ∃ cs, Blk W q 120 cs := by obtain ⟨cs, h1, _⟩ := h; exact ⟨cs, h1⟩
theorem ZBl.blk {W : World} {z n d : Nat} {zf : Nat → Rg} (h : ZBl W z n d zf) : ∃ cs, Blk W z 25 cs := by obtain ⟨cs, h1, _⟩ := h; exact ⟨cs, h1⟩
theorem ZD.below (h : ZD gc w q z gb n d M G zf pc cl chi v D W) (hb : Below W.heap.size W W') : ZD gc w q z gb n d M G zf pc cl chi v D W' := ⟨h.zs.below hb, h.qc.below hb h.qc.lt, own_below h.ow hb, h.op⟩
theorem ZD.setG (h : ZD gc w q z gb n d M G zf pc cl chi v D W) {e r s : Nat} (hd : e < 17) (hr : r < 52) (hs : s < 31) : ZD gc w q z gb n d M (upd G e r s) zf pc cl chi v D (W.setCell ⟨gb, e * 1612 + r * 31 + s, none⟩ (.bool true)) := by
  have hf : Fr (fun b => b = gb) W (W.setCell ⟨gb, e * 1612 + r * 31 + s, none⟩ (.bool true)) := (Fr.refl (fun b => b = gb) W).andSet rfl
  have op := h.op
  obtain ⟨cs, hb⟩ := h.zs.gp.blk
  exact ⟨h.zs.setG true hd hr hs, h.qc.fr hf (by omega), own_fr h.ow hf (fun b hb' e => own_blkne h.ow hb (by decide) (e ▸ hb')), op⟩
theorem ZD.setZ (h : ZD gc w q z gb n d M G zf pc cl chi v D W) {i : Nat} (hi : i < n) (hd : d ≤ i + 1) (a b : Int) : ZD gc w q z gb n (min d i) M G (updz zf i ⟨a, b⟩) pc cl chi v D ((W.setCell ⟨z, i * 2, none⟩ (.int .i64 a)).setCell ⟨z, i * 2 + 1, none⟩ (.int .i64 b)) := by
  have hf : Fr (fun b => b = z) W ((W.setCell ⟨z, i * 2, none⟩ (.int .i64 a)).setCell ⟨z, i * 2 + 1, none⟩ (.int .i64 b)) := ((Fr.refl (fun b => b = z) W).andSet rfl).andSet rfl
  have op := h.op
  have o3 := h.zs.o3
  obtain ⟨cs, hb⟩ := h.zs.zp.blk
  exact ⟨h.zs.setZ hi hd a b, h.qc.fr hf (by omega), own_fr h.ow hf (fun b hb' e => own_blkne h.ow hb (by decide) (e ▸ hb')), op⟩
theorem ZD.fill {c0 c1 : Value} (ha : ZSt gc w q z gb n d M G zf W) (hc : Blk W pc 25 #[c0, c1]) (ho : W.ownsRow (gb + 1) 3 1 v D.length (D.map (Value.int .i64))) (hp : gb < pc) :
    ZD gc w q z gb n d M G zf pc cl chi v D ((W.setCell ⟨pc, 0, none⟩ (.int .i64 cl)).setCell ⟨pc, 1, none⟩ (.int .i64 chi)) := by
  have hf : Fr (fun b => b = pc) W ((W.setCell ⟨pc, 0, none⟩ (.int .i64 cl)).setCell ⟨pc, 1, none⟩ (.int .i64 chi)) := ((Fr.refl (fun b => b = pc) W).andSet rfl).andSet rfl
  have o1 := ha.o1
  have o2 := ha.o2
  have o3 := ha.o3
  have hq := (hc.set_ 0 (.int .i64 cl)).set_ 1 (.int .i64 chi)
  simp only [List.setIfInBounds_toArray, List.set_cons_zero, List.set_cons_succ] at hq
  exact ⟨⟨hf.toBelow ha.bw ha.bw.size (fun x hx => by omega), ha.qg.fr hf (by omega), ha.mp.fr hf (by omega), ha.gp.fr hf (by omega), ha.zp.fr hf (by omega), o2, o3, o1⟩, hq, own_fr ho hf (fun b hb' e => own_blkne ho hc (by decide) (e ▸ hb')), hp⟩
end
theorem updz_updz {zf : Nat → Rg} {i : Nat} {a b : Rg} : updz (updz zf i a) i b = updz zf i b := by
  funext j; unfold updz; split <;> rfl
theorem updz_self {zf : Nat → Rg} {i : Nat} {a : Rg} : updz zf i a i = a := by unfold updz; rw [if_pos rfl]
theorem upd_row {G : Nat → Nat → Nat → Bool} {e x y : Nat} : upd G e x y (e + 1) = G (e + 1) := by
  funext r s; exact upd_off (by omega)
theorem dz_day {g : Gl} {h : List Rg} {l : List Ic} {o : Nat → Bool} (hok : Ok g h) {G : Nat → Nat → Nat → Bool} {e : Nat} (he : e < h.length) (hk : Gone g h l o G (e + 1)) {zf : Nat → Rg} {is0 is : Bool} (hz : DZ g h l o (e + 1) zf is0) {lo hi : Int}
    (hs : is = true → agreeB g h l o = true) (p : ZR g (G (e + 1)) 52 0 is lo hi) : DZ g h l o e (updz zf e ⟨lo, hi⟩) is := by
  refine ⟨hs, fun ha => ?_⟩
  obtain ⟨h1, h2⟩ := p.day hok he hk ha
  refine ⟨fun _ => h1, fun i hi1 hi2 => ?_⟩
  rcases Nat.eq_or_lt_of_le hi1 with rfl | hlt
  · rw [updz_self]; exact h2
  · have : updz zf e ⟨lo, hi⟩ i = zf i := by unfold updz; rw [if_neg (by omega)]
    rw [this]
    exact (hz.2 ha).2 i (by omega) hi2
set_option maxRecDepth 100000 in
def DQz (g : Gl) (Ab Ad Ah Ai Ao : Option Addr) (cb cd ch ci co : Nat) (h : List Rg) (l : List Ic) (out : List Int) (w : World) (q z gb d0 e : Nat) (M G : Nat → Nat → Nat → Bool) (zf : Nat → Rg) (is : Nat) (ex : Exit) (a' : Act) (W' : World) : Prop :=
  ex = .normal ∧ ∃ pc Ad' cd' D, ZD #[.int .i64 g.base, .slice Ab g.bands.length cb, .slice Ad g.depths.length cd, .int .i64 g.blo, .int .i64 g.bhi] w q z gb h.length d0 M G zf pc (creepTo g.bands (e : Int) g.bands.length).lo (creepTo g.bands (e : Int) g.bands.length).hi (.slice Ad' (D : List Int).length cd') D W' ∧ Hid (DeepIs g (gR h e).lo ((gR h e).hi - (gR h e).lo + 1).toNat D) ∧ ∃ u : Nat → Value, a' = ⟨List.toArray (u 0 :: .slice Ah h.length ch :: .slice Ai l.length ci :: .slice Ao out.length co :: .pointer (some ⟨w.heap.size, 0, none⟩) :: u 5 :: u 6 :: u 7 :: u 8 :: u 9 :: .pointer (some ⟨q, 0, none⟩) :: .int .i64 (h.length : Int) :: .slice (some ⟨z, 0, none⟩) h.length h.length :: .pointer (some ⟨gb, 0, none⟩) :: u 14 :: u 15 :: .bool (bN is) :: .int .i64 ((e : Int) + 1) :: .pointer (some ⟨pc, 0, none⟩) :: .slice Ad' D.length cd' :: u 20 :: u 21 :: u 22 :: u 23 :: u 24 :: u 25 :: u 26 :: u 27 :: u 28 :: u 29 :: u 30 :: u 31 :: u 32 :: u 33 :: u 34 :: u 35 :: u 36 :: u 37 :: u 38 :: u 39 :: u 40 :: u 41 :: u 42 :: u 43 :: u 44 :: u 45 :: u 46 :: u 47 :: u 48 :: u 49 :: u 50 :: u 51 :: u 52 :: u 53 :: u 54 :: u 55 :: u 56 :: u 57 :: u 58 :: u 59 :: u 60 :: u 61 :: u 62 :: u 63 :: u 64 :: u 65 :: u 66 :: u 67 :: u 68 :: u 69 :: u 70 :: u 71 :: u 72 :: u 73 :: u 74 :: u 75 :: u 76 :: u 77 :: u 78 :: u 79 :: u 80 :: u 81 :: u 82 :: u 83 :: u 84 :: u 85 :: u 86 :: u 87 :: u 88 :: u 89 :: u 90 :: u 91 :: u 92 :: u 93 :: u 94 :: u 95 :: u 96 :: u 97 :: u 98 :: u 99 :: u 100 :: u 101 :: u 102 :: u 103 :: u 104 :: u 105 :: u 106 :: u 107 :: u 108 :: u 109 :: u 110 :: u 111 :: u 112 :: u 113 :: u 114 :: u 115 :: u 116 :: u 117 :: u 118 :: u 119 :: u 120 :: u 121 :: u 122 :: u 123 :: u 124 :: u 125 :: u 126 :: u 127 :: u 128 :: u 129 :: u 130 :: u 131 :: u 132 :: u 133 :: u 134 :: u 135 :: u 136 :: u 137 :: u 138 :: u 139 :: u 140 :: u 141 :: u 142 :: u 143 :: u 144 :: u 145 :: u 146 :: u 147 :: u 148 :: u 149 :: u 150 :: u 151 :: u 152 :: u 153 :: u 154 :: u 155 :: u 156 :: u 157 :: u 158 :: u 159 :: u 160 :: u 161 :: u 162 :: u 163 :: u 164 :: u 165 :: u 166 :: u 167 :: u 168 :: []), []⟩

/-- what Zeros tells. -/
def ZrV (g : Gl) (h : List Rg) (l : List Ic) (o : Nat → Bool) (zs : List Rg) (is : Bool) : Prop :=
  is = agreeB g h l o ∧ zs.length = h.length ∧ (agreeB g h l o = true → ∀ i, i < h.length → EndsOf (fun z => ∃ s, Goes g h l o (h.length - 1 - i) (i + 1) s ∧ z = zero g s) (gR zs i).lo (gR zs i).hi)
theorem zr_done {g : Gl} {h : List Rg} {l : List Ic} {o : Nat → Bool} {zf : Nat → Rg} {is : Bool} (hz : DZ g h l o 0 zf is) (hp : 0 < h.length) {zs : List Rg} (hs : zs.length = h.length ∧ ∀ i, i < h.length → gR zs i = zf i) : ZrV g h l o zs is := by
  refine ⟨?_, hs.1, fun ha i hi => ?_⟩
  · cases ha : agreeB g h l o
    · cases hi : is
      · rfl
      · have := hz.1 hi; rw [ha] at this; cases this
    · exact (hz.2 ha).1 hp
  · rw [hs.2 i hi]; exact (hz.2 ha).2 i (by omega) hi
theorem ZBl.list {W : World} {z n : Nat} {zf : Nat → Rg} (h : ZBl W z n 0 zf) : (((List.range n).map zf).length = n ∧ ∀ i, i < n → gR ((List.range n).map zf) i = zf i) ∧ SlAt W W.heap.size 2 (some ⟨z, 0, none⟩) n (fR ((List.range n).map zf)) := by
  have e : ∀ i, i < n → gR ((List.range n).map zf) i = zf i := fun i hi => by simp [gR, hi]
  refine ⟨⟨by simp, e⟩, fun h0 => ⟨z, 0, rfl, h.lt, fun k j hk hj => ?_⟩⟩
  obtain ⟨c0, c1⟩ := h.cell (i := k) (by omega) hk
  match j, hj with
  | 0, _ => simp only [Nat.zero_add, Nat.add_zero, fR, e k hk]; exact c0
  | 1, _ => simp only [Nat.zero_add, fR, e k hk]; exact c1

set_option maxRecDepth 100000 in
def DQw (P : World → Prop) (x1 x2 x3 x4 x10 x11 x12 x13 x16 x17 x18 x19 x20 x21 x22 : Value) (ex : Exit) (a' : Act) (W' : World) : Prop :=
  ex = .normal ∧ P W' ∧ ∃ u : Nat → Value, a' = ⟨List.toArray (u 0 :: x1 :: x2 :: x3 :: x4 :: u 5 :: u 6 :: u 7 :: u 8 :: u 9 :: x10 :: x11 :: x12 :: x13 :: u 14 :: u 15 :: x16 :: x17 :: x18 :: x19 :: x20 :: x21 :: x22 :: u 23 :: u 24 :: u 25 :: u 26 :: u 27 :: u 28 :: u 29 :: u 30 :: u 31 :: u 32 :: u 33 :: u 34 :: u 35 :: u 36 :: u 37 :: u 38 :: u 39 :: u 40 :: u 41 :: u 42 :: u 43 :: u 44 :: u 45 :: u 46 :: u 47 :: u 48 :: u 49 :: u 50 :: u 51 :: u 52 :: u 53 :: u 54 :: u 55 :: u 56 :: u 57 :: u 58 :: u 59 :: u 60 :: u 61 :: u 62 :: u 63 :: u 64 :: u 65 :: u 66 :: u 67 :: u 68 :: u 69 :: u 70 :: u 71 :: u 72 :: u 73 :: u 74 :: u 75 :: u 76 :: u 77 :: u 78 :: u 79 :: u 80 :: u 81 :: u 82 :: u 83 :: u 84 :: u 85 :: u 86 :: u 87 :: u 88 :: u 89 :: u 90 :: u 91 :: u 92 :: u 93 :: u 94 :: u 95 :: u 96 :: u 97 :: u 98 :: u 99 :: u 100 :: u 101 :: u 102 :: u 103 :: u 104 :: u 105 :: u 106 :: u 107 :: u 108 :: u 109 :: u 110 :: u 111 :: u 112 :: u 113 :: u 114 :: u 115 :: u 116 :: u 117 :: u 118 :: u 119 :: u 120 :: u 121 :: u 122 :: u 123 :: u 124 :: u 125 :: u 126 :: u 127 :: u 128 :: u 129 :: u 130 :: u 131 :: u 132 :: u 133 :: u 134 :: u 135 :: u 136 :: u 137 :: u 138 :: u 139 :: u 140 :: u 141 :: u 142 :: u 143 :: u 144 :: u 145 :: u 146 :: u 147 :: u 148 :: u 149 :: u 150 :: u 151 :: u 152 :: u 153 :: u 154 :: u 155 :: u 156 :: u 157 :: u 158 :: u 159 :: u 160 :: u 161 :: u 162 :: u 163 :: u 164 :: u 165 :: u 166 :: u 167 :: u 168 :: []), []⟩

set_option maxRecDepth 100000 in
set_option maxHeartbeats 6400000 in
theorem ZerosR_any (g : Gl) (Ab Ad Ah Ai Ao : Option Addr) (cb cd ch ci co : Nat) (h : List Rg) (l : List Ic) (out : List Int) (w : World) (hg : GlIn w w.heap.size g Ab Ad) (hh : SlAt w w.heap.size 2 Ah h.length (fR h)) (hi : SlAt w w.heap.size 3 Ai l.length (fC l)) (ho : SlAt w w.heap.size 1 Ao out.length (fI out))
    (hok : Ok g h) (hbd : IcesBd l) (hl : l.length ≤ 1000000) (hol : out.length ≤ 1000000) :
    Calls Try.prog 26 #[.agg #[.int .i64 g.base, .slice Ab g.bands.length cb, .slice Ad g.depths.length cd, .int .i64 g.blo, .int .i64 g.bhi], .slice Ah h.length ch, .slice Ai l.length ci, .slice Ao out.length co] w fun e w' => (∃ A zs is, e = .returned (.tuple #[.slice A h.length h.length, .bool is]) ∧ Hid (ZrV g h l (fun j => hasB out (j : Int)) zs is) ∧ SlAt w' w'.heap.size 2 A h.length (fR zs)) ∧ Below w.heap.size w w' := by
  have hb1 := ex_alloc (Below.refl w.heap.size w) (.cells #[.int .i64 g.base, .slice Ab g.bands.length cb, .slice Ad g.depths.length cd, .int .i64 g.blo, .int .i64 g.bhi] 27)
  have q1 : Blk (w.alloc (.cells #[.int .i64 g.base, .slice Ab g.bands.length cb, .slice Ad g.depths.length cd, .int .i64 g.blo, .int .i64 g.bhi] 27)) w.heap.size 27 #[.int .i64 g.base, .slice Ab g.bands.length cb, .slice Ad g.depths.length cd, .int .i64 g.blo, .int .i64 g.bhi] := Blk.new _ _ _
  have hnh := hok.nh
  have HK := Lib.hid hok
  have hcr := fun d => hok.creep d
  have hbk := hok.back
  have hlb : g.bands.length ≤ 1000000 := by have := hok.nb; omega
  have hld : g.depths.length ≤ 1000000 := by have := hok.nd; omega
  obtain ⟨oc0, hoc0, hmks⟩ := run_make_rangesR h.length hnh.2
  go_enter Try.func26, Try.ntmps26
  go_wp2_with fail
  refine (Ahead_any g _ _ _ _ _ _ _ _ _ _ h l out _ ((hg.below hb1).up hb1.size) ((hh.below hb1).up hb1.size) ((hi.below hb1).up hb1.size) ((ho.below hb1).up hb1.size) hok hbd hl hol).mono ?_
  rintro e w2 ⟨⟨q, M, rfl, hm, hk⟩, hb2⟩
  have HKN := Lib.hid hk
  have hB := ex_trans hb1 hb2
  have q2 := q1.below hb2 q1.lt
  have hq2 := q2.lt
  clear hk hok q1
  go_wp2_with fail
  clear hmks
  have S0 : ZSt #[.int .i64 g.base, .slice Ab g.bands.length cb, .slice Ad g.depths.length cd, .int .i64 g.blo, .int .i64 g.bhi] w q w2.heap.size (w2.heap.size + 1) h.length h.length M (fun _ _ _ => false) (fun _ => ⟨0, 0⟩) ((w2.alloc (.cells oc0 25)).alloc (.cells Try.zeroCells120 120)) := by
    have hx := ex_alloc (ex_alloc (Below.refl w2.heap.size w2) (.cells oc0 25)) (.cells Try.zeroCells120 120)
    refine ⟨ex_trans hB hx, q2.below hx q2.lt, hm.below hx, ?_, ⟨oc0, (Blk.new _ _ _).alloc _, hoc0, fun i h1 h2 => by omega⟩, hm.lt, by omega, q2.lt⟩
    have := MapAt.zero (w2.alloc (.cells oc0 25))
    simpa using this
  have C0 : Hid (Copied h.length M (fun _ _ _ => false) 0 0) := Lib.hid ⟨fun _ _ _ _ => rfl, fun r' s' hk => by omega⟩
  generalize (w2.alloc (.cells oc0 25)).alloc (.cells Try.zeroCells120 120) = V at *
  generalize (fun (_ _ _ : Nat) => false) = G0 at *
  generalize (fun _ : Nat => (⟨0, 0⟩ : Rg)) = z0 at *
  obtain ⟨gb, hgb⟩ : ∃ gb, w2.heap.size + 1 = gb := ⟨_, rfl⟩
  obtain ⟨z, hz⟩ : ∃ z, w2.heap.size = z := ⟨_, rfl⟩
  rw [hgb, hz] at S0
  rw [hgb, hz]
  clear hz hgb hb2 hB hm hb1 hq2 q2 hoc0
  refine wp_loop (fun a W => Rel (fun a W => ∃ r : Nat, r ≤ 52 ∧ ∃ G : Nat → Nat → Nat → Bool, ZSt #[.int .i64 g.base, .slice Ab g.bands.length cb, .slice Ad g.depths.length cd, .int .i64 g.blo, .int .i64 g.bhi] w q z gb h.length h.length M G z0 W ∧ Hid (Copied h.length M G r 0) ∧ ∃ u : Nat → Value, a = ⟨List.toArray (u 0 :: .slice Ah h.length ch :: .slice Ai l.length ci :: .slice Ao out.length co :: .pointer (some ⟨w.heap.size, 0, none⟩) :: u 5 :: u 6 :: u 7 :: u 8 :: u 9 :: .pointer (some ⟨q, 0, none⟩) :: .int .i64 (h.length : Int) :: .slice (some ⟨z, 0, none⟩) h.length h.length :: .pointer (some ⟨gb, 0, none⟩) :: .int .i64 (r : Int) :: u 15 :: u 16 :: u 17 :: u 18 :: u 19 :: u 20 :: u 21 :: u 22 :: u 23 :: u 24 :: u 25 :: u 26 :: u 27 :: u 28 :: u 29 :: u 30 :: u 31 :: u 32 :: u 33 :: u 34 :: u 35 :: u 36 :: u 37 :: u 38 :: u 39 :: u 40 :: u 41 :: u 42 :: u 43 :: u 44 :: u 45 :: u 46 :: u 47 :: u 48 :: u 49 :: u 50 :: u 51 :: u 52 :: u 53 :: u 54 :: u 55 :: u 56 :: u 57 :: u 58 :: u 59 :: u 60 :: u 61 :: u 62 :: u 63 :: u 64 :: u 65 :: u 66 :: u 67 :: u 68 :: u 69 :: u 70 :: u 71 :: u 72 :: u 73 :: u 74 :: u 75 :: u 76 :: u 77 :: u 78 :: u 79 :: u 80 :: u 81 :: u 82 :: u 83 :: u 84 :: u 85 :: u 86 :: u 87 :: u 88 :: u 89 :: u 90 :: u 91 :: u 92 :: u 93 :: u 94 :: u 95 :: u 96 :: u 97 :: u 98 :: u 99 :: u 100 :: u 101 :: u 102 :: u 103 :: u 104 :: u 105 :: u 106 :: u 107 :: u 108 :: u 109 :: u 110 :: u 111 :: u 112 :: u 113 :: u 114 :: u 115 :: u 116 :: u 117 :: u 118 :: u 119 :: u 120 :: u 121 :: u 122 :: u 123 :: u 124 :: u 125 :: u 126 :: u 127 :: u 128 :: u 129 :: u 130 :: u 131 :: u 132 :: u 133 :: u 134 :: u 135 :: u 136 :: u 137 :: u 138 :: u 139 :: u 140 :: u 141 :: u 142 :: u 143 :: u 144 :: u 145 :: u 146 :: u 147 :: u 148 :: u 149 :: u 150 :: u 151 :: u 152 :: u 153 :: u 154 :: u 155 :: u 156 :: u 157 :: u 158 :: u 159 :: u 160 :: u 161 :: u 162 :: u 163 :: u 164 :: u 165 :: u 166 :: u 167 :: u 168 :: []), []⟩) a W)
    (fun a _ => 52 - (intOf (a.tmps.getD 14 undef)).toNat) ⟨⟨0, by omega, G0, S0, C0, exFrame (by kernel_rfl)⟩⟩ ?_
  clear S0 C0
  rintro a W ⟨⟨r, hr, G, S1, C1, u, rfl⟩⟩
  by_cases hr52 : r < 52
  · go_wp2_with fail
    refine wp_loop (fun a W => Rel (fun a W => ∃ s : Nat, s ≤ 31 ∧ ∃ G : Nat → Nat → Nat → Bool, ZSt #[.int .i64 g.base, .slice Ab g.bands.length cb, .slice Ad g.depths.length cd, .int .i64 g.blo, .int .i64 g.bhi] w q z gb h.length h.length M G z0 W ∧ Hid (Copied h.length M G r s) ∧ ∃ u : Nat → Value, a = ⟨List.toArray (u 0 :: .slice Ah h.length ch :: .slice Ai l.length ci :: .slice Ao out.length co :: .pointer (some ⟨w.heap.size, 0, none⟩) :: u 5 :: u 6 :: u 7 :: u 8 :: u 9 :: .pointer (some ⟨q, 0, none⟩) :: .int .i64 (h.length : Int) :: .slice (some ⟨z, 0, none⟩) h.length h.length :: .pointer (some ⟨gb, 0, none⟩) :: .int .i64 (r : Int) :: .int .i64 (s : Int) :: u 16 :: u 17 :: u 18 :: u 19 :: u 20 :: u 21 :: u 22 :: u 23 :: u 24 :: u 25 :: u 26 :: u 27 :: u 28 :: u 29 :: u 30 :: u 31 :: u 32 :: u 33 :: u 34 :: u 35 :: u 36 :: u 37 :: u 38 :: u 39 :: u 40 :: u 41 :: u 42 :: u 43 :: u 44 :: u 45 :: u 46 :: u 47 :: u 48 :: u 49 :: u 50 :: u 51 :: u 52 :: u 53 :: u 54 :: u 55 :: u 56 :: u 57 :: u 58 :: u 59 :: u 60 :: u 61 :: u 62 :: u 63 :: u 64 :: u 65 :: u 66 :: u 67 :: u 68 :: u 69 :: u 70 :: u 71 :: u 72 :: u 73 :: u 74 :: u 75 :: u 76 :: u 77 :: u 78 :: u 79 :: u 80 :: u 81 :: u 82 :: u 83 :: u 84 :: u 85 :: u 86 :: u 87 :: u 88 :: u 89 :: u 90 :: u 91 :: u 92 :: u 93 :: u 94 :: u 95 :: u 96 :: u 97 :: u 98 :: u 99 :: u 100 :: u 101 :: u 102 :: u 103 :: u 104 :: u 105 :: u 106 :: u 107 :: u 108 :: u 109 :: u 110 :: u 111 :: u 112 :: u 113 :: u 114 :: u 115 :: u 116 :: u 117 :: u 118 :: u 119 :: u 120 :: u 121 :: u 122 :: u 123 :: u 124 :: u 125 :: u 126 :: u 127 :: u 128 :: u 129 :: u 130 :: u 131 :: u 132 :: u 133 :: u 134 :: u 135 :: u 136 :: u 137 :: u 138 :: u 139 :: u 140 :: u 141 :: u 142 :: u 143 :: u 144 :: u 145 :: u 146 :: u 147 :: u 148 :: u 149 :: u 150 :: u 151 :: u 152 :: u 153 :: u 154 :: u 155 :: u 156 :: u 157 :: u 158 :: u 159 :: u 160 :: u 161 :: u 162 :: u 163 :: u 164 :: u 165 :: u 166 :: u 167 :: u 168 :: []), []⟩) a W)
      (fun a _ => 31 - (intOf (a.tmps.getD 15 undef)).toNat) ⟨⟨0, by omega, G, S1, C1, exFrame (by kernel_rfl)⟩⟩ ?_
    clear S1 C1
    rintro a W2 ⟨⟨s, hs, G, S1, C1, u, rfl⟩⟩
    by_cases hs31 : s < 31
    · have hd17 : h.length < 17 := by omega
      have mc := S1.mp.cell hd17 hr52 hs31
      have lm := S1.mp.lt
      have gc := S1.gp.cell hd17 hr52 hs31
      have lg := S1.gp.lt
      have fg := S1.gp.frozen (h.length * 1612 + r * 31 + s)
      go_wp2_with fail
      refine wp_region_ext_mix 14 [(false, 0), (false, 1), (false, 2), (false, 3), (false, 4), (false, 5), (false, 6), (false, 12), (false, 13), (true, 7), (false, 8), (false, 9), (false, 10), (false, 11)] (by kernel_rfl) (by kernel_rfl) (by intro d _ _ _ _ h; cases d <;> exact h) ?_
      have hX0 := (Below.refl W2.heap.size W2).drew
      repeat (refine mix_quiet rfl ?_; go_big_quiet_step (fail); refine wpQuiet_nil ?_)
      refine mix_loud rfl ?_
      go_wp2_with fail
      refine ⟨inEx hX0, ?_⟩
      repeat (refine mix_quiet rfl ?_; go_big_quiet_step (fail); refine wpQuiet_nil ?_)
      refine mix_nil (r := [_, _]) rfl ?_
      have S2 := S1.below hX0
      have lg := S2.gp.lt
      have gc := S2.gp.cell hd17 hr52 hs31
      have fg := S2.gp.frozen (h.length * 1612 + r * 31 + s)
      go_wp2_with fail
      refine ⟨⟨⟨s + 1, by omega, _, S2.setG _ hd17 hr52 hs31, Lib.hid (copied_step C1.out), exFrame (by kernel_rfl)⟩⟩, ?_⟩
      show 31 - (intOf (.int .i64 ((s : Int) + 1))).toNat < 31 - (intOf (.int .i64 (s : Int))).toNat
      simp [intOf]
      omega
    · have hsE : s = 31 := by omega
      subst hsE
      go_wp2_with fail
      refine ⟨⟨⟨r + 1, by omega, G, S1, Lib.hid (copied_row C1.out), exFrame (by kernel_rfl)⟩⟩, ?_⟩
      show 52 - (intOf (.int .i64 ((r : Int) + 1))).toNat < 52 - (intOf (.int .i64 (r : Int))).toNat
      simp [intOf]
      omega
  have hrE : r = 52 := by omega
  subst hrE
  obtain ⟨g1, g2⟩ := gone_last HKN.out C1.out
  have K0 := Lib.hid g1
  have B0 := Lib.hid g2
  clear g1 g2 C1
  go_wp2_with fail
  refine wp_loop (fun a W => Rel (fun a W => ∃ d : Nat, d ≤ h.length ∧ ∃ (is : Nat), ∃ G zf, ZSt #[.int .i64 g.base, .slice Ab g.bands.length cb, .slice Ad g.depths.length cd, .int .i64 g.blo, .int .i64 g.bhi] w q z gb h.length d M G zf W ∧ Hid (Gone g h l (fun j => hasB out (j : Int)) G d) ∧ Hid (Void G d) ∧ Hid (DZ g h l (fun j => hasB out (j : Int)) d zf (bN is)) ∧ ∃ u : Nat → Value, a = ⟨List.toArray (u 0 :: .slice Ah h.length ch :: .slice Ai l.length ci :: .slice Ao out.length co :: .pointer (some ⟨w.heap.size, 0, none⟩) :: u 5 :: u 6 :: u 7 :: u 8 :: u 9 :: .pointer (some ⟨q, 0, none⟩) :: .int .i64 (h.length : Int) :: .slice (some ⟨z, 0, none⟩) h.length h.length :: .pointer (some ⟨gb, 0, none⟩) :: u 14 :: u 15 :: .bool (bN is) :: .int .i64 (d : Int) :: u 18 :: u 19 :: u 20 :: u 21 :: u 22 :: u 23 :: u 24 :: u 25 :: u 26 :: u 27 :: u 28 :: u 29 :: u 30 :: u 31 :: u 32 :: u 33 :: u 34 :: u 35 :: u 36 :: u 37 :: u 38 :: u 39 :: u 40 :: u 41 :: u 42 :: u 43 :: u 44 :: u 45 :: u 46 :: u 47 :: u 48 :: u 49 :: u 50 :: u 51 :: u 52 :: u 53 :: u 54 :: u 55 :: u 56 :: u 57 :: u 58 :: u 59 :: u 60 :: u 61 :: u 62 :: u 63 :: u 64 :: u 65 :: u 66 :: u 67 :: u 68 :: u 69 :: u 70 :: u 71 :: u 72 :: u 73 :: u 74 :: u 75 :: u 76 :: u 77 :: u 78 :: u 79 :: u 80 :: u 81 :: u 82 :: u 83 :: u 84 :: u 85 :: u 86 :: u 87 :: u 88 :: u 89 :: u 90 :: u 91 :: u 92 :: u 93 :: u 94 :: u 95 :: u 96 :: u 97 :: u 98 :: u 99 :: u 100 :: u 101 :: u 102 :: u 103 :: u 104 :: u 105 :: u 106 :: u 107 :: u 108 :: u 109 :: u 110 :: u 111 :: u 112 :: u 113 :: u 114 :: u 115 :: u 116 :: u 117 :: u 118 :: u 119 :: u 120 :: u 121 :: u 122 :: u 123 :: u 124 :: u 125 :: u 126 :: u 127 :: u 128 :: u 129 :: u 130 :: u 131 :: u 132 :: u 133 :: u 134 :: u 135 :: u 136 :: u 137 :: u 138 :: u 139 :: u 140 :: u 141 :: u 142 :: u 143 :: u 144 :: u 145 :: u 146 :: u 147 :: u 148 :: u 149 :: u 150 :: u 151 :: u 152 :: u 153 :: u 154 :: u 155 :: u 156 :: u 157 :: u 158 :: u 159 :: u 160 :: u 161 :: u 162 :: u 163 :: u 164 :: u 165 :: u 166 :: u 167 :: u 168 :: []), []⟩) a W)
    (fun a _ => (intOf (a.tmps.getD 17 undef)).toNat) ⟨⟨h.length, by omega, 0, G, z0, S1, K0, B0, Lib.hid ⟨fun h => absurd h (by decide), fun _ => ⟨fun h => by omega, fun i h1 h2 => by omega⟩⟩, exFrame (by kernel_rfl)⟩⟩ ?_
  clear S1 K0 B0
  rintro a wr ⟨⟨d, hd, is, G, zf, S1, K1, B1, Z1, u, rfl⟩⟩
  by_cases hd0 : 0 < d
  · obtain ⟨e, rfl⟩ : ∃ e, d = e + 1 := ⟨d - 1, by omega⟩
    have hlt : e < h.length := by omega
    have d0 : decide (((e + 1 : Nat) : Int) > 0) = true := decide_eq_true (by omega)
    have we : IntKind.i64.wrap (((e + 1 : Nat) : Int) - 1) = (e : Int) := by rw [show ((e + 1 : Nat) : Int) - 1 = (e : Int) by omega]; exact IntWalk.i64_in _ (by omega)
    obtain ⟨u0, u1, zc0, zc1⟩ := S1.zp.any2 hlt
    have zf0 := S1.zp.frozen (e * 2)
    have zf1 := S1.zp.frozen (e * 2 + 1)
    have lz := S1.zp.lt
    have hbr := run_build_rangeR
    have mn : min (e + 1) e = e := by omega
    go_wp2_with fail
    have S2 := S1.setZ hlt (Nat.le_refl _) 5000 (-5000)
    rw [mn] at S2
    generalize (wr.setCell ⟨z, e * 2, none⟩ (.int .i64 5000)).setCell ⟨z, e * 2 + 1, none⟩ (.int .i64 (-5000)) = wq at *
    have R0 : Hid (ZR g (G (e + 1)) 0 0 (bN is) 5000 (-5000)) := Lib.hid ZR.start
    clear zc0 zc1 zf0 zf1 lz hbr S1
    generalize (-5000 : Int) = hi0 at *
    generalize (5000 : Int) = lo0 at *
    have r1 := HK.out.heats e hlt
    obtain ⟨bh, oh, rfl, hbh, s0, s1⟩ := IsRgs.at_ (hh.below S2.bw) hlt
    have hws := S2.bw.size
    have hbr : bh < wq.heap.size := by omega
    have a0 : wq.cell? ⟨w.heap.size, 0, none⟩ = some (.int .i64 g.base) := S2.qg.cell 0
    have a1 : wq.cell? ⟨w.heap.size, 1, none⟩ = some (.slice Ab g.bands.length cb) := S2.qg.cell 1
    have a2 : wq.cell? ⟨w.heap.size, 2, none⟩ = some (.slice Ad g.depths.length cd) := S2.qg.cell 2
    have a3 : wq.cell? ⟨w.heap.size, 3, none⟩ = some (.int .i64 g.blo) := S2.qg.cell 3
    have a4 : wq.cell? ⟨w.heap.size, 4, none⟩ = some (.int .i64 g.bhi) := S2.qg.cell 4
    have l1' := S2.qg.lt
    have l2' := S2.gp.lt
    have HS2 := Lib.hid S2
    have hB := S2.bw
    clear S2
    go_wp2_with fail
    refine Code.wp_mono (Q := DQz g Ab Ad (some ⟨bh, oh, none⟩) Ai Ao cb cd ch ci co h l out w q z gb e e M G (updz zf e ⟨lo0, hi0⟩) is) ?_ ?_
    rotate_left
    · refine wp_region_ext_tq 12 (.quiet 0 (.quiet 1 (.quiet 2 (.quiet 4 (.quiet 5 (.quiet 6 (.quiet 7 (.quiet 8 (.quiet 9 (.fork 3 (.fork 10 (.loud 11 .done) 11 (.loud 10 .done)) 11 (.loud 3 (.loud 10 .done)))))))))))) (by kernel_rfl) (by kernel_rfl) (by rintro d v c a w ⟨h, _⟩; cases h) ?_
      have hX0 := (Below.refl wq.heap.size wq).drew
      repeat (refine tq_quiet rfl ?_; go_big_quiet_step (fail); refine wpQuiet_nil ?_)
      refine tq_fork rfl rfl ?_ ?_
      · go_wp2_with fail
        refine (CreepR_any g _ _ _ _ (e : Int) wq.drew ((hg.below (ex_trans hB hX0)).up (ex_trans hB hX0).size) hlb).mono ?_
        rintro e1 x1 ⟨rfl, hx1⟩
        have hX1 := ex_trans hX0 hx1
        go_wp2_with fail
        refine ⟨inEx hX1, ?_⟩
        refine tq_fork rfl rfl ?_ ?_
        · go_wp2_with fail
          refine (deepR_any g _ _ _ _ (gR h e).lo (gR h e).hi x1 ((hg.below (ex_trans hB hX1)).up (ex_trans hB hX1).size) hld r1.1 r1.2.1 r1.2.2).mono ?_
          rintro e2 x2 ⟨⟨v, D, rfl, hv, hD⟩, hx2⟩
          have hX2 := ex_trans hX1 hx2
          obtain ⟨Ad', cd', rfl, _, _⟩ := own_sl hv
          go_wp2_with fail
          refine ⟨inEx hX2, ?_⟩
          refine tq_loud rfl ?_
          go_wp2_with fail
          refine ⟨inEx (ex_alloc hX2 _), ?_⟩
          refine tq_done (r := [_, _]) rfl ?_
          go_wp2
          exact ⟨rfl, x2.heap.size, Ad', cd', D, ⟨HS2.out.below (ex_alloc hX2 _), Blk.new _ _ _, own_base (hv.alloc _) (by have := hX1.size; omega), by have := hX2.size; omega⟩, Lib.hid hD, exFrame' (by kernel_rfl)⟩
        · have qa : Blk (x1.alloc (.cells #[.int .i64 0, .int .i64 0] 25)) x1.heap.size 25 _ := Blk.new _ _ _
          have hX1a := ex_alloc hX1 (.cells #[.int .i64 0, .int .i64 0] 25)
          go_wp2_with fail
          refine ⟨inEx hX1a, ?_⟩
          refine tq_loud rfl ?_
          go_wp2_with fail
          refine (deepR_any g _ _ _ _ (gR h e).lo (gR h e).hi (x1.alloc (.cells #[.int .i64 0, .int .i64 0] 25)) ((hg.below (ex_trans hB hX1a)).up (ex_trans hB hX1a).size) hld r1.1 r1.2.1 r1.2.2).mono ?_
          rintro e2 x2 ⟨⟨v, D, rfl, hv, hD⟩, hx2⟩
          have hX2 := ex_trans hX1a hx2
          obtain ⟨Ad', cd', rfl, _, _⟩ := own_sl hv
          go_wp2_with fail
          refine ⟨inEx hX2, ?_⟩
          refine tq_done (r := [_, _]) rfl ?_
          have qz := qa.below hx2 qa.lt
          have z0 := qz.cell 0
          have z1 := qz.cell 1
          have f0 := qz.frozen 0
          have f1 := qz.frozen 1
          have lz := qz.lt
          simp at z0 z1
          go_wp2
          exact ⟨rfl, x1.heap.size, Ad', cd', D, ZD.fill (HS2.out.below hX2) qz (own_base hv (by have := (hX1a).size; simp at this ⊢; omega)) (by have := hX1.size; omega), Lib.hid hD, exFrame' (by kernel_rfl)⟩
      · have qa : Blk (wq.alloc (.cells #[.int .i64 0, .int .i64 0] 25)).drew wq.heap.size 25 _ := Blk.new _ _ _
        have hX0a : Below wq.heap.size wq (wq.alloc (.cells #[.int .i64 0, .int .i64 0] 25)).drew := (ex_alloc (Below.refl _ _) _).drew
        go_wp2_with fail
        refine ⟨inEx hX0a, ?_⟩
        refine tq_loud rfl ?_
        go_wp2_with fail
        refine (CreepR_any g _ _ _ _ (e : Int) (wq.alloc (.cells #[.int .i64 0, .int .i64 0] 25)).drew ((hg.below (ex_trans hB hX0a)).up (ex_trans hB hX0a).size) hlb).mono ?_
        rintro e1 x1 ⟨rfl, hx1⟩
        have hX1 := ex_trans hX0a hx1
        go_wp2_with fail
        refine ⟨inEx hX1, ?_⟩
        refine tq_loud rfl ?_
        go_wp2_with fail
        refine (deepR_any g _ _ _ _ (gR h e).lo (gR h e).hi x1 ((hg.below (ex_trans hB hX1)).up (ex_trans hB hX1).size) hld r1.1 r1.2.1 r1.2.2).mono ?_
        rintro e2 x2 ⟨⟨v, D, rfl, hv, hD⟩, hx2⟩
        have hX2 := ex_trans hX1 hx2
        obtain ⟨Ad', cd', rfl, _, _⟩ := own_sl hv
        go_wp2_with fail
        refine ⟨inEx hX2, ?_⟩
        refine tq_done (r := [_, _]) rfl ?_
        have qz := (qa.below hx1 qa.lt).below hx2 (qa.below hx1 qa.lt).lt
        have z0 := qz.cell 0
        have z1 := qz.cell 1
        have f0 := qz.frozen 0
        have f1 := qz.frozen 1
        have lz := qz.lt
        simp at z0 z1
        go_wp2
        exact ⟨rfl, wq.heap.size, Ad', cd', D, ZD.fill (HS2.out.below hX2) qz (own_base hv (by have := (hX1).size; simp at this ⊢; omega)) (by have := hX1.size; omega), Lib.hid hD, exFrame' (by kernel_rfl)⟩
    rintro ex a' W1 ⟨rfl, pc, Ad', cd', D, hAD, hDD, u, rfl⟩
    clear a0 a1 a2 a3 a4 l1' l2' s0 s1 hbr HS2 hB
    obtain ⟨cl, hcl⟩ : ∃ cl, cl = (creepTo g.bands (e : Int) g.bands.length).lo := ⟨_, rfl⟩
    obtain ⟨chi, hch⟩ : ∃ chi, chi = (creepTo g.bands (e : Int) g.bands.length).hi := ⟨_, rfl⟩
    rw [← hcl, ← hch] at hAD
    have HCL : Hid (cl = (creep g e).lo) := Lib.hid hcl
    have HCH : Hid (chi = (creep g e).hi) := Lib.hid hch
    have hc3 : 0 ≤ cl ∧ cl ≤ chi ∧ chi ≤ 3 := by rw [HCL.out, HCH.out]; exact hcr e
    have hDl : D.length ≤ 501 := by have := hDD.out.1; omega
    have P0 : Hid (QQ g h l (fun j => hasB out (j : Int)) D M e 0 0 cl 0 G) := Lib.hid (by rw [HCL.out]; exact QQ.start K1.out B1.out)
    have HDA := Lib.hid (deep_at r1.2.1 hDD.out)
    have I0 : Hid (bN is = true → agreeB g h l (fun j => hasB out (j : Int)) = true) := Lib.hid Z1.out.1
    clear hcl hch K1 B1 hcr
    go_wp2_with fail
    refine wp_loop (fun a W => Rel (fun a W => ∃ n : Nat, n ≤ 52 ∧ ∃ (is : Nat) (lw hw : Int), ∃ G, ZD #[.int .i64 g.base, .slice Ab g.bands.length cb, .slice Ad g.depths.length cd, .int .i64 g.blo, .int .i64 g.bhi] w q z gb h.length e M G (updz zf e ⟨lw, hw⟩) pc cl chi (.slice Ad' D.length cd') D W ∧ Hid (QQ g h l (fun j => hasB out (j : Int)) D M e n 0 cl 0 G) ∧ Hid (ZR g (G (e + 1)) n 0 (bN is) lw hw) ∧ Hid (bN is = true → agreeB g h l (fun j => hasB out (j : Int)) = true) ∧ ∃ u : Nat → Value, a = ⟨List.toArray (u 0 :: .slice (some ⟨bh, oh, none⟩) h.length ch :: .slice Ai l.length ci :: .slice Ao out.length co :: .pointer (some ⟨w.heap.size, 0, none⟩) :: u 5 :: u 6 :: u 7 :: u 8 :: u 9 :: .pointer (some ⟨q, 0, none⟩) :: .int .i64 (h.length : Int) :: .slice (some ⟨z, 0, none⟩) h.length h.length :: .pointer (some ⟨gb, 0, none⟩) :: u 14 :: u 15 :: .bool (bN is) :: .int .i64 ((e : Int) + 1) :: .pointer (some ⟨pc, 0, none⟩) :: .slice Ad' D.length cd' :: .int .i64 (n : Int) :: u 21 :: u 22 :: u 23 :: u 24 :: u 25 :: u 26 :: u 27 :: u 28 :: u 29 :: u 30 :: u 31 :: u 32 :: u 33 :: u 34 :: u 35 :: u 36 :: u 37 :: u 38 :: u 39 :: u 40 :: u 41 :: u 42 :: u 43 :: u 44 :: u 45 :: u 46 :: u 47 :: u 48 :: u 49 :: u 50 :: u 51 :: u 52 :: u 53 :: u 54 :: u 55 :: u 56 :: u 57 :: u 58 :: u 59 :: u 60 :: u 61 :: u 62 :: u 63 :: u 64 :: u 65 :: u 66 :: u 67 :: u 68 :: u 69 :: u 70 :: u 71 :: u 72 :: u 73 :: u 74 :: u 75 :: u 76 :: u 77 :: u 78 :: u 79 :: u 80 :: u 81 :: u 82 :: u 83 :: u 84 :: u 85 :: u 86 :: u 87 :: u 88 :: u 89 :: u 90 :: u 91 :: u 92 :: u 93 :: u 94 :: u 95 :: u 96 :: u 97 :: u 98 :: u 99 :: u 100 :: u 101 :: u 102 :: u 103 :: u 104 :: u 105 :: u 106 :: u 107 :: u 108 :: u 109 :: u 110 :: u 111 :: u 112 :: u 113 :: u 114 :: u 115 :: u 116 :: u 117 :: u 118 :: u 119 :: u 120 :: u 121 :: u 122 :: u 123 :: u 124 :: u 125 :: u 126 :: u 127 :: u 128 :: u 129 :: u 130 :: u 131 :: u 132 :: u 133 :: u 134 :: u 135 :: u 136 :: u 137 :: u 138 :: u 139 :: u 140 :: u 141 :: u 142 :: u 143 :: u 144 :: u 145 :: u 146 :: u 147 :: u 148 :: u 149 :: u 150 :: u 151 :: u 152 :: u 153 :: u 154 :: u 155 :: u 156 :: u 157 :: u 158 :: u 159 :: u 160 :: u 161 :: u 162 :: u 163 :: u 164 :: u 165 :: u 166 :: u 167 :: u 168 :: []), []⟩) a W)
      (fun a _ => 52 - (intOf (a.tmps.getD 20 undef)).toNat) ⟨⟨0, by omega, is, lo0, hi0, G, hAD, P0, R0, I0, exFrame (by kernel_rfl)⟩⟩ ?_
    clear hAD P0 R0 I0
    rintro a W2 ⟨⟨n, hn, is, lw, hw, G, hAD, PN, RN, IN, u, rfl⟩⟩
    by_cases hn52 : n < 52
    · go_wp2_with fail
      refine wp_loop (fun a W => Rel (fun a W => ∃ m : Nat, m ≤ 31 ∧ ∃ (is : Nat) (lw hw : Int), ∃ G, ZD #[.int .i64 g.base, .slice Ab g.bands.length cb, .slice Ad g.depths.length cd, .int .i64 g.blo, .int .i64 g.bhi] w q z gb h.length e M G (updz zf e ⟨lw, hw⟩) pc cl chi (.slice Ad' D.length cd') D W ∧ Hid (QQ g h l (fun j => hasB out (j : Int)) D M e n m cl 0 G) ∧ Hid (ZR g (G (e + 1)) n m (bN is) lw hw) ∧ Hid (bN is = true → agreeB g h l (fun j => hasB out (j : Int)) = true) ∧ ∃ u : Nat → Value, a = ⟨List.toArray (u 0 :: .slice (some ⟨bh, oh, none⟩) h.length ch :: .slice Ai l.length ci :: .slice Ao out.length co :: .pointer (some ⟨w.heap.size, 0, none⟩) :: u 5 :: u 6 :: u 7 :: u 8 :: u 9 :: .pointer (some ⟨q, 0, none⟩) :: .int .i64 (h.length : Int) :: .slice (some ⟨z, 0, none⟩) h.length h.length :: .pointer (some ⟨gb, 0, none⟩) :: u 14 :: u 15 :: .bool (bN is) :: .int .i64 ((e : Int) + 1) :: .pointer (some ⟨pc, 0, none⟩) :: .slice Ad' D.length cd' :: .int .i64 (n : Int) :: .int .i64 (m : Int) :: u 22 :: u 23 :: u 24 :: u 25 :: u 26 :: u 27 :: u 28 :: u 29 :: u 30 :: u 31 :: u 32 :: u 33 :: u 34 :: u 35 :: u 36 :: u 37 :: u 38 :: u 39 :: u 40 :: u 41 :: u 42 :: u 43 :: u 44 :: u 45 :: u 46 :: u 47 :: u 48 :: u 49 :: u 50 :: u 51 :: u 52 :: u 53 :: u 54 :: u 55 :: u 56 :: u 57 :: u 58 :: u 59 :: u 60 :: u 61 :: u 62 :: u 63 :: u 64 :: u 65 :: u 66 :: u 67 :: u 68 :: u 69 :: u 70 :: u 71 :: u 72 :: u 73 :: u 74 :: u 75 :: u 76 :: u 77 :: u 78 :: u 79 :: u 80 :: u 81 :: u 82 :: u 83 :: u 84 :: u 85 :: u 86 :: u 87 :: u 88 :: u 89 :: u 90 :: u 91 :: u 92 :: u 93 :: u 94 :: u 95 :: u 96 :: u 97 :: u 98 :: u 99 :: u 100 :: u 101 :: u 102 :: u 103 :: u 104 :: u 105 :: u 106 :: u 107 :: u 108 :: u 109 :: u 110 :: u 111 :: u 112 :: u 113 :: u 114 :: u 115 :: u 116 :: u 117 :: u 118 :: u 119 :: u 120 :: u 121 :: u 122 :: u 123 :: u 124 :: u 125 :: u 126 :: u 127 :: u 128 :: u 129 :: u 130 :: u 131 :: u 132 :: u 133 :: u 134 :: u 135 :: u 136 :: u 137 :: u 138 :: u 139 :: u 140 :: u 141 :: u 142 :: u 143 :: u 144 :: u 145 :: u 146 :: u 147 :: u 148 :: u 149 :: u 150 :: u 151 :: u 152 :: u 153 :: u 154 :: u 155 :: u 156 :: u 157 :: u 158 :: u 159 :: u 160 :: u 161 :: u 162 :: u 163 :: u 164 :: u 165 :: u 166 :: u 167 :: u 168 :: []), []⟩) a W)
        (fun a _ => 31 - (intOf (a.tmps.getD 21 undef)).toNat) ⟨⟨0, by omega, is, lw, hw, G, hAD, PN, RN, IN, exFrame (by kernel_rfl)⟩⟩ ?_
      clear hAD PN RN IN
      rintro a W3 ⟨⟨m, hm, is, lw, hw, G, hAD, PN, RN, IN, u, rfl⟩⟩
      by_cases hm31 : m < 31
      · have hd17 : e + 1 < 17 := by omega
        have gcl := hAD.zs.gp.cell hd17 hn52 hm31
        have lg := hAD.zs.gp.lt
        cases hG : G (e + 1) n m
        · rw [hG] at gcl
          have P2 := Lib.hid (show QQ g h l (fun j => hasB out (j : Int)) D M e n (m + 1) cl 0 G by have := PN.out.sink (.inr (.inr hG)); rw [← HCL.out] at this; exact this)
          have R2 := Lib.hid (RN.out.skip hG)
          clear hG
          go_wp2_with fail
          refine ⟨⟨⟨m + 1, by omega, is, lw, hw, G, hAD, P2, R2, IN, exFrame (by kernel_rfl)⟩⟩, ?_⟩
          show 31 - (intOf (.int .i64 ((m : Int) + 1))).toNat < 31 - (intOf (.int .i64 (m : Int))).toNat
          simp [intOf]
          omega
        rw [hG] at gcl
        have ab := HK.out.base
        have HAG := Lib.hid (goes_agree HK.out (by omega) ((PN.out.known (e + 1) n m (Nat.le_refl _) (by omega) hn52 hm31).1 hG))
        have R2 := Lib.hid (RN.out.add hG (by omega))
        obtain ⟨S, hS⟩ : ∃ S, G (e + 1) = S := ⟨_, rfl⟩
        have HS := Lib.hid hS
        have HSM := Lib.hid (show S n m = true by rw [← hS]; exact hG)
        rw [hS] at R2
        have a0 : W3.cell? ⟨w.heap.size, 0, none⟩ = some (.int .i64 g.base) := hAD.zs.qg.cell 0
        have l1 := hAD.zs.qg.lt
        obtain ⟨zc0, zc1⟩ := hAD.zs.zp.cell (i := e) (Nat.le_refl _) hlt
        rw [updz_self] at zc0 zc1
        simp only at zc0 zc1
        have lz := hAD.zs.zp.lt
        have w3 : IntKind.i64.wrap (g.base + (n : Int)) = g.base + (n : Int) := IntWalk.i64_in _ (by omega)
        have w4 : IntKind.i64.wrap (g.base + (n : Int) - (m : Int)) = g.base + (n : Int) - (m : Int) := IntWalk.i64_in _ (by omega)
        obtain ⟨zv, hzv⟩ : ∃ zv, g.base + (n : Int) - (m : Int) = zv := ⟨_, rfl⟩
        rw [hzv] at R2 w4
        have hbr := run_build_rangeR
        clear hG hS RN
        go_wp2_with fail
        try rw [hzv]
        refine Code.wp_mono (Q := DQw (fun W' => ZD #[.int .i64 g.base, .slice Ab g.bands.length cb, .slice Ad g.depths.length cd, .int .i64 g.blo, .int .i64 g.bhi] w q z gb h.length e M G (updz zf e ⟨min lw zv, max hw zv⟩) pc cl chi (.slice Ad' D.length cd') D W') (.slice (some ⟨bh, oh, none⟩) h.length ch) (.slice Ai l.length ci) (.slice Ao out.length co) (.pointer (some ⟨w.heap.size, 0, none⟩)) (.pointer (some ⟨q, 0, none⟩)) (.int .i64 (h.length : Int)) (.slice (some ⟨z, 0, none⟩) h.length h.length) (.pointer (some ⟨gb, 0, none⟩)) (.bool true) (.int .i64 ((e : Int) + 1)) (.pointer (some ⟨pc, 0, none⟩)) (.slice Ad' D.length cd') (.int .i64 (n : Int)) (.int .i64 (m : Int)) (.int .i64 zv)) ?_ ?_
        rotate_left
        · refine wp_region_ext_tq 20 (.quiet 0 (.quiet 1 (.quiet 2 (.quiet 3 (.quiet 4 (.quiet 5 (.quiet 6 (.quiet 7 (.quiet 8 (.quiet 9 (.quiet 11 (.quiet 12 (.quiet 13 (.quiet 14 (.quiet 15 (.quiet 16 (.quiet 17 (.fork 10 (.loud 18 (.quiet 19 .done)) 18 (.loud 10 (.quiet 19 .done)))))))))))))))))))) (by kernel_rfl) (by kernel_rfl) (by rintro d v c a w ⟨h, _⟩; cases h) ?_
          have hX0 := (Below.refl W3.heap.size W3).drew
          repeat (refine tq_quiet rfl ?_; go_big_quiet_step (fail); refine wpQuiet_nil ?_)
          refine tq_fork rfl rfl ?_ ?_
          · go_wp2_with fail
            refine ⟨inEx hX0, ?_⟩
            refine tq_loud rfl ?_
            go_wp2_with fail
            refine ⟨inEx hX0, ?_⟩
            refine tq_quiet rfl ?_
            go_big_quiet_step (fail)
            refine wpQuiet_nil ?_
            refine tq_done (r := [_, _]) rfl ?_
            have hAX := hAD.below hX0
            have zf0 := hAD.zs.zp.frozen (e * 2)
            have zf1 := hAD.zs.zp.frozen (e * 2 + 1)
            go_wp2
            refine ⟨rfl, ?_, exFrame' (by kernel_rfl)⟩
            have := hAX.setZ hlt (by omega) (min lw zv) (max hw zv)
            rw [updz_updz, Nat.min_self] at this
            exact this
          · go_wp2_with fail
            refine ⟨inEx hX0, ?_⟩
            refine tq_loud rfl ?_
            go_wp2_with fail
            refine ⟨inEx hX0, ?_⟩
            refine tq_quiet rfl ?_
            go_big_quiet_step (fail)
            refine wpQuiet_nil ?_
            refine tq_done (r := [_, _]) rfl ?_
            have hAX := hAD.below hX0
            have zf0 := hAD.zs.zp.frozen (e * 2)
            have zf1 := hAD.zs.zp.frozen (e * 2 + 1)
            go_wp2
            refine ⟨rfl, ?_, exFrame' (by kernel_rfl)⟩
            have := hAX.setZ hlt (by omega) (min lw zv) (max hw zv)
            rw [updz_updz, Nat.min_self] at this
            exact this
        rintro ex a' W4 ⟨rfl, hAD, u, rfl⟩
        have c0 : W4.cell? ⟨pc, 0, none⟩ = some (.int .i64 cl) := hAD.qc.cell 0
        have lc := hAD.qc.lt
        go_wp2_with fail
        clear c0 lc
        refine wp_loop (fun a W => Rel (fun a W => ∃ c : Int, cl ≤ c ∧ c ≤ chi + 1 ∧ ∃ G, ZD #[.int .i64 g.base, .slice Ab g.bands.length cb, .slice Ad g.depths.length cd, .int .i64 g.blo, .int .i64 g.bhi] w q z gb h.length e M G (updz zf e ⟨min lw zv, max hw zv⟩) pc cl chi (.slice Ad' D.length cd') D W ∧ Hid (QQ g h l (fun j => hasB out (j : Int)) D M e n m c 0 G) ∧ Hid (G (e + 1) = S) ∧ ∃ u : Nat → Value, a = ⟨List.toArray (u 0 :: .slice (some ⟨bh, oh, none⟩) h.length ch :: .slice Ai l.length ci :: .slice Ao out.length co :: .pointer (some ⟨w.heap.size, 0, none⟩) :: u 5 :: u 6 :: u 7 :: u 8 :: u 9 :: .pointer (some ⟨q, 0, none⟩) :: .int .i64 (h.length : Int) :: .slice (some ⟨z, 0, none⟩) h.length h.length :: .pointer (some ⟨gb, 0, none⟩) :: u 14 :: u 15 :: .bool true :: .int .i64 ((e : Int) + 1) :: .pointer (some ⟨pc, 0, none⟩) :: .slice Ad' D.length cd' :: .int .i64 (n : Int) :: .int .i64 (m : Int) :: .int .i64 zv :: .int .i64 c :: u 24 :: u 25 :: u 26 :: u 27 :: u 28 :: u 29 :: u 30 :: u 31 :: u 32 :: u 33 :: u 34 :: u 35 :: u 36 :: u 37 :: u 38 :: u 39 :: u 40 :: u 41 :: u 42 :: u 43 :: u 44 :: u 45 :: u 46 :: u 47 :: u 48 :: u 49 :: u 50 :: u 51 :: u 52 :: u 53 :: u 54 :: u 55 :: u 56 :: u 57 :: u 58 :: u 59 :: u 60 :: u 61 :: u 62 :: u 63 :: u 64 :: u 65 :: u 66 :: u 67 :: u 68 :: u 69 :: u 70 :: u 71 :: u 72 :: u 73 :: u 74 :: u 75 :: u 76 :: u 77 :: u 78 :: u 79 :: u 80 :: u 81 :: u 82 :: u 83 :: u 84 :: u 85 :: u 86 :: u 87 :: u 88 :: u 89 :: u 90 :: u 91 :: u 92 :: u 93 :: u 94 :: u 95 :: u 96 :: u 97 :: u 98 :: u 99 :: u 100 :: u 101 :: u 102 :: u 103 :: u 104 :: u 105 :: u 106 :: u 107 :: u 108 :: u 109 :: u 110 :: u 111 :: u 112 :: u 113 :: u 114 :: u 115 :: u 116 :: u 117 :: u 118 :: u 119 :: u 120 :: u 121 :: u 122 :: u 123 :: u 124 :: u 125 :: u 126 :: u 127 :: u 128 :: u 129 :: u 130 :: u 131 :: u 132 :: u 133 :: u 134 :: u 135 :: u 136 :: u 137 :: u 138 :: u 139 :: u 140 :: u 141 :: u 142 :: u 143 :: u 144 :: u 145 :: u 146 :: u 147 :: u 148 :: u 149 :: u 150 :: u 151 :: u 152 :: u 153 :: u 154 :: u 155 :: u 156 :: u 157 :: u 158 :: u 159 :: u 160 :: u 161 :: u 162 :: u 163 :: u 164 :: u 165 :: u 166 :: u 167 :: u 168 :: []), []⟩) a W)
          (fun a _ => (chi + 1 - intOf (a.tmps.getD 23 undef)).toNat) ⟨⟨cl, by omega, by omega, G, hAD, PN, HS, exFrame (by kernel_rfl)⟩⟩ ?_
        clear hAD PN HS
        rintro a W5 ⟨⟨c, hc, hc', G, hAD, PN, HS, u, rfl⟩⟩
        have c1 : W5.cell? ⟨pc, 1, none⟩ = some (.int .i64 chi) := hAD.qc.cell 1
        have lc := hAD.qc.lt
        have HEND : chi < c ∨ (n : Int) < c → Hid (QQ g h l (fun j => hasB out (j : Int)) D M e n (m + 1) cl 0 G) := fun hx => Lib.hid (by
          have := PN.out.sink (by rcases hx with hx | hx; exact .inl (by rw [← HCH.out]; exact hx); exact .inr (.inl hx))
          rw [← HCL.out] at this
          exact this)
        by_cases hcc : c ≤ chi
        · have e1 : decide (c ≤ chi) = true := decide_eq_true hcc
          by_cases hcn : c ≤ (n : Int)
          · have e2 : decide (c ≤ (n : Int)) = true := decide_eq_true hcn
            clear HEND
            go_wp2_with fail
            refine wp_loop (fun a W => Rel (fun a W => ∃ f : Nat, f ≤ 31 ∧ ∃ G, ZD #[.int .i64 g.base, .slice Ab g.bands.length cb, .slice Ad g.depths.length cd, .int .i64 g.blo, .int .i64 g.bhi] w q z gb h.length e M G (updz zf e ⟨min lw zv, max hw zv⟩) pc cl chi (.slice Ad' D.length cd') D W ∧ Hid (QQ g h l (fun j => hasB out (j : Int)) D M e n m c f G) ∧ Hid (G (e + 1) = S) ∧ ∃ u : Nat → Value, a = ⟨List.toArray (u 0 :: .slice (some ⟨bh, oh, none⟩) h.length ch :: .slice Ai l.length ci :: .slice Ao out.length co :: .pointer (some ⟨w.heap.size, 0, none⟩) :: u 5 :: u 6 :: u 7 :: u 8 :: u 9 :: .pointer (some ⟨q, 0, none⟩) :: .int .i64 (h.length : Int) :: .slice (some ⟨z, 0, none⟩) h.length h.length :: .pointer (some ⟨gb, 0, none⟩) :: u 14 :: u 15 :: .bool true :: .int .i64 ((e : Int) + 1) :: .pointer (some ⟨pc, 0, none⟩) :: .slice Ad' D.length cd' :: .int .i64 (n : Int) :: .int .i64 (m : Int) :: .int .i64 zv :: .int .i64 c :: .int .i64 (f : Int) :: u 25 :: u 26 :: u 27 :: u 28 :: u 29 :: u 30 :: u 31 :: u 32 :: u 33 :: u 34 :: u 35 :: u 36 :: u 37 :: u 38 :: u 39 :: u 40 :: u 41 :: u 42 :: u 43 :: u 44 :: u 45 :: u 46 :: u 47 :: u 48 :: u 49 :: u 50 :: u 51 :: u 52 :: u 53 :: u 54 :: u 55 :: u 56 :: u 57 :: u 58 :: u 59 :: u 60 :: u 61 :: u 62 :: u 63 :: u 64 :: u 65 :: u 66 :: u 67 :: u 68 :: u 69 :: u 70 :: u 71 :: u 72 :: u 73 :: u 74 :: u 75 :: u 76 :: u 77 :: u 78 :: u 79 :: u 80 :: u 81 :: u 82 :: u 83 :: u 84 :: u 85 :: u 86 :: u 87 :: u 88 :: u 89 :: u 90 :: u 91 :: u 92 :: u 93 :: u 94 :: u 95 :: u 96 :: u 97 :: u 98 :: u 99 :: u 100 :: u 101 :: u 102 :: u 103 :: u 104 :: u 105 :: u 106 :: u 107 :: u 108 :: u 109 :: u 110 :: u 111 :: u 112 :: u 113 :: u 114 :: u 115 :: u 116 :: u 117 :: u 118 :: u 119 :: u 120 :: u 121 :: u 122 :: u 123 :: u 124 :: u 125 :: u 126 :: u 127 :: u 128 :: u 129 :: u 130 :: u 131 :: u 132 :: u 133 :: u 134 :: u 135 :: u 136 :: u 137 :: u 138 :: u 139 :: u 140 :: u 141 :: u 142 :: u 143 :: u 144 :: u 145 :: u 146 :: u 147 :: u 148 :: u 149 :: u 150 :: u 151 :: u 152 :: u 153 :: u 154 :: u 155 :: u 156 :: u 157 :: u 158 :: u 159 :: u 160 :: u 161 :: u 162 :: u 163 :: u 164 :: u 165 :: u 166 :: u 167 :: u 168 :: []), []⟩) a W)
              (fun a _ => 31 - (intOf (a.tmps.getD 24 undef)).toNat) ⟨⟨0, by omega, G, hAD, PN, HS, exFrame (by kernel_rfl)⟩⟩ ?_
            clear hAD PN HS c1 lc
            rintro a W6 ⟨⟨f, hf, G, hAD, PN, HS, u, rfl⟩⟩
            by_cases hf31 : f < 31
            · obtain ⟨x, hx⟩ : ∃ x : Nat, (n : Int) - c = (x : Int) := ⟨((n : Int) - c).toNat, by omega⟩
              have hx52 : x < 52 := by omega
              have he17 : e < 17 := by omega
              have wx : IntKind.i64.wrap ((n : Int) - c) = (x : Int) := by rw [hx]; exact IntWalk.i64_in _ (by omega)
              have mc := hAD.zs.mp.cell he17 hx52 hf31
              have lm := hAD.zs.mp.lt
              have HX : Hid (x = ((n : Int) - c).toNat) := Lib.hid (by omega)
              have HX2 : Hid ((x : Int) = (n : Int) - c) := Lib.hid hx.symm
              clear hx
              have HNO : ¬ (M e x f = true ∧ leadsB g.blo g.bhi D (f : Int) (m : Int) = true) → Hid (QQ g h l (fun j => hasB out (j : Int)) D M e n m c (f + 1) G) := fun hno => Lib.hid (PN.out.no (by rw [← HX.out]; exact hno))
              cases hM : M e x f
              · rw [hM] at mc
                have P2 := HNO (by rw [hM]; rintro ⟨h1, _⟩; cases h1)
                clear hM HNO
                go_wp2_with fail
                refine ⟨⟨⟨f + 1, by omega, G, hAD, P2, HS, exFrame (by kernel_rfl)⟩⟩, ?_⟩
                show 31 - (intOf (.int .i64 ((f : Int) + 1))).toNat < 31 - (intOf (.int .i64 (f : Int))).toNat
                simp [intOf]
                omega
              rw [hM] at mc
              have HM := Lib.hid hM
              have a3 : W6.cell? ⟨w.heap.size, 3, none⟩ = some (.int .i64 g.blo) := hAD.zs.qg.cell 3
              have a4 : W6.cell? ⟨w.heap.size, 4, none⟩ = some (.int .i64 g.bhi) := hAD.zs.qg.cell 4
              have l1 := hAD.zs.qg.lt
              obtain ⟨Aq, cq, hvq, _, hsl⟩ := own_sl hAD.ow
              injection hvq with hv1 hv2 hv3
              subst hv1 hv3
              clear hv2
              cases hL : leadsB g.blo g.bhi D (f : Int) (m : Int)
              · have P2 := HNO (by rw [hL]; rintro ⟨_, h1⟩; cases h1)
                have HL := Lib.hid hL
                clear hM HNO hL
                go_wp2_with fail
                refine (leads_any g.blo g.bhi _ _ D (f : Int) (m : Int) W6 hsl hbk (by omega) (by omega)).mono ?_
                rintro e7 W7 ⟨rfl, h7⟩
                have hA7 := hAD.below h7
                rw [HL.out]
                go_wp2_with fail
                refine ⟨⟨⟨f + 1, by omega, G, hA7, P2, HS, exFrame (by kernel_rfl)⟩⟩, ?_⟩
                show 31 - (intOf (.int .i64 ((f : Int) + 1))).toNat < 31 - (intOf (.int .i64 (f : Int))).toNat
                simp [intOf]
                omega
              · have HL := Lib.hid hL
                clear hM HNO hL
                go_wp2_with fail
                refine (leads_any g.blo g.bhi _ _ D (f : Int) (m : Int) W6 hsl hbk (by omega) (by omega)).mono ?_
                rintro e7 W7 ⟨rfl, h7⟩
                have hA7 := hAD.below h7
                rw [HL.out]
                have fm := hA7.zs.gp.frozen (e * 1612 + x * 31 + f)
                have gcl2 := hA7.zs.gp.cell he17 hx52 hf31
                have lg2 := hA7.zs.gp.lt
                have hA8 := hA7.setG he17 hx52 hf31
                have P8 := Lib.hid (PN.out.yes HX.out (lead_goes HK.out hlt HDA.out HKN.out PN.out.known hn52 hm31 (by rw [HS.out]; exact HSM.out) (by rw [← HCL.out, ← HCH.out]; exact ⟨hc, hcc⟩) hcn hf31 HX2.out HM.out HL.out))
                have HS8 : Hid (upd G e x f (e + 1) = S) := Lib.hid (by rw [upd_row]; exact HS.out)
                go_wp2_with fail
                refine ⟨⟨⟨f + 1, by omega, _, hA8, P8, HS8, exFrame (by kernel_rfl)⟩⟩, ?_⟩
                show 31 - (intOf (.int .i64 ((f : Int) + 1))).toNat < 31 - (intOf (.int .i64 (f : Int))).toNat
                simp [intOf]
                omega
            · have hfE : f = 31 := by omega
              subst hfE
              have P2 := Lib.hid PN.out.creep
              go_wp2_with fail
              refine ⟨⟨⟨c + 1, by omega, by omega, G, hAD, P2, HS, exFrame (by kernel_rfl)⟩⟩, ?_⟩
              first
              | (show (chi + 1 - intOf (.int .i64 (c + 1))).toNat < (chi + 1 - intOf (.int .i64 c)).toNat; simp [intOf]; omega)
              | (show max (chi + 1 - intOf (.int .i64 (c + 1))) 0 < chi + 1 - intOf (.int .i64 c); simp only [intOf]; omega)
          · have e2 : decide (c ≤ (n : Int)) = false := decide_eq_false hcn
            have P2 := HEND (.inr (by omega))
            have R3 : Hid (ZR g (G (e + 1)) n (m + 1) (bN 1) (min lw zv) (max hw zv)) := Lib.hid (by rw [HS.out]; exact R2.out)
            clear HEND
            go_wp2_with fail
            refine ⟨⟨⟨m + 1, by omega, 1, min lw zv, max hw zv, G, hAD, P2, R3, Lib.hid (fun _ => HAG.out), exFrame (by kernel_rfl)⟩⟩, ?_⟩
            show 31 - (intOf (.int .i64 ((m : Int) + 1))).toNat < 31 - (intOf (.int .i64 (m : Int))).toNat
            simp [intOf]
            omega
        · have e1 : decide (c ≤ chi) = false := decide_eq_false hcc
          have P2 := HEND (.inl (by omega))
          have R3 : Hid (ZR g (G (e + 1)) n (m + 1) (bN 1) (min lw zv) (max hw zv)) := Lib.hid (by rw [HS.out]; exact R2.out)
          clear HEND
          go_wp2_with fail
          refine ⟨⟨⟨m + 1, by omega, 1, min lw zv, max hw zv, G, hAD, P2, R3, Lib.hid (fun _ => HAG.out), exFrame (by kernel_rfl)⟩⟩, ?_⟩
          show 31 - (intOf (.int .i64 ((m : Int) + 1))).toNat < 31 - (intOf (.int .i64 (m : Int))).toNat
          simp [intOf]
          omega
      · have hmE : m = 31 := by omega
        subst hmE
        have P2 := Lib.hid (show QQ g h l (fun j => hasB out (j : Int)) D M e (n + 1) 0 cl 0 G by have := PN.out.rise; rw [← HCL.out] at this; exact this)
        have R2 := Lib.hid RN.out.rise
        go_wp2_with fail
        refine ⟨⟨⟨n + 1, by omega, is, lw, hw, G, hAD, P2, R2, IN, exFrame (by kernel_rfl)⟩⟩, ?_⟩
        show 52 - (intOf (.int .i64 ((n : Int) + 1))).toNat < 52 - (intOf (.int .i64 (n : Int))).toNat
        simp [intOf]
        omega
    · have hnE : n = 52 := by omega
      subst hnE
      obtain ⟨k2, b2⟩ := PN.out.day HK.out hlt HDA.out HKN.out
      have Z2 := Lib.hid (dz_day HK.out hlt PN.out.known Z1.out IN.out RN.out)
      go_wp2_with fail
      refine ⟨⟨⟨e, by omega, is, G, _, hAD.zs, Lib.hid k2, Lib.hid b2, Z2, exFrame (by kernel_rfl)⟩⟩, ?_⟩
      show (intOf (.int .i64 (e : Int))).toNat < (intOf (.int .i64 ((e : Int) + 1))).toNat
      simp [intOf]
      try omega
  · have hd0' : d = 0 := by omega
    subst hd0'
    obtain ⟨ha, hs⟩ := S1.zp.list
    have HZR := Lib.hid (zr_done Z1.out hnh.1 ha)
    have hbw := S1.bw
    go_wp2
    go_ret2
    exact ⟨⟨_, _, _, rfl, HZR, hs⟩, hbw⟩
end Go.Proofs.Ytlgmeofpkfliaaa
end

section
namespace Go.Proofs.Ytlgmeofpkfliaaa
open Go.RowKit
attribute [local go_sem] Ex.cell? Ex.frozen?

set_option maxRecDepth 100000 in
set_option maxHeartbeats 3200000 in
theorem ranges_self (A B : Option Addr) (c b : Nat) (zs : List Rg) (w : World) (hl : zs.length ≤ 1000000) (hA : SlAt w w.heap.size 2 A zs.length (fR zs)) (hB : SlAt w w.heap.size 2 B zs.length (fR zs)) :
    Calls Try.prog 50 #[.slice A zs.length c, .slice B zs.length b] w fun e w' => e = .returned (.bool true) ∧ Below w.heap.size w w' := by
  go_enter Try.func50, Try.ntmps50
  go_wp2_with fail
  refine wp_loop (fun a W => Rel (fun a W => ∃ k : Nat, k ≤ zs.length ∧ Below w.heap.size w W ∧ ∃ u : Nat → Value, a = ⟨List.toArray (.slice A zs.length c :: .slice B zs.length b :: u 2 :: u 3 :: u 4 :: .int .i64 (k : Int) :: u 6 :: u 7 :: u 8 :: u 9 :: u 10 :: u 11 :: u 12 :: u 13 :: u 14 :: u 15 :: u 16 :: u 17 :: u 18 :: u 19 :: u 20 :: u 21 :: u 22 :: u 23 :: u 24 :: u 25 :: u 26 :: []), []⟩) a W)
    (fun a _ => zs.length - (intOf (a.tmps.getD 5 undef)).toNat) ⟨⟨0, by omega, Below.refl _ _, exFrame (by kernel_rfl)⟩⟩ ?_
  rintro a W ⟨⟨k, hk, hbl, u, rfl⟩⟩
  by_cases hlt : k < zs.length
  · obtain ⟨bi, oi, rfl, hbi, g0, g1⟩ := IsRgs.at_ ((hA.below hbl).up hbl.size) hlt
    obtain ⟨bj, oj, rfl, hbj, k0, k1⟩ := IsRgs.at_ ((hB.below hbl).up hbl.size) hlt
    go_wp2_with fail
    refine wp_region_ext_mix 9 [(false, 0), (false, 1), (false, 2), (false, 3), (false, 4), (false, 5), (false, 6), (false, 7), (true, 8)] (by kernel_rfl) (by kernel_rfl) (by intro d _ _ _ _ h; cases d <;> exact h) ?_
    have hX0 := (Below.refl W.heap.size W).drew
    repeat (refine mix_quiet rfl ?_; go_big_quiet_step (fail); refine wpQuiet_nil ?_)
    refine mix_loud rfl ?_
    go_wp2_with fail
    refine (to_law (gR zs k).lo (gR zs k).hi W.drew).mono ?_
    rintro e wh ⟨rfl, hwh⟩
    go_wp2_with fail
    refine ⟨inEx (ex_trans hX0 hwh), ?_⟩
    refine mix_nil rfl ?_
    generalize (gR zs k).lo = lo at *
    generalize (gR zs k).hi = hi at *
    go_wp2_with fail
    refine ⟨⟨⟨k + 1, by omega, ex_trans hbl (ex_trans hX0 hwh), exFrame (by kernel_rfl)⟩⟩, ?_⟩
    show zs.length - (intOf (.int .i64 ((k : Int) + 1))).toNat < zs.length - (intOf (.int .i64 (k : Int))).toNat
    simp [intOf]
    omega
  · go_wp2
    go_ret
    exact ⟨rfl, hbl⟩
theorem ranges_n (n : Nat) (A B : Option Addr) (c b : Nat) (zs : List Rg) (w : World) (hn : zs.length = n) (hl : n ≤ 1000000) (hA : SlAt w w.heap.size 2 A n (fR zs)) (hB : SlAt w w.heap.size 2 B n (fR zs)) :
    Calls Try.prog 50 #[.slice A n c, .slice B n b] w fun e w' => e = .returned (.bool true) ∧ Below w.heap.size w w' := by
  subst hn
  exact ranges_self A B c b zs w hl hA hB
end Go.Proofs.Ytlgmeofpkfliaaa
end

section
namespace Go.Proofs.Ytlgmeofpkfliaaa
open Go.RowKit
attribute [local go_sem] Ex.cell? Ex.frozen? Gx.cell?

/-- what Holds tells. -/
def HoldsV (g : Gl) (h : List Rg) (l : List Ic) (low high : Int) (k ev : Int) : Prop :=
  (high < low ∧ k = 0 ∧ ev = 2) ∨ (low ≤ high ∧ agreeB g h l off0 = false ∧ k = 0 ∧ ev = 9) ∨ (low ≤ high ∧ agreeB g h l off0 = true ∧ ∃ zs, ZsOf g h l zs ∧ HoldsIs zs low high h.length (.returned (.tuple #[.int .i64 k, .int .i64 ev])))
theorem Holds_v (g : Gl) (Ab Ad Ah Ai : Option Addr) (cb cd ch ci : Nat) (h : List Rg) (l : List Ic) (w : World) (hg : GlIn w w.heap.size g Ab Ad) (hh : SlAt w w.heap.size 2 Ah h.length (fR h)) (hi : SlAt w w.heap.size 3 Ai l.length (fC l)) (low high : Int) (heq : iced g h l = 0) :
    Calls Try.prog 25 #[.agg #[.int .i64 g.base, .slice Ab g.bands.length cb, .slice Ad g.depths.length cd, .int .i64 g.blo, .int .i64 g.bhi], .slice Ah h.length ch, .slice Ai l.length ci, .int .i64 low, .int .i64 high] w fun e w' => (∃ k ev, e = .returned (.tuple #[.int .i64 k, .int .i64 ev]) ∧ Hid (HoldsV g h l low high k ev)) ∧ Below w.heap.size w w' := by
  refine (Holds_good g Ab Ad Ah Ai cb cd ch ci h l w hg hh hi low high heq).mono ?_
  rintro e w' ⟨⟨h1, rfl⟩ | ⟨h1, h2, rfl⟩ | ⟨h1, h2, zs, h3, h4⟩, hb⟩
  · exact ⟨⟨_, _, rfl, Lib.hid (.inl ⟨h1, rfl, rfl⟩)⟩, hb⟩
  · exact ⟨⟨_, _, rfl, Lib.hid (.inr (.inl ⟨h1, by rw [← Bool.not_eq_true, agreeB_iff]; exact h2, rfl, rfl⟩))⟩, hb⟩
  · have h4' := h4
    obtain ⟨d, _, _, _, ⟨_, rfl⟩ | ⟨_, rfl⟩⟩ := h4
    · exact ⟨⟨_, _, rfl, Lib.hid (.inr (.inr ⟨h1, agreeB_iff.2 h2, zs, h3, h4'⟩))⟩, hb⟩
    · exact ⟨⟨_, _, rfl, Lib.hid (.inr (.inr ⟨h1, agreeB_iff.2 h2, zs, h3, h4'⟩))⟩, hb⟩
/-- where the loop ends is what Holds tells. -/
theorem holds_end {zs : List Rg} {low high : Int} {n k : Nat} {ks ev : Int} (h : HoldsIs zs low high n (.returned (.tuple #[.int .i64 ks, .int .i64 ev]))) (h1 : k ≤ n) (h2 : ∀ i, i < k → heldR zs low high i = true) (h3 : k < n → heldR zs low high k = false) :
    (k = 0 ∧ ks = 0 ∧ ev = 10) ∨ (0 < k ∧ ks = (k : Int) - 1 ∧ ev = 0) := by
  obtain ⟨d, d1, d2, d3, d4⟩ := h
  have : d = k := by
    rcases Nat.lt_trichotomy d k with h4 | h4 | h4
    · have := d3 (by omega); rw [h2 d h4] at this; cases this
    · exact h4
    · have := h3 (by omega); rw [d2 k h4] at this; cases this
  subst this
  rcases d4 with ⟨d5, d6⟩ | ⟨d5, d6⟩
  · simp at d6; exact .inl ⟨d5, d6.1, d6.2⟩
  · simp at d6; exact .inr ⟨d5, d6.1, d6.2⟩
theorem heldR_iff {zs : List Rg} {low high : Int} {k : Nat} : heldR zs low high k = true ↔ low ≤ (gR zs k).lo ∧ (gR zs k).hi ≤ high := by simp [heldR]
theorem heldR_f1 {zs : List Rg} {low high : Int} {k : Nat} (h : ¬ low ≤ (gR zs k).lo) : heldR zs low high k = false := by rw [← Bool.not_eq_true, heldR_iff]; exact fun k => h k.1
theorem heldR_f2 {zs : List Rg} {low high : Int} {k : Nat} (h : ¬ (gR zs k).hi ≤ high) : heldR zs low high k = false := by rw [← Bool.not_eq_true, heldR_iff]; exact fun k => h k.2
theorem ZerosR_nil (g : Gl) (Ab Ad Ah Ai : Option Addr) (cb cd ch ci : Nat) (h : List Rg) (l : List Ic) (w : World) (hg : GlIn w w.heap.size g Ab Ad) (hh : SlAt w w.heap.size 2 Ah h.length (fR h)) (hi : SlAt w w.heap.size 3 Ai l.length (fC l)) (hok : Ok g h) (hbd : IcesBd l) (hl : l.length ≤ 1000000) :
    Calls Try.prog 26 #[.agg #[.int .i64 g.base, .slice Ab g.bands.length cb, .slice Ad g.depths.length cd, .int .i64 g.blo, .int .i64 g.bhi], .slice Ah h.length ch, .slice Ai l.length ci, .slice none 0 0] w fun e w' => (∃ A zs is, e = .returned (.tuple #[.slice A (zs : List Rg).length h.length, .bool is]) ∧ Hid (zs.length = h.length ∧ is = agreeB g h l off0 ∧ (is = true → ZsOf g h l zs)) ∧ SlAt w' w'.heap.size 2 A zs.length (fR zs)) ∧ Below w.heap.size w w' := by
  refine (ZerosR_any g Ab Ad Ah Ai none cb cd ch ci 0 h l [] w hg hh hi (fun h => absurd h (by simp)) hok hbd hl (by simp)).mono ?_
  rintro e w' ⟨⟨A, zs, is, rfl, hz, hs⟩, hb⟩
  have hz' : ZrV g h l off0 zs is := hz.out
  have hl := hz'.2.1
  exact ⟨⟨A, zs, is, by rw [hl], Lib.hid ⟨hl, hz'.1, fun h => ⟨hl, hz'.2.2 (by rw [← hz'.1]; exact h)⟩⟩, by rw [hl]; exact hs⟩, hb⟩

set_option maxRecDepth 100000 in
set_option maxHeartbeats 6400000 in
theorem Holds_far (g : Gl) (Ab Ad Ah Ai : Option Addr) (cb cd ch ci : Nat) (h : List Rg) (l : List Ic) (w : World) (hg : GlIn w w.heap.size g Ab Ad) (hh : SlAt w w.heap.size 2 Ah h.length (fR h)) (hi : SlAt w w.heap.size 3 Ai l.length (fC l)) (low high : Int)(hth : thinB g.bands.length g.depths.length h.length l.length = false) :
    Calls Try.prog 4 #[.agg #[.int .i64 g.base, .slice Ab g.bands.length cb, .slice Ad g.depths.length cd, .int .i64 g.blo, .int .i64 g.bhi], .slice Ah h.length ch, .slice Ai l.length ci, .int .i64 low, .int .i64 high] w fun e w' => e = .returned (.bool true) ∧ Below w.heap.size w w' := by
  have hb1 := ex_alloc (Below.refl w.heap.size w) (.cells #[.int .i64 g.base, .slice Ab g.bands.length cb, .slice Ad g.depths.length cd, .int .i64 g.blo, .int .i64 g.bhi] 27)
  have q1 : Blk (w.alloc (.cells #[.int .i64 g.base, .slice Ab g.bands.length cb, .slice Ad g.depths.length cd, .int .i64 g.blo, .int .i64 g.bhi] 27)) w.heap.size 27 #[.int .i64 g.base, .slice Ab g.bands.length cb, .slice Ad g.depths.length cd, .int .i64 g.blo, .int .i64 g.bhi] := Blk.new _ _ _
  have HTH := Lib.hid hth
  clear hth
  go_enter Try.func4, Try.ntmps4
  go_wp2_with fail
  refine (Thin_any _ _ _ _ _ _ _ _ _ _ _ _ _ _ _ _).mono ?_
  rintro e w2 ⟨rfl, hb2⟩
  have hB2 := ex_trans hb1 hb2
  rw [HTH.out]
  go_wp2_with fail
  refine (awake_any _).mono ?_
  rintro e x1 ⟨rfl, hx1⟩
  go_wp2
  go_ret
  exact ⟨rfl, ex_trans hB2 hx1⟩

set_option maxRecDepth 100000 in
set_option maxHeartbeats 6400000 in
theorem HoldsLaw_bad (g : Gl) (Ab Ad Ah Ai : Option Addr) (cb cd ch ci : Nat) (h : List Rg) (l : List Ic) (w : World) (hg : GlIn w w.heap.size g Ab Ad) (hh : SlAt w w.heap.size 2 Ah h.length (fR h)) (hi : SlAt w w.heap.size 3 Ai l.length (fC l)) (low high : Int) (hth : thinB g.bands.length g.depths.length h.length l.length = true) (hne : iced g h l ≠ 0) :
    Calls Try.prog 4 #[.agg #[.int .i64 g.base, .slice Ab g.bands.length cb, .slice Ad g.depths.length cd, .int .i64 g.blo, .int .i64 g.bhi], .slice Ah h.length ch, .slice Ai l.length ci, .int .i64 low, .int .i64 high] w fun e w' => e = .returned (.bool true) ∧ Below w.heap.size w w' := by
  have hb1 := ex_alloc (Below.refl w.heap.size w) (.cells #[.int .i64 g.base, .slice Ab g.bands.length cb, .slice Ad g.depths.length cd, .int .i64 g.blo, .int .i64 g.bhi] 27)
  have q1 : Blk (w.alloc (.cells #[.int .i64 g.base, .slice Ab g.bands.length cb, .slice Ad g.depths.length cd, .int .i64 g.blo, .int .i64 g.bhi] 27)) w.heap.size 27 #[.int .i64 g.base, .slice Ab g.bands.length cb, .slice Ad g.depths.length cd, .int .i64 g.blo, .int .i64 g.bhi] := Blk.new _ _ _
  obtain ⟨hnb, hnd, hnh, hni⟩ := thinB_iff.1 hth
  have HTH := Lib.hid hth
  clear hth
  go_enter Try.func4, Try.ntmps4
  go_wp2_with fail
  refine (Thin_any _ _ _ _ _ _ _ _ _ _ _ _ _ _ _ _).mono ?_
  rintro e w2 ⟨rfl, hb2⟩
  have hB2 := ex_trans hb1 hb2
  rw [HTH.out]
  have p1 := q1.below hb2 q1.lt
  clear q1
  have HNE := Lib.hid hne
  have n1 : (iced g h l == 0) = false := by simp [hne]
  have n2 : (iced g h l != 0) = true := by simp [hne]
  have n3 : (iced g h l == iced g h l) = true := by simp
  clear hne
  have a0 : w2.cell? ⟨w.heap.size, 0, none⟩ = some (.int .i64 g.base) := p1.cell 0
  have a1 : w2.cell? ⟨w.heap.size, 1, none⟩ = some (.slice Ab g.bands.length cb) := p1.cell 1
  have a2 : w2.cell? ⟨w.heap.size, 2, none⟩ = some (.slice Ad g.depths.length cd) := p1.cell 2
  have a3 : w2.cell? ⟨w.heap.size, 3, none⟩ = some (.int .i64 g.blo) := p1.cell 3
  have a4 : w2.cell? ⟨w.heap.size, 4, none⟩ = some (.int .i64 g.bhi) := p1.cell 4
  have l1 := p1.lt
  go_wp2_with fail
  refine (Glass_any g _ _ _ _ w2 ((hg.below hB2).up hB2.size) (by omega) (by omega)).mono ?_
  rintro e ya1 ⟨⟨Ab_ya1, Ad_ya1, cb_ya1, cd_ya1, rfl, hg_ya1⟩, hya1⟩
  have B_ya1 := ex_trans hB2 hya1
  go_wp2_with fail
  refine (History_any _ _ h ya1 (by omega) ((hh.below B_ya1).up B_ya1.size)).mono ?_
  rintro e ya2 ⟨⟨Ah_ya2, ch_ya2, rfl, _, _, hh_ya2⟩, hya2⟩
  have B_ya2 := ex_trans B_ya1 hya2
  have I_ya2 := ex_trans hB2 (ex_trans hya1 hya2)
  go_wp2_with fail
  refine (Ices_any _ _ l ya2 (by omega) ((hi.below I_ya2).up I_ya2.size)).mono ?_
  rintro e ya3 ⟨⟨Ai_ya3, ci_ya3, rfl, hc1_ya3, hc2_ya3, hi_ya3⟩, hya3⟩
  have B_ya3 := ex_trans B_ya2 hya3
  have I_ya3 := ex_trans I_ya2 hya3
  go_wp2_with fail
  refine (Holds_bad g _ _ _ _ _ _ _ _ h l _ ((hg_ya1.below (ex_trans hya2 hya3)).up (ex_trans hya2 hya3).size) ((hh_ya2.below hya3).up hya3.size) hi_ya3 low high HNE.out).mono ?_
  rintro e ya4 ⟨rfl, hya4⟩
  have B_ya := ex_trans B_ya3 hya4
  have I_ya := ex_trans I_ya3 hya4
  have X_ya := ex_trans (ex_trans (ex_trans hya1 hya2) hya3) hya4
  clear hg_ya1 hh_ya2 hi_ya3
  replace p1 := p1.below X_ya l1
  clear a0 a1 a2 a3 a4 l1
  have a0 : ya4.cell? ⟨w.heap.size, 0, none⟩ = some (.int .i64 g.base) := p1.cell 0
  have a1 : ya4.cell? ⟨w.heap.size, 1, none⟩ = some (.slice Ab g.bands.length cb) := p1.cell 1
  have a2 : ya4.cell? ⟨w.heap.size, 2, none⟩ = some (.slice Ad g.depths.length cd) := p1.cell 2
  have a3 : ya4.cell? ⟨w.heap.size, 3, none⟩ = some (.int .i64 g.blo) := p1.cell 3
  have a4 : ya4.cell? ⟨w.heap.size, 4, none⟩ = some (.int .i64 g.bhi) := p1.cell 4
  have l1 := p1.lt
  go_wp2_with fail
  refine (icedL_any g _ _ _ _ _ _ _ _ h l _ ((hg.below B_ya).up B_ya.size) ((hh.below B_ya).up B_ya.size) ((hi.below B_ya).up B_ya.size) (by omega)).mono ?_
  rintro e w6 ⟨rfl, hw6⟩
  have B_w6 := ex_trans B_ya hw6
  generalize iced g h l = lv at *
  go_wp2_with fail
  refine (awake_any _).mono ?_
  rintro e x1 ⟨rfl, hx1⟩
  go_wp2
  go_ret
  exact ⟨rfl, ex_trans B_w6 hx1⟩

set_option maxRecDepth 100000 in
set_option maxHeartbeats 6400000 in
theorem HoldsLaw_out (g : Gl) (Ab Ad Ah Ai : Option Addr) (cb cd ch ci : Nat) (h : List Rg) (l : List Ic) (w : World) (hg : GlIn w w.heap.size g Ab Ad) (hh : SlAt w w.heap.size 2 Ah h.length (fR h)) (hi : SlAt w w.heap.size 3 Ai l.length (fC l)) (low high : Int) (hth : thinB g.bands.length g.depths.length h.length l.length = true) (heq : iced g h l = 0) (hlh : high < low) :
    Calls Try.prog 4 #[.agg #[.int .i64 g.base, .slice Ab g.bands.length cb, .slice Ad g.depths.length cd, .int .i64 g.blo, .int .i64 g.bhi], .slice Ah h.length ch, .slice Ai l.length ci, .int .i64 low, .int .i64 high] w fun e w' => e = .returned (.bool true) ∧ Below w.heap.size w w' := by
  have hb1 := ex_alloc (Below.refl w.heap.size w) (.cells #[.int .i64 g.base, .slice Ab g.bands.length cb, .slice Ad g.depths.length cd, .int .i64 g.blo, .int .i64 g.bhi] 27)
  have q1 : Blk (w.alloc (.cells #[.int .i64 g.base, .slice Ab g.bands.length cb, .slice Ad g.depths.length cd, .int .i64 g.blo, .int .i64 g.bhi] 27)) w.heap.size 27 #[.int .i64 g.base, .slice Ab g.bands.length cb, .slice Ad g.depths.length cd, .int .i64 g.blo, .int .i64 g.bhi] := Blk.new _ _ _
  obtain ⟨hnb, hnd, hnh, hni⟩ := thinB_iff.1 hth
  have HTH := Lib.hid hth
  clear hth
  go_enter Try.func4, Try.ntmps4
  go_wp2_with fail
  refine (Thin_any _ _ _ _ _ _ _ _ _ _ _ _ _ _ _ _).mono ?_
  rintro e w2 ⟨rfl, hb2⟩
  have hB2 := ex_trans hb1 hb2
  rw [HTH.out]
  have p1 := q1.below hb2 q1.lt
  clear q1
  have HIC := Lib.hid heq
  have h8 := iced_len heq
  have HK := Lib.hid (ok_of_iced heq)
  have HBD := Lib.hid (iced_bd heq)
  clear heq
  have d1 : decide (low > high) = true := decide_eq_true (by omega)
  have d2 : decide (high < low) = true := decide_eq_true (by omega)
  have a0 : w2.cell? ⟨w.heap.size, 0, none⟩ = some (.int .i64 g.base) := p1.cell 0
  have a1 : w2.cell? ⟨w.heap.size, 1, none⟩ = some (.slice Ab g.bands.length cb) := p1.cell 1
  have a2 : w2.cell? ⟨w.heap.size, 2, none⟩ = some (.slice Ad g.depths.length cd) := p1.cell 2
  have a3 : w2.cell? ⟨w.heap.size, 3, none⟩ = some (.int .i64 g.blo) := p1.cell 3
  have a4 : w2.cell? ⟨w.heap.size, 4, none⟩ = some (.int .i64 g.bhi) := p1.cell 4
  have l1 := p1.lt
  go_wp2_with fail
  refine (Glass_any g _ _ _ _ w2 ((hg.below hB2).up hB2.size) (by omega) (by omega)).mono ?_
  rintro e ya1 ⟨⟨Ab_ya1, Ad_ya1, cb_ya1, cd_ya1, rfl, hg_ya1⟩, hya1⟩
  have B_ya1 := ex_trans hB2 hya1
  go_wp2_with fail
  refine (History_any _ _ h ya1 (by omega) ((hh.below B_ya1).up B_ya1.size)).mono ?_
  rintro e ya2 ⟨⟨Ah_ya2, ch_ya2, rfl, _, _, hh_ya2⟩, hya2⟩
  have B_ya2 := ex_trans B_ya1 hya2
  have I_ya2 := ex_trans hB2 (ex_trans hya1 hya2)
  go_wp2_with fail
  refine (Ices_any _ _ l ya2 (by omega) ((hi.below I_ya2).up I_ya2.size)).mono ?_
  rintro e ya3 ⟨⟨Ai_ya3, ci_ya3, rfl, hc1_ya3, hc2_ya3, hi_ya3⟩, hya3⟩
  have B_ya3 := ex_trans B_ya2 hya3
  have I_ya3 := ex_trans I_ya2 hya3
  go_wp2_with fail
  refine (Holds_v g _ _ _ _ _ _ _ _ h l _ ((hg_ya1.below (ex_trans hya2 hya3)).up (ex_trans hya2 hya3).size) ((hh_ya2.below hya3).up hya3.size) hi_ya3 low high HIC.out).mono ?_
  rintro e ya4 ⟨⟨ks1, sv1, rfl, HS1⟩, hya4⟩
  have B_ya := ex_trans B_ya3 hya4
  have I_ya := ex_trans I_ya3 hya4
  have X_ya := ex_trans (ex_trans (ex_trans hya1 hya2) hya3) hya4
  clear hg_ya1 hh_ya2 hi_ya3
  replace p1 := p1.below X_ya l1
  clear a0 a1 a2 a3 a4 l1
  have a0 : ya4.cell? ⟨w.heap.size, 0, none⟩ = some (.int .i64 g.base) := p1.cell 0
  have a1 : ya4.cell? ⟨w.heap.size, 1, none⟩ = some (.slice Ab g.bands.length cb) := p1.cell 1
  have a2 : ya4.cell? ⟨w.heap.size, 2, none⟩ = some (.slice Ad g.depths.length cd) := p1.cell 2
  have a3 : ya4.cell? ⟨w.heap.size, 3, none⟩ = some (.int .i64 g.blo) := p1.cell 3
  have a4 : ya4.cell? ⟨w.heap.size, 4, none⟩ = some (.int .i64 g.bhi) := p1.cell 4
  have l1 := p1.lt
  go_wp2_with fail
  refine (icedL_any g _ _ _ _ _ _ _ _ h l _ ((hg.below B_ya).up B_ya.size) ((hh.below B_ya).up B_ya.size) ((hi.below B_ya).up B_ya.size) (by omega)).mono ?_
  rintro e w6 ⟨rfl, hw6⟩
  have B_w6 := ex_trans B_ya hw6
  rw [HIC.out]
  replace p1 := p1.below hw6 l1
  clear a0 a1 a2 a3 a4 l1
  have hE : ks1 = 0 ∧ sv1 = 2 := by
    rcases HS1.out with ⟨_, h1, h2⟩ | ⟨h1, _⟩ | ⟨h1, _⟩
    · exact ⟨h1, h2⟩
    · omega
    · omega
  obtain ⟨rfl, rfl⟩ := hE
  go_wp2_with fail
  refine (awake_any _).mono ?_
  rintro e x1 ⟨rfl, hx1⟩
  go_wp2
  go_ret
  exact ⟨rfl, ex_trans B_w6 hx1⟩

set_option maxRecDepth 100000 in
set_option maxHeartbeats 6400000 in
theorem HoldsLaw_in (g : Gl) (Ab Ad Ah Ai : Option Addr) (cb cd ch ci : Nat) (h : List Rg) (l : List Ic) (w : World) (hg : GlIn w w.heap.size g Ab Ad) (hh : SlAt w w.heap.size 2 Ah h.length (fR h)) (hi : SlAt w w.heap.size 3 Ai l.length (fC l)) (low high : Int) (hth : thinB g.bands.length g.depths.length h.length l.length = true) (heq : iced g h l = 0) (hlh : low ≤ high) :
    Calls Try.prog 4 #[.agg #[.int .i64 g.base, .slice Ab g.bands.length cb, .slice Ad g.depths.length cd, .int .i64 g.blo, .int .i64 g.bhi], .slice Ah h.length ch, .slice Ai l.length ci, .int .i64 low, .int .i64 high] w fun e w' => e = .returned (.bool true) ∧ Below w.heap.size w w' := by
  have hb1 := ex_alloc (Below.refl w.heap.size w) (.cells #[.int .i64 g.base, .slice Ab g.bands.length cb, .slice Ad g.depths.length cd, .int .i64 g.blo, .int .i64 g.bhi] 27)
  have q1 : Blk (w.alloc (.cells #[.int .i64 g.base, .slice Ab g.bands.length cb, .slice Ad g.depths.length cd, .int .i64 g.blo, .int .i64 g.bhi] 27)) w.heap.size 27 #[.int .i64 g.base, .slice Ab g.bands.length cb, .slice Ad g.depths.length cd, .int .i64 g.blo, .int .i64 g.bhi] := Blk.new _ _ _
  obtain ⟨hnb, hnd, hnh, hni⟩ := thinB_iff.1 hth
  have HTH := Lib.hid hth
  clear hth
  go_enter Try.func4, Try.ntmps4
  go_wp2_with fail
  refine (Thin_any _ _ _ _ _ _ _ _ _ _ _ _ _ _ _ _).mono ?_
  rintro e w2 ⟨rfl, hb2⟩
  have hB2 := ex_trans hb1 hb2
  rw [HTH.out]
  have p1 := q1.below hb2 q1.lt
  clear q1
  have HIC := Lib.hid heq
  have h8 := iced_len heq
  have HK := Lib.hid (ok_of_iced heq)
  have HBD := Lib.hid (iced_bd heq)
  clear heq
  have d1 : decide (low > high) = false := decide_eq_false (by omega)
  have d2 : decide (high < low) = false := decide_eq_false (by omega)
  have a0 : w2.cell? ⟨w.heap.size, 0, none⟩ = some (.int .i64 g.base) := p1.cell 0
  have a1 : w2.cell? ⟨w.heap.size, 1, none⟩ = some (.slice Ab g.bands.length cb) := p1.cell 1
  have a2 : w2.cell? ⟨w.heap.size, 2, none⟩ = some (.slice Ad g.depths.length cd) := p1.cell 2
  have a3 : w2.cell? ⟨w.heap.size, 3, none⟩ = some (.int .i64 g.blo) := p1.cell 3
  have a4 : w2.cell? ⟨w.heap.size, 4, none⟩ = some (.int .i64 g.bhi) := p1.cell 4
  have l1 := p1.lt
  go_wp2_with fail
  refine (Glass_any g _ _ _ _ w2 ((hg.below hB2).up hB2.size) (by omega) (by omega)).mono ?_
  rintro e ya1 ⟨⟨Ab_ya1, Ad_ya1, cb_ya1, cd_ya1, rfl, hg_ya1⟩, hya1⟩
  have B_ya1 := ex_trans hB2 hya1
  go_wp2_with fail
  refine (History_any _ _ h ya1 (by omega) ((hh.below B_ya1).up B_ya1.size)).mono ?_
  rintro e ya2 ⟨⟨Ah_ya2, ch_ya2, rfl, _, _, hh_ya2⟩, hya2⟩
  have B_ya2 := ex_trans B_ya1 hya2
  have I_ya2 := ex_trans hB2 (ex_trans hya1 hya2)
  go_wp2_with fail
  refine (Ices_any _ _ l ya2 (by omega) ((hi.below I_ya2).up I_ya2.size)).mono ?_
  rintro e ya3 ⟨⟨Ai_ya3, ci_ya3, rfl, hc1_ya3, hc2_ya3, hi_ya3⟩, hya3⟩
  have B_ya3 := ex_trans B_ya2 hya3
  have I_ya3 := ex_trans I_ya2 hya3
  go_wp2_with fail
  refine (Holds_v g _ _ _ _ _ _ _ _ h l _ ((hg_ya1.below (ex_trans hya2 hya3)).up (ex_trans hya2 hya3).size) ((hh_ya2.below hya3).up hya3.size) hi_ya3 low high HIC.out).mono ?_
  rintro e ya4 ⟨⟨ks1, sv1, rfl, HS1⟩, hya4⟩
  have B_ya := ex_trans B_ya3 hya4
  have I_ya := ex_trans I_ya3 hya4
  have X_ya := ex_trans (ex_trans (ex_trans hya1 hya2) hya3) hya4
  clear hg_ya1 hh_ya2 hi_ya3
  replace p1 := p1.below X_ya l1
  clear a0 a1 a2 a3 a4 l1
  have a0 : ya4.cell? ⟨w.heap.size, 0, none⟩ = some (.int .i64 g.base) := p1.cell 0
  have a1 : ya4.cell? ⟨w.heap.size, 1, none⟩ = some (.slice Ab g.bands.length cb) := p1.cell 1
  have a2 : ya4.cell? ⟨w.heap.size, 2, none⟩ = some (.slice Ad g.depths.length cd) := p1.cell 2
  have a3 : ya4.cell? ⟨w.heap.size, 3, none⟩ = some (.int .i64 g.blo) := p1.cell 3
  have a4 : ya4.cell? ⟨w.heap.size, 4, none⟩ = some (.int .i64 g.bhi) := p1.cell 4
  have l1 := p1.lt
  go_wp2_with fail
  refine (icedL_any g _ _ _ _ _ _ _ _ h l _ ((hg.below B_ya).up B_ya.size) ((hh.below B_ya).up B_ya.size) ((hi.below B_ya).up B_ya.size) (by omega)).mono ?_
  rintro e w6 ⟨rfl, hw6⟩
  have B_w6 := ex_trans B_ya hw6
  rw [HIC.out]
  replace p1 := p1.below hw6 l1
  clear a0 a1 a2 a3 a4 l1
  have a0 : w6.cell? ⟨w.heap.size, 0, none⟩ = some (.int .i64 g.base) := p1.cell 0
  have a1 : w6.cell? ⟨w.heap.size, 1, none⟩ = some (.slice Ab g.bands.length cb) := p1.cell 1
  have a2 : w6.cell? ⟨w.heap.size, 2, none⟩ = some (.slice Ad g.depths.length cd) := p1.cell 2
  have a3 : w6.cell? ⟨w.heap.size, 3, none⟩ = some (.int .i64 g.blo) := p1.cell 3
  have a4 : w6.cell? ⟨w.heap.size, 4, none⟩ = some (.int .i64 g.bhi) := p1.cell 4
  have l1 := p1.lt
  go_wp2_with fail
  refine (ZerosR_nil g _ _ _ _ _ _ _ _ h l w6 ((hg.below B_w6).up B_w6.size) ((hh.below B_w6).up B_w6.size) ((hi.below B_w6).up B_w6.size) HK.out HBD.out (by omega)).mono ?_
  rintro e w7 ⟨⟨Az, zs, is, rfl, HZ, hz⟩, hw7⟩
  have B_w7 := ex_trans B_w6 hw7
  have hzl := HZ.out.1
  clear a0 a1 a2 a3 a4 l1 p1
  cases his : is
  · rw [his] at HZ
    have hE : ks1 = 0 ∧ sv1 = 9 := by
      rcases HS1.out with ⟨h1, _⟩ | ⟨_, _, h1, h2⟩ | ⟨_, h1, _⟩
      · omega
      · exact ⟨h1, h2⟩
      · rw [← HZ.out.2.1] at h1; cases h1
    obtain ⟨rfl, rfl⟩ := hE
    go_wp2_with fail
    refine wp_loop (fun a W => Rel (fun a W => W = w7 ∧ ∃ u : Nat → Value, a = ⟨List.toArray (u 0 :: .slice Ah h.length ch :: .slice Ai l.length ci :: .int .i64 low :: .int .i64 high :: .pointer (some ⟨w.heap.size, 0, none⟩) :: u 6 :: u 7 :: u 8 :: u 9 :: u 10 :: .int .i64 0 :: .int .i64 9 :: .int .i64 0 :: .int .i64 0 :: .slice Az h.length h.length :: .bool false :: u 17 :: u 18 :: u 19 :: u 20 :: u 21 :: u 22 :: u 23 :: u 24 :: u 25 :: u 26 :: u 27 :: u 28 :: u 29 :: u 30 :: u 31 :: u 32 :: u 33 :: u 34 :: u 35 :: u 36 :: u 37 :: u 38 :: u 39 :: u 40 :: u 41 :: u 42 :: u 43 :: u 44 :: u 45 :: u 46 :: u 47 :: u 48 :: u 49 :: u 50 :: u 51 :: u 52 :: u 53 :: u 54 :: u 55 :: u 56 :: u 57 :: u 58 :: u 59 :: u 60 :: u 61 :: u 62 :: u 63 :: u 64 :: u 65 :: u 66 :: u 67 :: u 68 :: u 69 :: u 70 :: u 71 :: u 72 :: u 73 :: u 74 :: u 75 :: u 76 :: u 77 :: u 78 :: u 79 :: u 80 :: u 81 :: u 82 :: u 83 :: u 84 :: u 85 :: u 86 :: u 87 :: u 88 :: u 89 :: u 90 :: u 91 :: u 92 :: u 93 :: u 94 :: u 95 :: u 96 :: u 97 :: u 98 :: u 99 :: u 100 :: []), []⟩) a W)
      (fun a _ => 0) ⟨⟨rfl, exFrame (by kernel_rfl)⟩⟩ ?_
    rintro a W ⟨⟨rfl, u, rfl⟩⟩
    have hpos := HK.out.nh.1
    have c1 : decide ((0 : Int) < (h.length : Int)) = true := decide_eq_true (by omega)
    go_wp2_with fail
    go_wp2_with fail
    refine (awake_any _).mono ?_
    rintro e x1 ⟨rfl, hx1⟩
    go_wp2
    go_ret
    exact ⟨rfl, ex_trans B_w7 hx1⟩
  rw [his] at HZ
  have HZS := Lib.hid (HZ.out.2.2 rfl)
  have HHI : Hid (HoldsIs zs low high h.length (.returned (.tuple #[.int .i64 ks1, .int .i64 sv1]))) := Lib.hid (by
    rcases HS1.out with ⟨h1, _⟩ | ⟨_, h1, _⟩ | ⟨_, _, zs', h1, h2⟩
    · omega
    · rw [← HZ.out.2.1] at h1; cases h1
    · rwa [h1.uniq HZS.out] at h2)
  go_wp2_with fail
  refine wp_loop (fun a W => Rel (fun a W => ∃ k : Nat, k ≤ h.length ∧ W = w7 ∧ Hid (∀ i, i < k → heldR zs low high i = true) ∧ ∃ u : Nat → Value, a = ⟨List.toArray (u 0 :: .slice Ah h.length ch :: .slice Ai l.length ci :: .int .i64 low :: .int .i64 high :: .pointer (some ⟨w.heap.size, 0, none⟩) :: u 6 :: u 7 :: u 8 :: u 9 :: u 10 :: .int .i64 ks1 :: .int .i64 sv1 :: .int .i64 0 :: .int .i64 (k : Int) :: .slice Az h.length h.length :: .bool true :: u 17 :: u 18 :: u 19 :: u 20 :: u 21 :: u 22 :: u 23 :: u 24 :: u 25 :: u 26 :: u 27 :: u 28 :: u 29 :: u 30 :: u 31 :: u 32 :: u 33 :: u 34 :: u 35 :: u 36 :: u 37 :: u 38 :: u 39 :: u 40 :: u 41 :: u 42 :: u 43 :: u 44 :: u 45 :: u 46 :: u 47 :: u 48 :: u 49 :: u 50 :: u 51 :: u 52 :: u 53 :: u 54 :: u 55 :: u 56 :: u 57 :: u 58 :: u 59 :: u 60 :: u 61 :: u 62 :: u 63 :: u 64 :: u 65 :: u 66 :: u 67 :: u 68 :: u 69 :: u 70 :: u 71 :: u 72 :: u 73 :: u 74 :: u 75 :: u 76 :: u 77 :: u 78 :: u 79 :: u 80 :: u 81 :: u 82 :: u 83 :: u 84 :: u 85 :: u 86 :: u 87 :: u 88 :: u 89 :: u 90 :: u 91 :: u 92 :: u 93 :: u 94 :: u 95 :: u 96 :: u 97 :: u 98 :: u 99 :: u 100 :: []), []⟩) a W)
    (fun a _ => h.length - (intOf (a.tmps.getD 14 undef)).toNat) ⟨⟨0, by omega, rfl, Lib.hid (fun i hi => by omega), exFrame (by kernel_rfl)⟩⟩ ?_
  rintro a W ⟨⟨k, hk, rfl, HH, u, rfl⟩⟩
  have HOUT : (k < h.length → heldR zs low high k = false) → (k = 0 ∧ ks1 = 0 ∧ sv1 = 10) ∨ (0 < k ∧ ks1 = (k : Int) - 1 ∧ sv1 = 0) := fun hx => holds_end HHI.out hk HH.out hx
  by_cases hlt : k < h.length
  · obtain ⟨bi, oi, rfl, hbi, g0, g1⟩ := IsRgs.at_ hz (by omega : k < zs.length)
    have c1 : decide ((k : Int) < (h.length : Int)) = true := decide_eq_true (by omega)
    by_cases h1 : low ≤ (gR zs k).lo
    · by_cases h2 : (gR zs k).hi ≤ high
      · have HH2 := Lib.hid (show ∀ i, i < k + 1 → heldR zs low high i = true from fun i hi => by
          rcases Nat.lt_succ_iff_lt_or_eq.1 hi with h3 | h3
          · exact HH.out i h3
          · subst h3; exact heldR_iff.2 ⟨h1, h2⟩)
        generalize (gR zs k).lo = lo at *
        generalize (gR zs k).hi = hi' at *
        have d3 : decide (lo ≥ low) = true := decide_eq_true h1
        have d4 : decide (low ≤ lo) = true := decide_eq_true h1
        have d5 : decide (hi' ≤ high) = true := decide_eq_true h2
        clear HOUT
        go_wp2_with fail
        refine ⟨⟨⟨k + 1, by omega, rfl, HH2, exFrame (by kernel_rfl)⟩⟩, ?_⟩
        show h.length - (intOf (.int .i64 ((k : Int) + 1))).toNat < h.length - (intOf (.int .i64 (k : Int))).toNat
        simp [intOf]
        omega
      · have HO := HOUT (fun _ => heldR_f2 h2)
        generalize (gR zs k).lo = lo at *
        generalize (gR zs k).hi = hi' at *
        have d3 : decide (lo ≥ low) = true := decide_eq_true h1
        have d4 : decide (low ≤ lo) = true := decide_eq_true h1
        have d5 : decide (hi' ≤ high) = false := decide_eq_false h2
        clear HOUT
        rcases HO with HO | HO
        · obtain ⟨hk0, rfl, rfl⟩ := HO
          have k1 : ((k : Int) == 0) = true := by simp [hk0]
          have k2 : (k == 0) = true := by simp [hk0]
          have k3 : ((0 : Int) == (k : Int)) = true := by simp [hk0]
          have k4 : (0 == k) = true := by simp [hk0]
          clear hk0
          go_wp2_with fail
          go_wp2_with fail
          refine (awake_any _).mono ?_
          rintro e x1 ⟨rfl, hx1⟩
          go_wp2
          go_ret
          exact ⟨rfl, ex_trans B_w7 hx1⟩
        · obtain ⟨hk0, rfl, rfl⟩ := HO
          have k1 : ((k : Int) == 0) = false := by rw [beq_eq_false_iff_ne]; omega
          have k2 : (k == 0) = false := by rw [beq_eq_false_iff_ne]; omega
          have k3 : IntKind.i64.wrap ((k : Int) - 1) = (k : Int) - 1 := IntWalk.i64_in _ (by omega)
          go_wp2_with fail
          go_wp2_with fail
          refine (awake_any _).mono ?_
          rintro e x1 ⟨rfl, hx1⟩
          go_wp2
          go_ret
          exact ⟨rfl, ex_trans B_w7 hx1⟩
    · have HO := HOUT (fun _ => heldR_f1 h1)
      generalize (gR zs k).lo = lo at *
      have d3 : decide (lo ≥ low) = false := decide_eq_false h1
      have d4 : decide (low ≤ lo) = false := decide_eq_false h1
      clear HOUT
      rcases HO with HO | HO
      · obtain ⟨hk0, rfl, rfl⟩ := HO
        have k1 : ((k : Int) == 0) = true := by simp [hk0]
        have k2 : (k == 0) = true := by simp [hk0]
        have k3 : ((0 : Int) == (k : Int)) = true := by simp [hk0]
        have k4 : (0 == k) = true := by simp [hk0]
        clear hk0
        go_wp2_with fail
        go_wp2_with fail
        refine (awake_any _).mono ?_
        rintro e x1 ⟨rfl, hx1⟩
        go_wp2
        go_ret
        exact ⟨rfl, ex_trans B_w7 hx1⟩
      · obtain ⟨hk0, rfl, rfl⟩ := HO
        have k1 : ((k : Int) == 0) = false := by rw [beq_eq_false_iff_ne]; omega
        have k2 : (k == 0) = false := by rw [beq_eq_false_iff_ne]; omega
        have k3 : IntKind.i64.wrap ((k : Int) - 1) = (k : Int) - 1 := IntWalk.i64_in _ (by omega)
        go_wp2_with fail
        go_wp2_with fail
        refine (awake_any _).mono ?_
        rintro e x1 ⟨rfl, hx1⟩
        go_wp2
        go_ret
        exact ⟨rfl, ex_trans B_w7 hx1⟩
  · have HO := HOUT (fun hx => absurd hx hlt)
    have hkE : k = h.length := by omega
    clear HOUT
    rcases HO with HO | HO
    · obtain ⟨hk0, rfl, rfl⟩ := HO
      exact absurd HK.out.nh.1 (by omega)
    · obtain ⟨hk0, rfl, rfl⟩ := HO
      have k1 : ((k : Int) == 0) = false := by rw [beq_eq_false_iff_ne]; omega
      have k2 : (k == 0) = false := by rw [beq_eq_false_iff_ne]; omega
      have k3 : IntKind.i64.wrap ((k : Int) - 1) = (k : Int) - 1 := IntWalk.i64_in _ (by omega)
      go_wp2_with fail
      go_wp2_with fail
      refine (awake_any _).mono ?_
      rintro e x1 ⟨rfl, hx1⟩
      go_wp2
      go_ret
      exact ⟨rfl, ex_trans B_w7 hx1⟩

set_option maxRecDepth 100000 in
set_option maxHeartbeats 6400000 in
theorem HoldsLaw_any (g : Gl) (Ab Ad Ah Ai : Option Addr) (cb cd ch ci : Nat) (h : List Rg) (l : List Ic) (w : World) (hg : GlIn w w.heap.size g Ab Ad) (hh : SlAt w w.heap.size 2 Ah h.length (fR h)) (hi : SlAt w w.heap.size 3 Ai l.length (fC l)) (low high : Int) :
    Calls Try.prog 4 #[.agg #[.int .i64 g.base, .slice Ab g.bands.length cb, .slice Ad g.depths.length cd, .int .i64 g.blo, .int .i64 g.bhi], .slice Ah h.length ch, .slice Ai l.length ci, .int .i64 low, .int .i64 high] w fun e w' => e = .returned (.bool true) ∧ Below w.heap.size w w' := by
  cases hth : thinB g.bands.length g.depths.length h.length l.length
  · exact Holds_far g Ab Ad Ah Ai cb cd ch ci h l w hg hh hi low high hth
  · by_cases heq : iced g h l = 0
    · by_cases hlh : low ≤ high
      · exact HoldsLaw_in g Ab Ad Ah Ai cb cd ch ci h l w hg hh hi low high hth heq hlh
      · exact HoldsLaw_out g Ab Ad Ah Ai cb cd ch ci h l w hg hh hi low high hth heq (by omega)
    · exact HoldsLaw_bad g Ab Ad Ah Ai cb cd ch ci h l w hg hh hi low high hth heq
end Go.Proofs.Ytlgmeofpkfliaaa
end
