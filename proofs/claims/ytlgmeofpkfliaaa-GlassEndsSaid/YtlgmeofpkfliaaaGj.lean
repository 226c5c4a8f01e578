/- Glass: paths through the days (plain). · The laws GlassEnds, GlassLonger, GlassAlone (plain). · append of any slice, at the list of a region's operations. -/
import Derived.Test.YtlgmeofpkfliaaaGi
import Derived.Test.YtlgmeofpkfliaaaGd
import Derived.Test.YtlgmeofpkfliaaaGg
set_option linter.unusedVariables false
set_option linter.unusedSimpArgs false
set_option linter.unusedSectionVars false
section
namespace Go.Proofs.Ytlgmeofpkfliaaa

/-- a way through so many days. -/
def Path (g : Gl) (h : List Rg) (σ : Nat → St) (n : Nat) : Prop := σ 0 = (0, 0) ∧ ∀ d, d < n → Step g h d (σ d) (σ (d + 1))
/-- all ices but some are true on it. -/
def Fits (g : Gl) (l : List Ic) (o : Nat → Bool) (σ : Nat → St) (n : Nat) : Prop := ∀ d, d < n → fitsB l o (d : Int) (zero g (σ (d + 1))) = true

theorem Path.to {g : Gl} {h : List Rg} {σ : Nat → St} {n m : Nat} (p : Path g h σ n) (hm : m ≤ n) : Path g h σ m := ⟨p.1, fun d hd => p.2 d (by omega)⟩
theorem Fits.to {g : Gl} {l : List Ic} {o : Nat → Bool} {σ : Nat → St} {n m : Nat} (p : Fits g l o σ n) (hm : m ≤ n) : Fits g l o σ m := fun d hd => p d (by omega)

section
variable {g : Gl} {h : List Rg} {l : List Ic} {o : Nat → Bool}
theorem can_iff (hok : Ok g h) : ∀ {d : Nat} {s : St}, d ≤ h.length → (Can g h l o d s ↔ ∃ σ, Path g h σ d ∧ Fits g l o σ d ∧ σ d = s)
  | 0, s, _ => by
    constructor
    · intro hs
      have hs' : s = (0, 0) := hs
      exact ⟨fun _ => (0, 0), ⟨rfl, fun d hd => by omega⟩, fun d hd => by omega, hs'.symm⟩
    · rintro ⟨σ, p, _, rfl⟩
      exact p.1
  | d + 1, t, hd => by
    constructor
    · rintro ⟨s, h1, h2, h3⟩
      obtain ⟨σ, p, f, e⟩ := (can_iff hok (by omega)).1 h1
      refine ⟨fun j => if j ≤ d then σ j else t, ⟨by simpa using p.1, fun j hj => ?_⟩, fun j hj => ?_, if_neg (by omega)⟩
      · rcases Nat.lt_succ_iff_lt_or_eq.1 hj with hj | hj
        · simp only [show j ≤ d by omega, show j + 1 ≤ d by omega, if_true]
          exact p.2 j hj
        · subst hj
          simp only [Nat.le_refl, if_true, show ¬ (j + 1 ≤ j) by omega, if_false]
          rw [e]; exact (mem_nextL hok (by omega)).1 h2
      · rcases Nat.lt_succ_iff_lt_or_eq.1 hj with hj | hj
        · simp only [show j + 1 ≤ d by omega, if_true]
          exact f j hj
        · subst hj
          simp only [show ¬ (j + 1 ≤ j) by omega, if_false]
          exact h3
    · rintro ⟨σ, p, f, rfl⟩
      exact ⟨σ d, (can_iff hok (by omega)).2 ⟨σ, p.to (by omega), f.to (by omega), rfl⟩, (mem_nextL hok (by omega)).2 (p.2 d (by omega)), f d (by omega)⟩
theorem goes_can : ∀ {k d : Nat} {s : St}, Goes g h l o k d s → Can g h l o d s
  | 0, _, _, h => h
  | _ + 1, _, _, h => h.1
theorem goes_iff (hok : Ok g h) : ∀ {k d : Nat} {s : St}, d + k ≤ h.length → (Goes g h l o k d s ↔ ∃ σ, Path g h σ (d + k) ∧ Fits g l o σ (d + k) ∧ σ d = s)
  | 0, d, s, hd => can_iff hok hd
  | k + 1, d, s, hd => by
    constructor
    · rintro ⟨h1, t, h2, h3⟩
      obtain ⟨σ, p, f, e⟩ := (can_iff hok (by omega)).1 h1
      obtain ⟨τ, q, f2, e2⟩ := (goes_iff hok (show d + 1 + k ≤ h.length by omega)).1 h3
      refine ⟨fun j => if j ≤ d then σ j else τ j, ⟨by simpa using p.1, fun j hj => ?_⟩, fun j hj => ?_, by simp [e]⟩
      · rcases Nat.lt_trichotomy j d with hj' | hj' | hj'
        · simp only [show j ≤ d by omega, show j + 1 ≤ d by omega, if_true]
          exact p.2 j hj'
        · subst hj'
          simp only [Nat.le_refl, if_true, show ¬ (j + 1 ≤ j) by omega, if_false]
          rw [e, e2]; exact (mem_nextL hok (by omega)).1 h2
        · simp only [show ¬ (j ≤ d) by omega, show ¬ (j + 1 ≤ d) by omega, if_false]
          exact q.2 j (by omega)
      · by_cases hj' : j < d
        · simp only [show j + 1 ≤ d by omega, if_true]
          exact f j hj'
        · simp only [show ¬ (j + 1 ≤ d) by omega, if_false]
          exact f2 j (by omega)
    · rintro ⟨σ, p, f, rfl⟩
      refine ⟨(can_iff hok (by omega)).2 ⟨σ, p.to (by omega), f.to (by omega), rfl⟩, σ (d + 1), (mem_nextL hok (by omega)).2 (p.2 d (by omega)), (goes_iff hok (by omega)).2 ⟨σ, p.to (by omega), f.to (by omega), rfl⟩⟩
theorem agree_iff (hok : Ok g h) : agreeB g h l o = true ↔ ∃ σ, Path g h σ h.length ∧ Fits g l o σ h.length := by
  rw [agreeB_iff]
  constructor
  · rintro ⟨s, hs⟩
    obtain ⟨σ, p, f, _⟩ := (can_iff hok (Nat.le_refl _)).1 hs
    exact ⟨σ, p, f⟩
  · rintro ⟨σ, p, f⟩
    exact ⟨_, (can_iff hok (Nat.le_refl _)).2 ⟨σ, p, f, rfl⟩⟩
/-- the zeros of a day on all ways. -/
def ZAt (g : Gl) (h : List Rg) (l : List Ic) (i : Nat) (z : Int) : Prop := ∃ σ, Path g h σ h.length ∧ Fits g l off0 σ h.length ∧ z = zero g (σ (i + 1))
theorem zat_iff (hok : Ok g h) {i : Nat} (hi : i < h.length) {z : Int} : (∃ s, Goes g h l off0 (h.length - 1 - i) (i + 1) s ∧ z = zero g s) ↔ ZAt g h l i z := by
  have e : i + 1 + (h.length - 1 - i) = h.length := by omega
  constructor
  · rintro ⟨s, hs, rfl⟩
    obtain ⟨σ, p, f, rfl⟩ := (goes_iff hok (by omega)).1 hs
    rw [e] at p f
    exact ⟨σ, p, f, rfl⟩
  · rintro ⟨σ, p, f, rfl⟩
    exact ⟨_, (goes_iff hok (by omega)).2 ⟨σ, by rwa [e], by rwa [e], rfl⟩, rfl⟩
theorem zs_iff (hok : Ok g h) {zs : List Rg} : ZsOf g h l zs ↔ zs.length = h.length ∧ ∀ i, i < h.length → EndsOf (ZAt g h l i) (gR zs i).lo (gR zs i).hi := by
  unfold ZsOf
  refine and_congr_right fun _ => forall_congr' fun i => forall_congr' fun hi => ?_
  have : (fun z => ∃ s, Goes g h l off0 (h.length - 1 - i) (i + 1) s ∧ z = zero g s) = ZAt g h l i := funext fun z => propext (zat_iff hok hi)
  rw [this]
theorem path_st {t1 t2 t3 : List Int} (ht : truthB g h t1 t2 t3 = true) : Path g h (stAt g t1 t2 t3) h.length := ⟨rfl, fun d hd => step_st ((truthB_iff.1 ht).2 d hd)⟩

theorem gC_app {c : Ic} {j : Nat} (hj : j < l.length) : gC (l ++ [c]) j = gC l j := by simp [gC, List.getElem?_append, hj]
theorem gC_end {c : Ic} : gC (l ++ [c]) l.length = c := by simp [gC]
theorem fitOk_app {c : Ic} {d z : Int} {j : Nat} (hj : j < l.length) : fitOk (l ++ [c]) o d z j = fitOk l o d z j := by unfold fitOk; rw [gC_app hj]
theorem fits_app {c : Ic} {d z : Int} (ho : o l.length = false) : fitsB (l ++ [c]) o d z = true ↔ fitsB l o d z = true ∧ (c.day = d → -c.err ≤ z - c.zero ∧ z - c.zero ≤ c.err) := by
  unfold fitsB
  rw [allTo_iff, allTo_iff, List.length_append, List.length_singleton]
  constructor
  · intro h1
    refine ⟨fun k hk => by rw [← fitOk_app hk]; exact h1 k (by omega), fun hd => ?_⟩
    have := h1 l.length (by omega)
    unfold fitOk at this
    rw [gC_end, ho, hd] at this
    simpa [inB_iff] using this
  · rintro ⟨h1, h2⟩ k hk
    rcases Nat.lt_succ_iff_lt_or_eq.1 hk with hk | hk
    · rw [fitOk_app hk]; exact h1 k hk
    · subst hk
      unfold fitOk
      rw [gC_end, ho]
      by_cases hd : c.day = d
      · simp [hd, inB_iff.2 (h2 hd)]
      · simp [hd]
end
end Go.Proofs.Ytlgmeofpkfliaaa
end

section
namespace Go.Proofs.Ytlgmeofpkfliaaa

section
variable {g : Gl} {h : List Rg} {l : List Ic}
theorem path_bd (hok : Ok g h) {σ : Nat → St} {n : Nat} (p : Path g h σ n) : ∀ {d : Nat}, d ≤ n → (0 ≤ (σ d).1 ∧ (σ d).1 ≤ 3 * d) ∧ (0 ≤ (σ d).2 ∧ (σ d).2 ≤ 30)
  | 0, _ => by rw [p.1]; simp
  | d + 1, hd => by
    obtain ⟨h1, h2⟩ := path_bd hok p (d := d) (by omega)
    obtain ⟨x, b, c, hx, hb, hc, he⟩ := p.2 d (by omega)
    have k1 := hok.creep d
    have k2 := hok.back
    have k3 := hok.sinks x
    have k4 := mx3_bd ((σ d).2 - b) 0 (sinks g x)
    rw [he]
    simp only
    omega
theorem zat_bd (hok : Ok g h) {i : Nat} (hi : i < h.length) {z : Int} (hz : ZAt g h l i z) : -2000 ≤ z ∧ z ≤ 2000 := by
  obtain ⟨σ, p, _, rfl⟩ := hz
  have h1 := path_bd hok p (d := i + 1) (by omega)
  have h2 := hok.base
  have h3 := hok.nh
  unfold zero
  omega
/-- an ice more that says an end of a day's range. -/
theorem ends_agree (hok : Ok g h) {zs : List Rg} (hz : ZsOf g h l zs) {d : Nat} (hd : d < h.length) {z : Int} (he : z = (gR zs d).lo ∨ z = (gR zs d).hi) : agreeB g h (l ++ [⟨(d : Int), z, 0⟩]) off0 = true := by
  have hE := ((zs_iff hok).1 hz).2 d hd
  have hZ : ZAt g h l d z := by
    rcases he with rfl | rfl
    · exact hE.1
    · exact hE.2.1
  obtain ⟨σ, p, f, hzs⟩ := hZ
  refine (agree_iff hok).2 ⟨σ, p, fun j hj => (fits_app rfl).2 ⟨f j hj, fun hdj => ?_⟩⟩
  have : d = j := by have hd' : ((d : Nat) : Int) = (j : Int) := hdj; omega
  subst this
  simp only
  omega
/-- one that says a zero beyond it. -/
theorem ends_false (hok : Ok g h) {zs : List Rg} (hz : ZsOf g h l zs) {d : Nat} (hd : d < h.length) {z : Int} (he : z < (gR zs d).lo ∨ (gR zs d).hi < z) : agreeB g h (l ++ [⟨(d : Int), z, 0⟩]) off0 = false := by
  cases ha : agreeB g h (l ++ [⟨(d : Int), z, 0⟩]) off0
  · rfl
  · obtain ⟨σ, p, f⟩ := (agree_iff hok).1 ha
    have hE := ((zs_iff hok).1 hz).2 d hd
    have h1 := hE.2.2 (zero g (σ (d + 1))) ⟨σ, p, fun j hj => ((fits_app rfl).1 (f j hj)).1, rfl⟩
    have h2 := ((fits_app (c := ⟨(d : Int), z, 0⟩) rfl).1 (f d hd)).2 rfl
    simp only at h2
    omega
theorem take_app {c : Ic} {j : Nat} (hj : j < l.length) : (l ++ [c]).take (j + 1) = l.take (j + 1) := by rw [List.take_append_of_le_length (by omega)]
theorem take_all {c : Ic} : (l ++ [c]).take (l.length + 1) = l ++ [c] := List.take_of_length_le (by simp)
theorem shows_agree {h : List Rg} {l : List Ic} (ha : agreeB g h l off0 = true) (hp : ∀ j, j < l.length → agreeB g h (l.take (j + 1)) off0 = true) {e : Ending} (he : ShowsIs (fun j => agreeB g h (l.take (j + 1)) off0) l.length e) : e = .returned (.tuple #[.int .i64 0, .int .i64 7]) := by
  rcases he with ⟨k, hk, _, h2, _⟩ | ⟨_, h2⟩
  · have := hp k hk
    rw [show (fun j => agreeB g h (l.take (j + 1)) off0) k = agreeB g h (l.take (k + 1)) off0 from rfl, this] at h2
    cases h2
  · exact h2
theorem shows_more {c : Ic} (hp : ∀ j, j < l.length → agreeB g h (l.take (j + 1)) off0 = true) (ha : agreeB g h (l ++ [c]) off0 = false) {e : Ending} (he : ShowsIs (fun j => agreeB g h ((l ++ [c]).take (j + 1)) off0) (l ++ [c]).length e) : e = .returned (.tuple #[.int .i64 (l.length : Int), .int .i64 0]) := by
  rcases he with ⟨k, hk, _, h2, h3⟩ | ⟨h1, _⟩
  · rw [List.length_append, List.length_singleton] at hk
    rcases Nat.lt_succ_iff_lt_or_eq.1 hk with hk | hk
    · have := hp k hk
      rw [show (fun j => agreeB g h ((l ++ [c]).take (j + 1)) off0) k = agreeB g h ((l ++ [c]).take (k + 1)) off0 from rfl, take_app hk, this] at h2
      cases h2
    · subst hk; exact h3
  · have := h1 l.length (by simp)
    rw [show (fun j => agreeB g h ((l ++ [c]).take (j + 1)) off0) l.length = agreeB g h ((l ++ [c]).take (l.length + 1)) off0 from rfl, take_all, ha] at this
    cases this
theorem shows_more' {c : Ic} (hp : ∀ j, j < l.length → agreeB g h (l.take (j + 1)) off0 = true) (ha : agreeB g h (l ++ [c]) off0 = true) {e : Ending} (he : ShowsIs (fun j => agreeB g h ((l ++ [c]).take (j + 1)) off0) (l ++ [c]).length e) : e = .returned (.tuple #[.int .i64 0, .int .i64 7]) := by
  refine shows_agree ha (fun j hj => ?_) he
  rw [List.length_append, List.length_singleton] at hj
  rcases Nat.lt_succ_iff_lt_or_eq.1 hj with hj | hj
  · rw [take_app hj]; exact hp j hj
  · subst hj; rw [take_all]; exact ha

/-- the least and the greatest zeros, without ices. -/
theorem mx3_mono {a b x y : Int} (h1 : a ≤ b) (h2 : x ≤ y) : mx3 a 0 x ≤ mx3 b 0 y := by
  have := mx3_bd a 0 x
  have := mx3_bd b 0 y
  omega
theorem sinks_mono (hok : Ok g h) {x y : Int} (hxy : x ≤ y) : sinks g x ≤ sinks g y := by
  have key : ∀ k, k ≤ g.depths.length → sinksTo g.depths x k ≤ sinksTo g.depths y k ∧ sinksTo g.depths y k ≤ (if k = 0 then 0 else (gD g.depths (k - 1)).sink) := by
    intro k
    induction k with
    | zero => intro _; simp [sinksTo]
    | succ k ih =>
      intro hk
      obtain ⟨h1, h2⟩ := ih (by omega)
      have h3 : (if k = 0 then (0 : Int) else (gD g.depths (k - 1)).sink) ≤ (gD g.depths k).sink := by
        split
        · have := hok.depths k (by omega)
          unfold deepOk at this
          simp only [Bool.and_eq_true] at this
          exact (inB_iff.1 this.2.1).1
        · exact (deep_inc hok (by omega) (by omega)).2
      simp only [sinksTo, Nat.add_sub_cancel, show ¬ (k + 1 = 0) by omega, if_false]
      by_cases c1 : (gD g.depths k).from_ ≤ x
      · rw [if_pos c1, if_pos (by omega)]; omega
      · rw [if_neg c1]
        split <;> omega
  exact (key _ (Nat.le_refl _)).1
end

/-- the truth of the ends. -/
def endT (g : Gl) (h : List Rg) (high : Bool) : List Int × List Int × List Int :=
  ((List.range h.length).map (fun d => if high then (gR h d).lo else (gR h d).hi), (List.range h.length).map (fun d => if high then (creep g d).hi else (creep g d).lo), (List.range h.length).map (fun _ => if high then g.bhi else g.blo))
theorem gI_map {f : Nat → Int} {n d : Nat} (hd : d < n) : gI ((List.range n).map f) d = f d := by simp [gI, hd]
section
variable {g : Gl} {h : List Rg}
theorem endT_ok (hok : Ok g h) (b : Bool) : truthB g h (endT g h b).1 (endT g h b).2.1 (endT g h b).2.2 = true := by
  refine truthB_iff.2 ⟨by simp [endT], fun d hd => dayOk_iff.2 ?_⟩
  have h1 := hok.heats d hd
  have h2 := hok.creep d
  have h3 := hok.back
  simp only [endT, gI_map hd]
  cases b <;> simp <;> omega
theorem end_low (hok : Ok g h) {σ : Nat → St} {n : Nat} (hn : n ≤ h.length) (p : Path g h σ n) : ∀ {d : Nat}, d ≤ n → riseTo (endT g h false).2.1 d ≤ (σ d).1 ∧ (σ d).2 ≤ sinkTo g (endT g h false).1 (endT g h false).2.2 d
  | 0, _ => by rw [p.1]; simp [riseTo, sinkTo]
  | d + 1, hd => by
    obtain ⟨h1, h2⟩ := end_low hok hn p (d := d) (by omega)
    obtain ⟨x, b, c, hx, hb, hc, he⟩ := p.2 d (by omega)
    rw [he, riseTo, sinkTo]
    have e1 : gI (endT g h false).2.1 d = (creep g d).lo := by simp only [endT, gI_map (show d < h.length by omega)]; simp
    have e2 : gI (endT g h false).1 d = (gR h d).hi := by simp only [endT, gI_map (show d < h.length by omega)]; simp
    have e3 : gI (endT g h false).2.2 d = g.blo := by simp only [endT, gI_map (show d < h.length by omega)]; simp
    rw [e1, e2, e3]
    exact ⟨by simp only; omega, mx3_mono (by omega) (sinks_mono hok hx.2)⟩
theorem end_high (hok : Ok g h) {σ : Nat → St} {n : Nat} (hn : n ≤ h.length) (p : Path g h σ n) : ∀ {d : Nat}, d ≤ n → (σ d).1 ≤ riseTo (endT g h true).2.1 d ∧ sinkTo g (endT g h true).1 (endT g h true).2.2 d ≤ (σ d).2
  | 0, _ => by rw [p.1]; simp [riseTo, sinkTo]
  | d + 1, hd => by
    obtain ⟨h1, h2⟩ := end_high hok hn p (d := d) (by omega)
    obtain ⟨x, b, c, hx, hb, hc, he⟩ := p.2 d (by omega)
    rw [he, riseTo, sinkTo]
    have e1 : gI (endT g h true).2.1 d = (creep g d).hi := by simp only [endT, gI_map (show d < h.length by omega)]; simp
    have e2 : gI (endT g h true).1 d = (gR h d).lo := by simp only [endT, gI_map (show d < h.length by omega)]; simp
    have e3 : gI (endT g h true).2.2 d = g.bhi := by simp only [endT, gI_map (show d < h.length by omega)]; simp
    rw [e1, e2, e3]
    exact ⟨by simp only; omega, mx3_mono (by omega) (sinks_mono hok hx.1)⟩
theorem fits_nil {d z : Int} {o : Nat → Bool} : fitsB [] o d z = true := rfl
theorem ends_alone (hok : Ok g h) {zs : List Rg} (hz : ZsOf g h [] zs) {d : Nat} (hd : d < h.length) :
    (gR zs d).lo = gI (playTo g (endT g h false).1 (endT g h false).2.1 (endT g h false).2.2 h.length) d ∧ (gR zs d).hi = gI (playTo g (endT g h true).1 (endT g h true).2.1 (endT g h true).2.2 h.length) d := by
  have hE := ((zs_iff hok).1 hz).2 d hd
  rw [gI_play hd, gI_play hd]
  have z1 : ZAt g h [] d (zAt g (endT g h false).1 (endT g h false).2.1 (endT g h false).2.2 d) := ⟨_, path_st (endT_ok hok false), fun _ _ => fits_nil, rfl⟩
  have z2 : ZAt g h [] d (zAt g (endT g h true).1 (endT g h true).2.1 (endT g h true).2.2 d) := ⟨_, path_st (endT_ok hok true), fun _ _ => fits_nil, rfl⟩
  have h1 := hE.2.2 _ z1
  have h2 := hE.2.2 _ z2
  obtain ⟨σ, p, _, e1⟩ := hE.1
  obtain ⟨τ, q, _, e2⟩ := hE.2.1
  have h3 := end_low hok (Nat.le_refl _) p (d := d + 1) (by omega)
  have h4 := end_high hok (Nat.le_refl _) q (d := d + 1) (by omega)
  unfold zero at e1 e2
  unfold zAt at *
  omega
end
end Go.Proofs.Ytlgmeofpkfliaaa
end

section
namespace Go.Proofs.Ytlgmeofpkfliaaa
open Go.RowKit

theorem news_of {α : Type} {f : α → List Value} {sz : Nat} (hsz : 0 < sz) (hf : ∀ a, (f a).length = sz) {F : Nat → Nat → Value} {l : List α} (hF : ∀ (k : Nat) (hk : k < l.length) (j : Nat), j < sz → (f l[k])[j]? = some (F k j)) {w : World} {b off : Nat}
    (hc : ∀ k j, k < l.length → j < sz → w.cell? ⟨b, off + k * sz + j, none⟩ = some (F k j)) : ∀ j u, (l.flatMap f)[j]? = some u → w.cell? ((⟨b, off, none⟩ : Addr).add j) = some u := by
  intro j u hu
  have hlen : (l.flatMap f).length = l.length * sz := by
    clear hF hc hu
    induction l with
    | nil => simp
    | cons a l ih => rw [List.flatMap_cons, List.length_append, hf, ih, List.length_cons, Nat.add_mul, Nat.one_mul, Nat.add_comm]
  have hj : j < l.length * sz := by
    have := (List.getElem?_eq_some_iff.1 hu).1
    rwa [hlen] at this
  have hk : j / sz < l.length := (Nat.div_lt_iff_lt_mul hsz).2 hj
  have hr : j % sz < sz := Nat.mod_lt _ hsz
  have e : j = j / sz * sz + j % sz := by have := Nat.div_add_mod j sz; rw [Nat.mul_comm] at this; omega
  have h1 := (flat_get hf hk hr).trans (hF _ hk _ hr)
  rw [← e, hu] at h1
  injection h1 with h1
  rw [Addr.add_lit, h1, ← hc _ _ hk hr]
  congr 2
  omega

section
variable {P : Program}
theorem wpList_append_nothing {ops : Array Oper} {rest : List Oper} {o : Oper} {a : Act} {Q : Exit → Act → World → Prop} (w : World) (hg : o.guard = none) (s x : Operand) (t e : TypeId) (i : TypeInfo)
    (hop : o.op = .call { callee := .builtin .append, args := #[s, x], argTypes := #[t, t] }) (ht : P.underlying t = some (.slice e)) (hi : P.info? e = some i) (B A : Option Addr) (n k c : Nat) (hle : n ≤ k)
    (hs : a.eval s = .slice B n k) (hx : a.eval x = .slice A 0 c) (hK : wpList P ops Q rest (a.put o.dst (.slice B n k)) w) : wpList P ops Q (o :: rest) a w := by
  refine wpList_plain hg fun K hK' => ?_
  have hrun : (Builtin.append_ #[t, t] o.type #[.slice B n k, .slice A 0 c]).run P w = .ok (.slice B n k) w := by
    cases A <;> cases B <;> simp [Builtin.append_, run_underlying ht, sizeOf, typeInfo, hi, Builtin.lenOf, Builtin.firstCells, loadCells, loadCellsFrom, storeCells, hle]
  unfold Oper.wp
  simp [execOp, hop, resolve, invoke, builtin, hs, hx, hrun, Result.andThen]
  exact hK' _ _ hK
theorem own_cap {w : World} {base : Nat} {e : TypeId} {sz n k : Nat} {B : Option Addr} {xs : List Value} (h : w.ownsRow base e sz (.slice B n k) n xs) : n ≤ k := by
  rcases h.2 with ⟨h1, h2⟩ | ⟨g, cap, cur, h1, _, _, h2, _⟩
  · injection h1 with h1 h3 h4; omega
  · injection h1 with h1 h3 h4; omega
theorem wpList_append_all {ops : Array Oper} {rest : List Oper} {o : Oper} {a : Act} {w : World} {Q : Exit → Act → World → Prop} (hgd : o.guard = none) (s x : Operand) (t : TypeId)
    (ho : o.op = .call { callee := .builtin .append, args := #[s, x], argTypes := #[t, t] })
    (base : Nat) (e : TypeId) (i : TypeInfo) (z : Value) (size bytes : Nat) (ht : P.underlying t = some (.slice e)) (hi : P.info? e = some i) (hz : i.zero = some z)
    (hsize : i.size = size) (hby : i.bytes = bytes) (hzs : z.cells.size = size) (hsz : 0 < size)
    (B : Option Addr) (n k : Nat) (xs : List Value) (hs : a.eval s = .slice B n k) (hown : w.ownsRow base e size (.slice B n k) n xs)
    (A : Option Addr) (m c : Nat) (news : List Value) (hx : a.eval x = .slice A m c) (hl : news.length = m * size) (hA : 0 < m → ∃ b off, A = some ⟨b, off, none⟩ ∧ ∀ j u, news[j]? = some u → w.cell? ((⟨b, off, none⟩ : Addr).add j) = some u) (h1 : ∀ u ∈ news, u.oneCell' = true)
    (h63 : n + m ≤ maxLen) (hbytes : (n + m) * bytes ≤ 140737488355328) (hbase : base ≤ w.heap.size) (H : Nat) (hH : w.heap.size = H)
    (h : ∀ B' k' w', w'.ownsRow base e size (.slice B' (n + m) k') (n + m) (xs ++ news) → w.grownBy w' (Value.slice B n k).ownBlock → (∀ g, (Value.slice B' (n + m) k').ownBlock = some g → (Value.slice B n k).ownBlock = some g ∨ g = H) → wpList P ops Q rest (a.put o.dst (.slice B' (n + m) k')) w') : wpList P ops Q (o :: rest) a w := by
  rcases Nat.eq_zero_or_pos m with h0 | h0
  · subst h0
    have hn : news = [] := List.eq_nil_of_length_eq_zero (by simpa using hl)
    subst hn
    have hcap := own_cap hown
    refine wpList_append_nothing w hgd s x t e i ho ht hi B A n k c hcap hs hx ?_
    exact h B k w (by simpa using hown) (World.grownBy.refl _ _) (fun g hg => .inl (by simpa using hg))
  · obtain ⟨b, off, rfl, hnews⟩ := hA h0
    exact wpList_append_lies w hgd s x t ho base e i z size bytes ht hi hz hsize hby hzs hsz _ n xs hs hown ⟨b, off, none⟩ m c news hx hl hnews h1 h0 h63 hbytes hbase H hH
      (fun g cap w' h2 h3 h4 _ => h _ _ w' h2 h3 (fun g' hg => by
        have : g = g' := by simpa [Value.ownBlock] using hg
        subst this; exact h4))
theorem one_at {w : World} {g sz : Nat} {t : TypeId} {cs : Array Value} {F : Nat → Nat → Value} (hb : Blk w g t cs) (h : ∀ j, j < sz → cs[j]? = some (F 0 j)) : SlAt w w.heap.size sz (some ⟨g, 0, none⟩) 1 F := fun _ => ⟨g, 0, rfl, hb.lt, fun k j hk hj => by
  obtain rfl : k = 0 := by omega
  rw [cell_of_row _ _ _ _ _ _ hb]
  simpa using h j hj⟩
/-- append of a list to a list that the call owns: the new list stands behind a name. -/
theorem wpList_append_list {ops : Array Oper} {rest : List Oper} {o : Oper} {a : Act} {w : World} {Q : Exit → Act → World → Prop} {α : Type} {f : α → List Value} {F : List α → Nat → Nat → Value} {sz : Nat} (hf : ∀ a, (f a).length = sz)
    (hF : ∀ (l : List α) (k : Nat) (hk : k < l.length) (j : Nat), j < sz → (f l[k])[j]? = some (F l k j)) (h1 : ∀ a u, u ∈ f a → u.oneCell' = true) (hgd : o.guard = none) (s x : Operand) (t : TypeId)
    (ho : o.op = .call { callee := .builtin .append, args := #[s, x], argTypes := #[t, t] })
    (base : Nat) (e : TypeId) (i : TypeInfo) (z : Value) (bytes : Nat) (ht : P.underlying t = some (.slice e)) (hi : P.info? e = some i) (hz : i.zero = some z)
    (hsize : i.size = sz) (hby : i.bytes = bytes) (hzs : z.cells.size = sz) (hsz : 0 < sz)
    (B : Option Addr) (k : Nat) (xs : List α) (hs : a.eval s = .slice B xs.length k) (hown : w.ownsRow base e sz (.slice B xs.length k) xs.length (xs.flatMap f))
    (A : Option Addr) (c : Nat) (ys : List α) (hx : a.eval x = .slice A ys.length c) (hA : SlAt w w.heap.size sz A ys.length (F ys))
    (h63 : xs.length + ys.length ≤ maxLen) (hbytes : (xs.length + ys.length) * bytes ≤ 140737488355328) (hbase : base ≤ w.heap.size) (H : Nat) (hH : w.heap.size = H)
    (h : ∀ L B' k' w', Hid (L = xs ++ ys) → w'.ownsRow base e sz (.slice B' L.length k') L.length (L.flatMap f) → w.grownBy w' (Value.slice B xs.length k).ownBlock → (∀ g, (Value.slice B' L.length k').ownBlock = some g → (Value.slice B xs.length k).ownBlock = some g ∨ g = H) → wpList P ops Q rest (a.put o.dst (.slice B' L.length k')) w') : wpList P ops Q (o :: rest) a w := by
  have hlen : (ys.flatMap f).length = ys.length * sz := by
    clear hA hx hbytes h63 h
    induction ys with
    | nil => simp
    | cons a l ih => rw [List.flatMap_cons, List.length_append, hf, ih, List.length_cons, Nat.add_mul, Nat.one_mul, Nat.add_comm]
  refine wpList_append_all hgd s x t ho base e i z sz bytes ht hi hz hsize hby hzs hsz B xs.length k _ hs hown A ys.length c (ys.flatMap f) hx hlen (fun h0 => ?_) (fun u hu => by obtain ⟨a, _, ha⟩ := List.mem_flatMap.1 hu; exact h1 a u ha) h63 hbytes hbase H hH (fun B' k' w' g1 g2 g3 => ?_)
  · obtain ⟨b, off, rfl, _, hc⟩ := hA h0
    exact ⟨b, off, rfl, news_of hsz hf (hF ys) (fun k j hk hj => by rw [Nat.add_assoc]; exact hc k j hk hj)⟩
  · have e1 : (xs ++ ys).length = xs.length + ys.length := List.length_append
    have := h (xs ++ ys) B' k' w' (Lib.hid rfl) (by rw [e1, List.flatMap_append]; exact g1) g2 (by rw [e1]; exact g3)
    rwa [e1] at this
theorem own_empty {w : World} {base g : Nat} {e : TypeId} {sz : Nat} (hb : Blk w g e #[]) (hg : base ≤ g) : w.ownsRow base e sz (.slice (some ⟨g, 0, none⟩) 0 0) 0 [] :=
  ⟨by simp, .inr ⟨g, 0, #[], rfl, hg, hb, Nat.le_refl _, by unfold maxLen; omega, by simp, by simp⟩⟩
end
end Go.Proofs.Ytlgmeofpkfliaaa
end
