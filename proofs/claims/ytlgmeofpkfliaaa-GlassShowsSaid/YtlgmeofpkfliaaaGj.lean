/- Glass: paths through the days (plain). · The laws GlassEnds, GlassLonger, GlassAlone (plain). · append of any slice, at the list of a region's operations. · The law GlassHigher (plain): all higher by one number. · Fewest (plain): the lists that are tried. · Zeros, Shows, Fewest, Blame in one form each: what they tell stands behind a fact that is looked at last. · A cell of a row that the call owns is written. · The law's within, where it holds (walk). · The reference's Has (walk). · The reference's Of (walk). · The law GlassMore (plain): one ice more, or read no worse. · The law GlassFalse (plain): all ices but some are true in a truth. · A region that draws its order, gone through as a tree: where two loud operations may come in either order, both ways are walked (after XMX and XMF). -/
import Derived.Test.YtlgmeofpkfliaaaGi
import Derived.Test.YtlgmeofpkfliaaaGd
import Derived.Test.YtlgmeofpkfliaaaGg
import Derived.Test.YtlgmeofpkfliaaaGf
import Derived.Test.YtlgmeofpkfliaaaGh
set_option linter.unusedVariables false
set_option linter.unusedSimpArgs false
set_option linter.unusedSectionVars false
section
namespace Go.Proofs.Ytlgmeofpkfliaaa

/-- a way through so many days. -/
def Path (g : Gl) (h : List Rg) (σ : Nat → St) (n : Nat) : Prop := σ 0 = (0, 0) ∧ ∀ d, d < n → Step g h d (σ d) (σ (d + 1))
/-- all ices but some are true on it. -/
def Fits (g : Gl) (l : List Ic) (o : Nat → Bool) (σ : Nat → St) (n : Nat) : Prop := ∀ d, d < n → fitsB l o (d : Int) (zero g (σ (d + 1))) = true

theorem Path.to {g : Gl} {h : List Rg} {σ : Nat → St} {n m : Nat} (p : Path g h σ n) (hm : m ≤ n) : Path g h σ m := ⟨p.1, fun d hd => p.2 d (by omega)⟩
theorem Fits.to {g : Gl} {l : List Ic} {o : Nat → Bool} {σ : Nat → St} {n m : Nat} (p : Fits g l o σ n) (hm : m ≤ n) : Fits g l o σ m := fun d hd => p d (by omega)

section
variable {g : Gl} {h : List Rg} {l : List Ic} {o : Nat → Bool}
theorem can_iff (hok : Ok g h) : ∀ {d : Nat} {s : St}, d ≤ h.length → (Can g h l o d s ↔ ∃ σ, Path g h σ d ∧ Fits g l o σ d ∧ σ d = s)
  | 0, s, _ => by
    constructor
    · intro hs
      have hs' : s = (0, 0) := hs
      exact ⟨fun _ => (0, 0), ⟨rfl, fun d hd => by omega⟩, fun d hd => by omega, hs'.symm⟩
    · rintro ⟨σ, p, _, rfl⟩
      exact p.1
  | d + 1, t, hd => by
    constructor
    · rintro ⟨s, h1, h2, h3⟩
      obtain ⟨σ, p, f, e⟩ := (can_iff hok (by omega)).1 h1
      refine ⟨fun j => if j ≤ d then σ j else t, ⟨by simpa using p.1, fun j hj => ?_⟩, fun j hj => ?_, if_neg (by omega)⟩
      · rcases Nat.lt_succ_iff_lt_or_eq.1 hj with hj | hj
        · simp only [show j ≤ d by omega, show j + 1 ≤ d by omega, if_true]
          exact p.2 j hj
        · subst hj
          simp only [Nat.le_refl, if_true, show ¬ (j + 1 ≤ j) by omega, if_false]
          rw [e]; exact (mem_nextL hok (by omega)).1 h2
      · rcases Nat.lt_succ_iff_lt_or_eq.1 hj with hj | hj
        · simp only [show j + 1 ≤ d by omega, if_true]
          exact f j hj
        · subst hj
          simp only [show ¬ (j + 1 ≤ j) by omega, if_false]
          exact h3
    · rintro ⟨σ, p, f, rfl⟩
      exact ⟨σ d, (can_iff hok (by omega)).2 ⟨σ, p.to (by omega), f.to (by omega), rfl⟩, (mem_nextL hok (by omega)).2 (p.2 d (by omega)), f d (by omega)⟩
theorem goes_can : ∀ {k d : Nat} {s : St}, Goes g h l o k d s → Can g h l o d s
  | 0, _, _, h => h
  | _ + 1, _, _, h => h.1
theorem goes_iff (hok : Ok g h) : ∀ {k d : Nat} {s : St}, d + k ≤ h.length → (Goes g h l o k d s ↔ ∃ σ, Path g h σ (d + k) ∧ Fits g l o σ (d + k) ∧ σ d = s)
  | 0, d, s, hd => can_iff hok hd
  | k + 1, d, s, hd => by
    constructor
    · rintro ⟨h1, t, h2, h3⟩
      obtain ⟨σ, p, f, e⟩ := (can_iff hok (by omega)).1 h1
      obtain ⟨τ, q, f2, e2⟩ := (goes_iff hok (show d + 1 + k ≤ h.length by omega)).1 h3
      refine ⟨fun j => if j ≤ d then σ j else τ j, ⟨by simpa using p.1, fun j hj => ?_⟩, fun j hj => ?_, by simp [e]⟩
      · rcases Nat.lt_trichotomy j d with hj' | hj' | hj'
        · simp only [show j ≤ d by omega, show j + 1 ≤ d by omega, if_true]
          exact p.2 j hj'
        · subst hj'
          simp only [Nat.le_refl, if_true, show ¬ (j + 1 ≤ j) by omega, if_false]
          rw [e, e2]; exact (mem_nextL hok (by omega)).1 h2
        · simp only [show ¬ (j ≤ d) by omega, show ¬ (j + 1 ≤ d) by omega, if_false]
          exact q.2 j (by omega)
      · by_cases hj' : j < d
        · simp only [show j + 1 ≤ d by omega, if_true]
          exact f j hj'
        · simp only [show ¬ (j + 1 ≤ d) by omega, if_false]
          exact f2 j (by omega)
    · rintro ⟨σ, p, f, rfl⟩
      refine ⟨(can_iff hok (by omega)).2 ⟨σ, p.to (by omega), f.to (by omega), rfl⟩, σ (d + 1), (mem_nextL hok (by omega)).2 (p.2 d (by omega)), (goes_iff hok (by omega)).2 ⟨σ, p.to (by omega), f.to (by omega), rfl⟩⟩
theorem agree_iff (hok : Ok g h) : agreeB g h l o = true ↔ ∃ σ, Path g h σ h.length ∧ Fits g l o σ h.length := by
  rw [agreeB_iff]
  constructor
  · rintro ⟨s, hs⟩
    obtain ⟨σ, p, f, _⟩ := (can_iff hok (Nat.le_refl _)).1 hs
    exact ⟨σ, p, f⟩
  · rintro ⟨σ, p, f⟩
    exact ⟨_, (can_iff hok (Nat.le_refl _)).2 ⟨σ, p, f, rfl⟩⟩
/-- the zeros of a day on all ways. -/
def ZAt (g : Gl) (h : List Rg) (l : List Ic) (i : Nat) (z : Int) : Prop := ∃ σ, Path g h σ h.length ∧ Fits g l off0 σ h.length ∧ z = zero g (σ (i + 1))
theorem zat_iff (hok : Ok g h) {i : Nat} (hi : i < h.length) {z : Int} : (∃ s, Goes g h l off0 (h.length - 1 - i) (i + 1) s ∧ z = zero g s) ↔ ZAt g h l i z := by
  have e : i + 1 + (h.length - 1 - i) = h.length := by omega
  constructor
  · rintro ⟨s, hs, rfl⟩
    obtain ⟨σ, p, f, rfl⟩ := (goes_iff hok (by omega)).1 hs
    rw [e] at p f
    exact ⟨σ, p, f, rfl⟩
  · rintro ⟨σ, p, f, rfl⟩
    exact ⟨_, (goes_iff hok (by omega)).2 ⟨σ, by rwa [e], by rwa [e], rfl⟩, rfl⟩
theorem zs_iff (hok : Ok g h) {zs : List Rg} : ZsOf g h l zs ↔ zs.length = h.length ∧ ∀ i, i < h.length → EndsOf (ZAt g h l i) (gR zs i).lo (gR zs i).hi := by
  unfold ZsOf
  refine and_congr_right fun _ => forall_congr' fun i => forall_congr' fun hi => ?_
  have : (fun z => ∃ s, Goes g h l off0 (h.length - 1 - i) (i + 1) s ∧ z = zero g s) = ZAt g h l i := funext fun z => propext (zat_iff hok hi)
  rw [this]
theorem path_st {t1 t2 t3 : List Int} (ht : truthB g h t1 t2 t3 = true) : Path g h (stAt g t1 t2 t3) h.length := ⟨rfl, fun d hd => step_st ((truthB_iff.1 ht).2 d hd)⟩

theorem gC_app {c : Ic} {j : Nat} (hj : j < l.length) : gC (l ++ [c]) j = gC l j := by simp [gC, List.getElem?_append, hj]
theorem gC_end {c : Ic} : gC (l ++ [c]) l.length = c := by simp [gC]
theorem fitOk_app {c : Ic} {d z : Int} {j : Nat} (hj : j < l.length) : fitOk (l ++ [c]) o d z j = fitOk l o d z j := by unfold fitOk; rw [gC_app hj]
theorem fits_app {c : Ic} {d z : Int} (ho : o l.length = false) : fitsB (l ++ [c]) o d z = true ↔ fitsB l o d z = true ∧ (c.day = d → -c.err ≤ z - c.zero ∧ z - c.zero ≤ c.err) := by
  unfold fitsB
  rw [allTo_iff, allTo_iff, List.length_append, List.length_singleton]
  constructor
  · intro h1
    refine ⟨fun k hk => by rw [← fitOk_app hk]; exact h1 k (by omega), fun hd => ?_⟩
    have := h1 l.length (by omega)
    unfold fitOk at this
    rw [gC_end, ho, hd] at this
    simpa [inB_iff] using this
  · rintro ⟨h1, h2⟩ k hk
    rcases Nat.lt_succ_iff_lt_or_eq.1 hk with hk | hk
    · rw [fitOk_app hk]; exact h1 k hk
    · subst hk
      unfold fitOk
      rw [gC_end, ho]
      by_cases hd : c.day = d
      · simp [hd, inB_iff.2 (h2 hd)]
      · simp [hd]
end
end Go.Proofs.Ytlgmeofpkfliaaa
end

section
namespace Go.Proofs.Ytlgmeofpkfliaaa

section
variable {g : Gl} {h : List Rg} {l : List Ic}
theorem path_bd (hok : Ok g h) {σ : Nat → St} {n : Nat} (p : Path g h σ n) : ∀ {d : Nat}, d ≤ n → (0 ≤ (σ d).1 ∧ (σ d).1 ≤ 3 * d) ∧ (0 ≤ (σ d).2 ∧ (σ d).2 ≤ 30)
  | 0, _ => by rw [p.1]; simp
  | d + 1, hd => by
    obtain ⟨h1, h2⟩ := path_bd hok p (d := d) (by omega)
    obtain ⟨x, b, c, hx, hb, hc, he⟩ := p.2 d (by omega)
    have k1 := hok.creep d
    have k2 := hok.back
    have k3 := hok.sinks x
    have k4 := mx3_bd ((σ d).2 - b) 0 (sinks g x)
    rw [he]
    simp only
    omega
theorem zat_bd (hok : Ok g h) {i : Nat} (hi : i < h.length) {z : Int} (hz : ZAt g h l i z) : -2000 ≤ z ∧ z ≤ 2000 := by
  obtain ⟨σ, p, _, rfl⟩ := hz
  have h1 := path_bd hok p (d := i + 1) (by omega)
  have h2 := hok.base
  have h3 := hok.nh
  unfold zero
  omega
/-- an ice more that says an end of a day's range. -/
theorem ends_agree (hok : Ok g h) {zs : List Rg} (hz : ZsOf g h l zs) {d : Nat} (hd : d < h.length) {z : Int} (he : z = (gR zs d).lo ∨ z = (gR zs d).hi) : agreeB g h (l ++ [⟨(d : Int), z, 0⟩]) off0 = true := by
  have hE := ((zs_iff hok).1 hz).2 d hd
  have hZ : ZAt g h l d z := by
    rcases he with rfl | rfl
    · exact hE.1
    · exact hE.2.1
  obtain ⟨σ, p, f, hzs⟩ := hZ
  refine (agree_iff hok).2 ⟨σ, p, fun j hj => (fits_app rfl).2 ⟨f j hj, fun hdj => ?_⟩⟩
  have : d = j := by have hd' : ((d : Nat) : Int) = (j : Int) := hdj; omega
  subst this
  simp only
  omega
/-- one that says a zero beyond it. -/
theorem ends_false (hok : Ok g h) {zs : List Rg} (hz : ZsOf g h l zs) {d : Nat} (hd : d < h.length) {z : Int} (he : z < (gR zs d).lo ∨ (gR zs d).hi < z) : agreeB g h (l ++ [⟨(d : Int), z, 0⟩]) off0 = false := by
  cases ha : agreeB g h (l ++ [⟨(d : Int), z, 0⟩]) off0
  · rfl
  · obtain ⟨σ, p, f⟩ := (agree_iff hok).1 ha
    have hE := ((zs_iff hok).1 hz).2 d hd
    have h1 := hE.2.2 (zero g (σ (d + 1))) ⟨σ, p, fun j hj => ((fits_app rfl).1 (f j hj)).1, rfl⟩
    have h2 := ((fits_app (c := ⟨(d : Int), z, 0⟩) rfl).1 (f d hd)).2 rfl
    simp only at h2
    omega
theorem take_app {c : Ic} {j : Nat} (hj : j < l.length) : (l ++ [c]).take (j + 1) = l.take (j + 1) := by rw [List.take_append_of_le_length (by omega)]
theorem take_all {c : Ic} : (l ++ [c]).take (l.length + 1) = l ++ [c] := List.take_of_length_le (by simp)
theorem shows_agree {h : List Rg} {l : List Ic} (ha : agreeB g h l off0 = true) (hp : ∀ j, j < l.length → agreeB g h (l.take (j + 1)) off0 = true) {e : Ending} (he : ShowsIs (fun j => agreeB g h (l.take (j + 1)) off0) l.length e) : e = .returned (.tuple #[.int .i64 0, .int .i64 7]) := by
  rcases he with ⟨k, hk, _, h2, _⟩ | ⟨_, h2⟩
  · have := hp k hk
    rw [show (fun j => agreeB g h (l.take (j + 1)) off0) k = agreeB g h (l.take (k + 1)) off0 from rfl, this] at h2
    cases h2
  · exact h2
theorem shows_more {c : Ic} (hp : ∀ j, j < l.length → agreeB g h (l.take (j + 1)) off0 = true) (ha : agreeB g h (l ++ [c]) off0 = false) {e : Ending} (he : ShowsIs (fun j => agreeB g h ((l ++ [c]).take (j + 1)) off0) (l ++ [c]).length e) : e = .returned (.tuple #[.int .i64 (l.length : Int), .int .i64 0]) := by
  rcases he with ⟨k, hk, _, h2, h3⟩ | ⟨h1, _⟩
  · rw [List.length_append, List.length_singleton] at hk
    rcases Nat.lt_succ_iff_lt_or_eq.1 hk with hk | hk
    · have := hp k hk
      rw [show (fun j => agreeB g h ((l ++ [c]).take (j + 1)) off0) k = agreeB g h ((l ++ [c]).take (k + 1)) off0 from rfl, take_app hk, this] at h2
      cases h2
    · subst hk; exact h3
  · have := h1 l.length (by simp)
    rw [show (fun j => agreeB g h ((l ++ [c]).take (j + 1)) off0) l.length = agreeB g h ((l ++ [c]).take (l.length + 1)) off0 from rfl, take_all, ha] at this
    cases this
theorem shows_more' {c : Ic} (hp : ∀ j, j < l.length → agreeB g h (l.take (j + 1)) off0 = true) (ha : agreeB g h (l ++ [c]) off0 = true) {e : Ending} (he : ShowsIs (fun j => agreeB g h ((l ++ [c]).take (j + 1)) off0) (l ++ [c]).length e) : e = .returned (.tuple #[.int .i64 0, .int .i64 7]) := by
  refine shows_agree ha (fun j hj => ?_) he
  rw [List.length_append, List.length_singleton] at hj
  rcases Nat.lt_succ_iff_lt_or_eq.1 hj with hj | hj
  · rw [take_app hj]; exact hp j hj
  · subst hj; rw [take_all]; exact ha

/-- the least and the greatest zeros, without ices. -/
theorem mx3_mono {a b x y : Int} (h1 : a ≤ b) (h2 : x ≤ y) : mx3 a 0 x ≤ mx3 b 0 y := by
  have := mx3_bd a 0 x
  have := mx3_bd b 0 y
  omega
theorem sinks_mono (hok : Ok g h) {x y : Int} (hxy : x ≤ y) : sinks g x ≤ sinks g y := by
  have key : ∀ k, k ≤ g.depths.length → sinksTo g.depths x k ≤ sinksTo g.depths y k ∧ sinksTo g.depths y k ≤ (if k = 0 then 0 else (gD g.depths (k - 1)).sink) := by
    intro k
    induction k with
    | zero => intro _; simp [sinksTo]
    | succ k ih =>
      intro hk
      obtain ⟨h1, h2⟩ := ih (by omega)
      have h3 : (if k = 0 then (0 : Int) else (gD g.depths (k - 1)).sink) ≤ (gD g.depths k).sink := by
        split
        · have := hok.depths k (by omega)
          unfold deepOk at this
          simp only [Bool.and_eq_true] at this
          exact (inB_iff.1 this.2.1).1
        · exact (deep_inc hok (by omega) (by omega)).2
      simp only [sinksTo, Nat.add_sub_cancel, show ¬ (k + 1 = 0) by omega, if_false]
      by_cases c1 : (gD g.depths k).from_ ≤ x
      · rw [if_pos c1, if_pos (by omega)]; omega
      · rw [if_neg c1]
        split <;> omega
  exact (key _ (Nat.le_refl _)).1
end

/-- the truth of the ends. -/
def endT (g : Gl) (h : List Rg) (high : Bool) : List Int × List Int × List Int :=
  ((List.range h.length).map (fun d => if high then (gR h d).lo else (gR h d).hi), (List.range h.length).map (fun d => if high then (creep g d).hi else (creep g d).lo), (List.range h.length).map (fun _ => if high then g.bhi else g.blo))
theorem gI_map {f : Nat → Int} {n d : Nat} (hd : d < n) : gI ((List.range n).map f) d = f d := by simp [gI, hd]
section
variable {g : Gl} {h : List Rg}
theorem endT_ok (hok : Ok g h) (b : Bool) : truthB g h (endT g h b).1 (endT g h b).2.1 (endT g h b).2.2 = true := by
  refine truthB_iff.2 ⟨by simp [endT], fun d hd => dayOk_iff.2 ?_⟩
  have h1 := hok.heats d hd
  have h2 := hok.creep d
  have h3 := hok.back
  simp only [endT, gI_map hd]
  cases b <;> simp <;> omega
theorem end_low (hok : Ok g h) {σ : Nat → St} {n : Nat} (hn : n ≤ h.length) (p : Path g h σ n) : ∀ {d : Nat}, d ≤ n → riseTo (endT g h false).2.1 d ≤ (σ d).1 ∧ (σ d).2 ≤ sinkTo g (endT g h false).1 (endT g h false).2.2 d
  | 0, _ => by rw [p.1]; simp [riseTo, sinkTo]
  | d + 1, hd => by
    obtain ⟨h1, h2⟩ := end_low hok hn p (d := d) (by omega)
    obtain ⟨x, b, c, hx, hb, hc, he⟩ := p.2 d (by omega)
    rw [he, riseTo, sinkTo]
    have e1 : gI (endT g h false).2.1 d = (creep g d).lo := by simp only [endT, gI_map (show d < h.length by omega)]; simp
    have e2 : gI (endT g h false).1 d = (gR h d).hi := by simp only [endT, gI_map (show d < h.length by omega)]; simp
    have e3 : gI (endT g h false).2.2 d = g.blo := by simp only [endT, gI_map (show d < h.length by omega)]; simp
    rw [e1, e2, e3]
    exact ⟨by simp only; omega, mx3_mono (by omega) (sinks_mono hok hx.2)⟩
theorem end_high (hok : Ok g h) {σ : Nat → St} {n : Nat} (hn : n ≤ h.length) (p : Path g h σ n) : ∀ {d : Nat}, d ≤ n → (σ d).1 ≤ riseTo (endT g h true).2.1 d ∧ sinkTo g (endT g h true).1 (endT g h true).2.2 d ≤ (σ d).2
  | 0, _ => by rw [p.1]; simp [riseTo, sinkTo]
  | d + 1, hd => by
    obtain ⟨h1, h2⟩ := end_high hok hn p (d := d) (by omega)
    obtain ⟨x, b, c, hx, hb, hc, he⟩ := p.2 d (by omega)
    rw [he, riseTo, sinkTo]
    have e1 : gI (endT g h true).2.1 d = (creep g d).hi := by simp only [endT, gI_map (show d < h.length by omega)]; simp
    have e2 : gI (endT g h true).1 d = (gR h d).lo := by simp only [endT, gI_map (show d < h.length by omega)]; simp
    have e3 : gI (endT g h true).2.2 d = g.bhi := by simp only [endT, gI_map (show d < h.length by omega)]; simp
    rw [e1, e2, e3]
    exact ⟨by simp only; omega, mx3_mono (by omega) (sinks_mono hok hx.1)⟩
theorem fits_nil {d z : Int} {o : Nat → Bool} : fitsB [] o d z = true := rfl
theorem ends_alone (hok : Ok g h) {zs : List Rg} (hz : ZsOf g h [] zs) {d : Nat} (hd : d < h.length) :
    (gR zs d).lo = gI (playTo g (endT g h false).1 (endT g h false).2.1 (endT g h false).2.2 h.length) d ∧ (gR zs d).hi = gI (playTo g (endT g h true).1 (endT g h true).2.1 (endT g h true).2.2 h.length) d := by
  have hE := ((zs_iff hok).1 hz).2 d hd
  rw [gI_play hd, gI_play hd]
  have z1 : ZAt g h [] d (zAt g (endT g h false).1 (endT g h false).2.1 (endT g h false).2.2 d) := ⟨_, path_st (endT_ok hok false), fun _ _ => fits_nil, rfl⟩
  have z2 : ZAt g h [] d (zAt g (endT g h true).1 (endT g h true).2.1 (endT g h true).2.2 d) := ⟨_, path_st (endT_ok hok true), fun _ _ => fits_nil, rfl⟩
  have h1 := hE.2.2 _ z1
  have h2 := hE.2.2 _ z2
  obtain ⟨σ, p, _, e1⟩ := hE.1
  obtain ⟨τ, q, _, e2⟩ := hE.2.1
  have h3 := end_low hok (Nat.le_refl _) p (d := d + 1) (by omega)
  have h4 := end_high hok (Nat.le_refl _) q (d := d + 1) (by omega)
  unfold zero at e1 e2
  unfold zAt at *
  omega
end
end Go.Proofs.Ytlgmeofpkfliaaa
end

section
namespace Go.Proofs.Ytlgmeofpkfliaaa
open Go.RowKit

theorem news_of {α : Type} {f : α → List Value} {sz : Nat} (hsz : 0 < sz) (hf : ∀ a, (f a).length = sz) {F : Nat → Nat → Value} {l : List α} (hF : ∀ (k : Nat) (hk : k < l.length) (j : Nat), j < sz → (f l[k])[j]? = some (F k j)) {w : World} {b off : Nat}
    (hc : ∀ k j, k < l.length → j < sz → w.cell? ⟨b, off + k * sz + j, none⟩ = some (F k j)) : ∀ j u, (l.flatMap f)[j]? = some u → w.cell? ((⟨b, off, none⟩ : Addr).add j) = some u := by
  intro j u hu
  have hlen : (l.flatMap f).length = l.length * sz := by
    clear hF hc hu
    induction l with
    | nil => simp
    | cons a l ih => rw [List.flatMap_cons, List.length_append, hf, ih, List.length_cons, Nat.add_mul, Nat.one_mul, Nat.add_comm]
  have hj : j < l.length * sz := by
    have := (List.getElem?_eq_some_iff.1 hu).1
    rwa [hlen] at this
  have hk : j / sz < l.length := (Nat.div_lt_iff_lt_mul hsz).2 hj
  have hr : j % sz < sz := Nat.mod_lt _ hsz
  have e : j = j / sz * sz + j % sz := by have := Nat.div_add_mod j sz; rw [Nat.mul_comm] at this; omega
  have h1 := (flat_get hf hk hr).trans (hF _ hk _ hr)
  rw [← e, hu] at h1
  injection h1 with h1
  rw [Addr.add_lit, h1, ← hc _ _ hk hr]
  congr 2
  omega

section
variable {P : Program}
theorem wpList_append_nothing {ops : Array Oper} {rest : List Oper} {o : Oper} {a : Act} {Q : Exit → Act → World → Prop} (w : World) (hg : o.guard = none) (s x : Operand) (t e : TypeId) (i : TypeInfo)
    (hop : o.op = .call { callee := .builtin .append, args := #[s, x], argTypes := #[t, t] }) (ht : P.underlying t = some (.slice e)) (hi : P.info? e = some i) (B A : Option Addr) (n k c : Nat) (hle : n ≤ k)
    (hs : a.eval s = .slice B n k) (hx : a.eval x = .slice A 0 c) (hK : wpList P ops Q rest (a.put o.dst (.slice B n k)) w) : wpList P ops Q (o :: rest) a w := by
  refine wpList_plain hg fun K hK' => ?_
  have hrun : (Builtin.append_ #[t, t] o.type #[.slice B n k, .slice A 0 c]).run P w = .ok (.slice B n k) w := by
    cases A <;> cases B <;> simp [Builtin.append_, run_underlying ht, sizeOf, typeInfo, hi, Builtin.lenOf, Builtin.firstCells, loadCells, loadCellsFrom, storeCells, hle]
  unfold Oper.wp
  simp [execOp, hop, resolve, invoke, builtin, hs, hx, hrun, Result.andThen]
  exact hK' _ _ hK
theorem own_cap {w : World} {base : Nat} {e : TypeId} {sz n k : Nat} {B : Option Addr} {xs : List Value} (h : w.ownsRow base e sz (.slice B n k) n xs) : n ≤ k := by
  rcases h.2 with ⟨h1, h2⟩ | ⟨g, cap, cur, h1, _, _, h2, _⟩
  · injection h1 with h1 h3 h4; omega
  · injection h1 with h1 h3 h4; omega
theorem wpList_append_all {ops : Array Oper} {rest : List Oper} {o : Oper} {a : Act} {w : World} {Q : Exit → Act → World → Prop} (hgd : o.guard = none) (s x : Operand) (t : TypeId)
    (ho : o.op = .call { callee := .builtin .append, args := #[s, x], argTypes := #[t, t] })
    (base : Nat) (e : TypeId) (i : TypeInfo) (z : Value) (size bytes : Nat) (ht : P.underlying t = some (.slice e)) (hi : P.info? e = some i) (hz : i.zero = some z)
    (hsize : i.size = size) (hby : i.bytes = bytes) (hzs : z.cells.size = size) (hsz : 0 < size)
    (B : Option Addr) (n k : Nat) (xs : List Value) (hs : a.eval s = .slice B n k) (hown : w.ownsRow base e size (.slice B n k) n xs)
    (A : Option Addr) (m c : Nat) (news : List Value) (hx : a.eval x = .slice A m c) (hl : news.length = m * size) (hA : 0 < m → ∃ b off, A = some ⟨b, off, none⟩ ∧ ∀ j u, news[j]? = some u → w.cell? ((⟨b, off, none⟩ : Addr).add j) = some u) (h1 : ∀ u ∈ news, u.oneCell' = true)
    (h63 : n + m ≤ maxLen) (hbytes : (n + m) * bytes ≤ 140737488355328) (hbase : base ≤ w.heap.size) (H : Nat) (hH : w.heap.size = H)
    (h : ∀ B' k' w', w'.ownsRow base e size (.slice B' (n + m) k') (n + m) (xs ++ news) → w.grownBy w' (Value.slice B n k).ownBlock → (∀ g, (Value.slice B' (n + m) k').ownBlock = some g → (Value.slice B n k).ownBlock = some g ∨ g = H) → wpList P ops Q rest (a.put o.dst (.slice B' (n + m) k')) w') : wpList P ops Q (o :: rest) a w := by
  rcases Nat.eq_zero_or_pos m with h0 | h0
  · subst h0
    have hn : news = [] := List.eq_nil_of_length_eq_zero (by simpa using hl)
    subst hn
    have hcap := own_cap hown
    refine wpList_append_nothing w hgd s x t e i ho ht hi B A n k c hcap hs hx ?_
    exact h B k w (by simpa using hown) (World.grownBy.refl _ _) (fun g hg => .inl (by simpa using hg))
  · obtain ⟨b, off, rfl, hnews⟩ := hA h0
    exact wpList_append_lies w hgd s x t ho base e i z size bytes ht hi hz hsize hby hzs hsz _ n xs hs hown ⟨b, off, none⟩ m c news hx hl hnews h1 h0 h63 hbytes hbase H hH
      (fun g cap w' h2 h3 h4 _ => h _ _ w' h2 h3 (fun g' hg => by
        have : g = g' := by simpa [Value.ownBlock] using hg
        subst this; exact h4))
theorem one_at {w : World} {g sz : Nat} {t : TypeId} {cs : Array Value} {F : Nat → Nat → Value} (hb : Blk w g t cs) (h : ∀ j, j < sz → cs[j]? = some (F 0 j)) : SlAt w w.heap.size sz (some ⟨g, 0, none⟩) 1 F := fun _ => ⟨g, 0, rfl, hb.lt, fun k j hk hj => by
  obtain rfl : k = 0 := by omega
  rw [cell_of_row _ _ _ _ _ _ hb]
  simpa using h j hj⟩
/-- append of a list to a list that the call owns: the new list stands behind a name. -/
theorem wpList_append_list {ops : Array Oper} {rest : List Oper} {o : Oper} {a : Act} {w : World} {Q : Exit → Act → World → Prop} {α : Type} {f : α → List Value} {F : List α → Nat → Nat → Value} {sz : Nat} (hf : ∀ a, (f a).length = sz)
    (hF : ∀ (l : List α) (k : Nat) (hk : k < l.length) (j : Nat), j < sz → (f l[k])[j]? = some (F l k j)) (h1 : ∀ a u, u ∈ f a → u.oneCell' = true) (hgd : o.guard = none) (s x : Operand) (t : TypeId)
    (ho : o.op = .call { callee := .builtin .append, args := #[s, x], argTypes := #[t, t] })
    (base : Nat) (e : TypeId) (i : TypeInfo) (z : Value) (bytes : Nat) (ht : P.underlying t = some (.slice e)) (hi : P.info? e = some i) (hz : i.zero = some z)
    (hsize : i.size = sz) (hby : i.bytes = bytes) (hzs : z.cells.size = sz) (hsz : 0 < sz)
    (B : Option Addr) (k : Nat) (xs : List α) (hs : a.eval s = .slice B xs.length k) (hown : w.ownsRow base e sz (.slice B xs.length k) xs.length (xs.flatMap f))
    (A : Option Addr) (c : Nat) (ys : List α) (hx : a.eval x = .slice A ys.length c) (hA : SlAt w w.heap.size sz A ys.length (F ys))
    (h63 : xs.length + ys.length ≤ maxLen) (hbytes : (xs.length + ys.length) * bytes ≤ 140737488355328) (hbase : base ≤ w.heap.size) (H : Nat) (hH : w.heap.size = H)
    (h : ∀ L B' k' w', Hid (L = xs ++ ys) → w'.ownsRow base e sz (.slice B' L.length k') L.length (L.flatMap f) → w.grownBy w' (Value.slice B xs.length k).ownBlock → (∀ g, (Value.slice B' L.length k').ownBlock = some g → (Value.slice B xs.length k).ownBlock = some g ∨ g = H) → wpList P ops Q rest (a.put o.dst (.slice B' L.length k')) w') : wpList P ops Q (o :: rest) a w := by
  have hlen : (ys.flatMap f).length = ys.length * sz := by
    clear hA hx hbytes h63 h
    induction ys with
    | nil => simp
    | cons a l ih => rw [List.flatMap_cons, List.length_append, hf, ih, List.length_cons, Nat.add_mul, Nat.one_mul, Nat.add_comm]
  refine wpList_append_all hgd s x t ho base e i z sz bytes ht hi hz hsize hby hzs hsz B xs.length k _ hs hown A ys.length c (ys.flatMap f) hx hlen (fun h0 => ?_) (fun u hu => by obtain ⟨a, _, ha⟩ := List.mem_flatMap.1 hu; exact h1 a u ha) h63 hbytes hbase H hH (fun B' k' w' g1 g2 g3 => ?_)
  · obtain ⟨b, off, rfl, _, hc⟩ := hA h0
    exact ⟨b, off, rfl, news_of hsz hf (hF ys) (fun k j hk hj => by rw [Nat.add_assoc]; exact hc k j hk hj)⟩
  · have e1 : (xs ++ ys).length = xs.length + ys.length := List.length_append
    have := h (xs ++ ys) B' k' w' (Lib.hid rfl) (by rw [e1, List.flatMap_append]; exact g1) g2 (by rw [e1]; exact g3)
    rwa [e1] at this
theorem own_empty {w : World} {base g : Nat} {e : TypeId} {sz : Nat} (hb : Blk w g e #[]) (hg : base ≤ g) : w.ownsRow base e sz (.slice (some ⟨g, 0, none⟩) 0 0) 0 [] :=
  ⟨by simp, .inr ⟨g, 0, #[], rfl, hg, hb, Nat.le_refl _, by unfold maxLen; omega, by simp, by simp⟩⟩
end
end Go.Proofs.Ytlgmeofpkfliaaa
end

section
namespace Go.Proofs.Ytlgmeofpkfliaaa

/-- the glass, and an ice, higher by a number. -/
def upG (g : Gl) (b : Int) : Gl := ⟨g.base + b, g.bands, g.depths, g.blo, g.bhi⟩
def upI (b : Int) (c : Ic) : Ic := ⟨c.day, c.zero + b, c.err⟩
section
variable {g : Gl} {h : List Rg} {l : List Ic} {b : Int}
theorem up_zero {s : St} : zero (upG g b) s = zero g s + b := by unfold zero upG; simp only; omega
theorem up_step {d : Nat} {s t : St} : Step (upG g b) h d s t ↔ Step g h d s t := Iff.rfl
theorem up_path {σ : Nat → St} {n : Nat} : Path (upG g b) h σ n ↔ Path g h σ n := Iff.rfl
theorem gC_map {k : Nat} (hk : k < l.length) : gC (l.map (upI b)) k = upI b (gC l k) := by simp [gC, hk]
theorem up_fit {o : Nat → Bool} {d z : Int} : fitsB (l.map (upI b)) o d (z + b) = fitsB l o d z := by
  unfold fitsB
  rw [List.length_map, Bool.eq_iff_iff, allTo_iff, allTo_iff]
  refine forall_congr' fun k => forall_congr' fun hk => ?_
  unfold fitOk
  rw [gC_map hk]
  have : z + b - (upI b (gC l k)).zero = z - (gC l k).zero := by unfold upI; simp only; omega
  rw [this]
  rfl
theorem up_fits {o : Nat → Bool} {σ : Nat → St} {n : Nat} : Fits (upG g b) (l.map (upI b)) o σ n ↔ Fits g l o σ n := by
  unfold Fits
  refine forall_congr' fun d => forall_congr' fun _ => ?_
  rw [up_zero, up_fit]
theorem up_agree (hok : Ok g h) (hx : Ok (upG g b) h) {o : Nat → Bool} : agreeB (upG g b) h (l.map (upI b)) o = agreeB g h l o := by
  rw [Bool.eq_iff_iff, agree_iff hok, agree_iff hx]
  exact exists_congr fun σ => and_congr up_path up_fits
theorem up_lists (hok : Ok g h) (hx : Ok (upG g b) h) (many : Nat) : listsL (upG g b) h (l.map (upI b)) many = listsL g h l many := by
  unfold listsL
  rw [show agreeB (upG g b) h (l.map (upI b)) = agreeB g h l from funext fun o => up_agree hok hx, List.length_map]
theorem up_few (hok : Ok g h) (hx : Ok (upG g b) h) {r r' : List Int} (h1 : FewIs (listsL g h l) l.length r) (h2 : FewIs (listsL (upG g b) h (l.map (upI b))) (l.map (upI b)).length r') : r = r' := by
  rw [show listsL (upG g b) h (l.map (upI b)) = listsL g h l from funext fun m => up_lists hok hx m, List.length_map] at h2
  rcases h1 with ⟨k, hk, a1, ls, a2⟩ | ⟨a1, a2⟩
  · rcases h2 with ⟨k', hk', b1, ls', b2⟩ | ⟨b1, b2⟩
    · have : k = k' := by
        rcases Nat.lt_trichotomy k k' with hlt | he | hlt
        · have := b1 k hlt; rw [a2] at this; cases this
        · exact he
        · have := a1 k' hlt; rw [b2] at this; cases this
      subst this
      rw [a2] at b2
      injection b2
    · have := b1 k hk; rw [a2] at this; cases this
  · rcases h2 with ⟨k', hk', b1, ls', b2⟩ | ⟨b1, b2⟩
    · have := a1 k' hk'; rw [b2] at this; cases this
    · rw [a2, b2]
theorem up_zs (hok : Ok g h) (hx : Ok (upG g b) h) {zs zs' : List Rg} (hz : ZsOf g h l zs) (hz' : ZsOf (upG g b) h (l.map (upI b)) zs') {d : Nat} (hd : d < h.length) : (gR zs d).lo + b = (gR zs' d).lo ∧ (gR zs d).hi + b = (gR zs' d).hi := by
  have e1 := ((zs_iff hok).1 hz).2 d hd
  have e2 := ((zs_iff hx).1 hz').2 d hd
  have key : ∀ z, ZAt (upG g b) h (l.map (upI b)) d z ↔ ZAt g h l d (z - b) := fun z => by
    unfold ZAt
    refine exists_congr fun σ => and_congr up_path (and_congr up_fits ?_)
    rw [up_zero]
    omega
  have e3 : EndsOf (ZAt (upG g b) h (l.map (upI b)) d) ((gR zs d).lo + b) ((gR zs d).hi + b) := by
    refine ⟨(key _).2 (by rw [show (gR zs d).lo + b - b = (gR zs d).lo by omega]; exact e1.1), (key _).2 (by rw [show (gR zs d).hi + b - b = (gR zs d).hi by omega]; exact e1.2.1), fun z hz => ?_⟩
    have := e1.2.2 _ ((key z).1 hz)
    omega
  exact e3.uniq e2
end
end Go.Proofs.Ytlgmeofpkfliaaa
end

section
namespace Go.Proofs.Ytlgmeofpkfliaaa

/-- how many of f numbers from n on are left out. -/
def cnt (O : Nat → Bool) (n : Nat) : Nat → Nat
  | 0 => 0
  | f + 1 => (if O n then 1 else 0) + cnt O (n + 1) f
theorem cnt_zero {O : Nat → Bool} : ∀ {f n : Nat}, cnt O n f = 0 → ∀ j, n ≤ j → j < n + f → O j = false
  | 0, n, _, j, h1, h2 => by omega
  | f + 1, n, h, j, h1, h2 => by
    rw [cnt] at h
    cases ho : O n
    · rw [ho] at h
      rcases Nat.eq_or_lt_of_le h1 with he | hlt
      · subst he; exact ho
      · exact cnt_zero (f := f) (n := n + 1) (by simpa using h) j hlt (by omega)
    · rw [ho] at h; simp at h
theorem setO_self {o : Nat → Bool} {n : Nat} : setO o n n = true := by simp [setO]
theorem setO_ne {o : Nat → Bool} {n j : Nat} (h : j ≠ n) : setO o n j = o j := by simp [setO, h]
/-- whatever numbers, so many, may be left out: they are among those that are tried. -/
theorem pick_ne {A : (Nat → Bool) → Bool} {N many : Nat} {O : Nat → Bool} (hA : ∀ o, (∀ j, j < N → o j = O j) → A o = true) : ∀ (f n : Nat) (lv : List Int) (o : Nat → Bool), n + f = N → (∀ j, j < n → o j = O j) → (∀ j, n ≤ j → o j = false) → lv.length + cnt O n f = many → pickL A many f lv o n ≠ [] := by
  intro f
  induction f with
  | zero =>
    intro n lv o h1 h2 h3 h4
    unfold pickL
    rw [cnt] at h4
    rw [if_pos (by omega), if_pos (hA o (fun j hj => h2 j (by omega)))]
    simp
  | succ f ih =>
    intro n lv o h1 h2 h3 h4
    by_cases hm : lv.length = many
    · unfold pickL
      have hz := cnt_zero (show cnt O n (f + 1) = 0 by omega)
      rw [if_pos hm, if_pos (hA o (fun j hj => by
        rcases Nat.lt_or_ge j n with h | h
        · exact h2 j h
        · rw [h3 j h, hz j h (by omega)]))]
      simp
    · unfold pickL
      rw [if_neg hm, loopL_succ]
      rw [cnt] at h4
      cases ho : O n
      · rw [ho] at h4
        have := ih (n + 1) lv o (by omega) (fun j hj => by
          rcases Nat.lt_succ_iff_lt_or_eq.1 hj with h | h
          · exact h2 j h
          · subst h; rw [h3 j (Nat.le_refl _), ho]) (fun j hj => h3 j (by omega)) (by simpa using h4)
        unfold pickL at this
        rw [if_neg hm] at this
        simp [this]
      · rw [ho] at h4
        have := ih (n + 1) (lv ++ [(n : Int)]) (setO o n) (by omega) (fun j hj => by
          rcases Nat.lt_succ_iff_lt_or_eq.1 hj with h | h
          · rw [setO_ne (by omega)]; exact h2 j h
          · subst h; rw [setO_self, ho]) (fun j hj => by rw [setO_ne (by omega)]; exact h3 j (by omega)) (by simp at h4 ⊢; omega)
        simp [this]
/-- those that are told may be left out. -/
theorem pick_mem {A : (Nat → Bool) → Bool} {many : Nat} {L : List Int} : ∀ (f n : Nat) (lv : List Int) (o : Nat → Bool), (∀ j : Nat, o j = true ↔ (j : Int) ∈ lv) → L ∈ pickL A many f lv o n → ∃ o', A o' = true ∧ (∀ j : Nat, o' j = true ↔ (j : Int) ∈ L) := by
  have hset : ∀ (n : Nat) (lv : List Int) (o : Nat → Bool), (∀ j : Nat, o j = true ↔ (j : Int) ∈ lv) → ∀ j : Nat, setO o n j = true ↔ (j : Int) ∈ lv ++ [(n : Int)] := fun n lv o h j => by
    by_cases hj : j = n
    · subst hj; simp [setO_self]
    · rw [setO_ne hj, h j]; simp; omega
  intro f
  induction f with
  | zero =>
    intro n lv o h hL
    unfold pickL at hL
    split at hL
    · split at hL
      · rename_i ha
        rw [List.mem_singleton] at hL
        subst hL; exact ⟨o, ha, h⟩
      · cases hL
    · simp [loopL] at hL
  | succ f ih =>
    intro n lv o h hL
    unfold pickL at hL
    split at hL
    · split at hL
      · rename_i ha
        rw [List.mem_singleton] at hL
        subst hL; exact ⟨o, ha, h⟩
      · cases hL
    · rename_i hm
      rw [loopL_succ, List.mem_append] at hL
      rcases hL with hL | hL
      · exact ih (n + 1) _ _ (hset n lv o h) hL
      · exact ih (n + 1) lv o h (by unfold pickL; rw [if_neg hm]; exact hL)

section
variable {g : Gl} {h : List Rg} {l : List Ic}
theorem fits_off {o o' : Nat → Bool} {d z : Int} (ho : ∀ j, j < l.length → o j = o' j) : fitsB l o d z = fitsB l o' d z := by
  unfold fitsB
  rw [Bool.eq_iff_iff, allTo_iff, allTo_iff]
  refine forall_congr' fun k => forall_congr' fun hk => ?_
  unfold fitOk
  rw [ho k hk]
theorem agree_off (hok : Ok g h) {o o' : Nat → Bool} (ho : ∀ j, j < l.length → o j = o' j) : agreeB g h l o = agreeB g h l o' := by
  rw [Bool.eq_iff_iff, agree_iff hok, agree_iff hok]
  refine exists_congr fun σ => and_congr Iff.rfl ?_
  unfold Fits
  exact forall_congr' fun d => forall_congr' fun _ => by rw [fits_off ho]
/-- Fewest has no more than any that need not be believed. -/
theorem few_le (hok : Ok g h) {O : Nat → Bool} (ha : agreeB g h l O = true) {r : List Int} (hf : FewIs (listsL g h l) l.length r) : r.length ≤ cnt O 0 l.length := by
  have hne : listsL g h l (cnt O 0 l.length) ≠ [] := pick_ne (N := l.length) (fun o ho => by rw [agree_off hok ho]; exact ha) l.length 0 [] off0 (by omega) (fun j hj => by omega) (fun _ _ => rfl) (by simp)
  rcases hf with ⟨k, hk, h1, ls, h2⟩ | ⟨h1, h2⟩
  · have hr : r ∈ listsL g h l k := by rw [h2]; simp
    rw [listsL_mem hr]
    rcases Nat.lt_or_ge (cnt O 0 l.length) k with hlt | hge
    · exact absurd (h1 _ hlt) hne
    · exact hge
  · rw [h2, seqL_len]
    rcases Nat.lt_or_ge (cnt O 0 l.length) l.length with hlt | hge
    · exact absurd (h1 _ hlt) hne
    · exact hge
end
end Go.Proofs.Ytlgmeofpkfliaaa
end

section
namespace Go.Proofs.Ytlgmeofpkfliaaa
open Go.RowKit

def ZerosV (g : Gl) (h : List Rg) (l : List Ic) (n : Nat) (ev : Int) (zs : List Rg) : Prop := (agreeB g h l off0 = false ∧ ev = 9 ∧ n = 0) ∨ (agreeB g h l off0 = true ∧ ev = 0 ∧ n = h.length ∧ ZsOf g h l zs)
def ShowsV (g : Gl) (h : List Rg) (l : List Ic) (k ev : Int) : Prop := (∃ j : Nat, k = (j : Int) ∧ j < l.length ∧ (∀ i, i < j → agreeB g h (l.take (i + 1)) off0 = true) ∧ agreeB g h (l.take (j + 1)) off0 = false ∧ ev = 0) ∨ ((∀ j, j < l.length → agreeB g h (l.take (j + 1)) off0 = true) ∧ k = 0 ∧ ev = 7)
def BlameV (g : Gl) (h : List Rg) (l : List Ic) (k ev : Int) : Prop := ((agreeB g h l off0 = true ∨ (listsL g h l 1).length ≠ 1) ∧ k = 0 ∧ ev = 7) ∨ (agreeB g h l off0 = false ∧ listsL g h l 1 = [[k]] ∧ ev = 0)
theorem Zeros_v (g : Gl) (Ab Ad Ah Ai : Option Addr) (cb cd ch ci : Nat) (h : List Rg) (l : List Ic) (w : World) (hg : GlIn w w.heap.size g Ab Ad) (hh : SlAt w w.heap.size 2 Ah h.length (fR h)) (hi : SlAt w w.heap.size 3 Ai l.length (fC l)) (heq : iced g h l = 0) :
    Calls Try.prog 31 #[.agg #[.int .i64 g.base, .slice Ab g.bands.length cb, .slice Ad g.depths.length cd, .int .i64 g.blo, .int .i64 g.bhi], .slice Ah h.length ch, .slice Ai l.length ci] w fun e w' => (∃ A n ev zs, e = .returned (.tuple #[.slice A n n, .int .i64 ev]) ∧ Hid (ZerosV g h l n ev zs) ∧ SlAt w' w'.heap.size 2 A n (fR zs)) ∧ Below w.heap.size w w' := by
  refine (Zeros_ok g Ab Ad Ah Ai cb cd ch ci h l w hg hh hi heq).mono ?_
  rintro e w' ⟨⟨hno, rfl⟩ | ⟨hyes, A, zs, rfl, h1, h2⟩, hb⟩
  · exact ⟨⟨none, 0, 9, [], rfl, Lib.hid (.inl ⟨by rw [← Bool.not_eq_true, agreeB_iff]; exact hno, rfl, rfl⟩), fun h => absurd h (by simp)⟩, hb⟩
  · exact ⟨⟨A, _, 0, zs, rfl, Lib.hid (.inr ⟨agreeB_iff.2 hyes, rfl, rfl, h1⟩), h2⟩, hb⟩
theorem Shows_v (g : Gl) (Ab Ad Ah Ai : Option Addr) (cb cd ch ci : Nat) (h : List Rg) (l : List Ic) (w : World) (hg : GlIn w w.heap.size g Ab Ad) (hh : SlAt w w.heap.size 2 Ah h.length (fR h)) (hi : SlAt w w.heap.size 3 Ai l.length (fC l)) (hci : l.length ≤ ci) (hcm : ci ≤ maxLen) (heq : iced g h l = 0) :
    Calls Try.prog 19 #[.agg #[.int .i64 g.base, .slice Ab g.bands.length cb, .slice Ad g.depths.length cd, .int .i64 g.blo, .int .i64 g.bhi], .slice Ah h.length ch, .slice Ai l.length ci] w fun e w' => (∃ k ev, e = .returned (.tuple #[.int .i64 k, .int .i64 ev]) ∧ Hid (ShowsV g h l k ev)) ∧ Below w.heap.size w w' := by
  refine (Shows_good g Ab Ad Ah Ai cb cd ch ci h l w hg hh hi hci hcm heq).mono ?_
  rintro e w' ⟨⟨k, h1, h2, h3, rfl⟩ | ⟨h1, rfl⟩, hb⟩
  · exact ⟨⟨_, _, rfl, Lib.hid (.inl ⟨k, rfl, h1, h2, h3, rfl⟩)⟩, hb⟩
  · exact ⟨⟨_, _, rfl, Lib.hid (.inr ⟨h1, rfl, rfl⟩)⟩, hb⟩
theorem Fewest_v (g : Gl) (Ab Ad Ah Ai : Option Addr) (cb cd ch ci : Nat) (h : List Rg) (l : List Ic) (w : World) (hg : GlIn w w.heap.size g Ab Ad) (hh : SlAt w w.heap.size 2 Ah h.length (fR h)) (hi : SlAt w w.heap.size 3 Ai l.length (fC l)) (heq : iced g h l = 0) :
    Calls Try.prog 32 #[.agg #[.int .i64 g.base, .slice Ab g.bands.length cb, .slice Ad g.depths.length cd, .int .i64 g.blo, .int .i64 g.bhi], .slice Ah h.length ch, .slice Ai l.length ci] w fun e w' => (∃ A c r, e = .returned (.tuple #[.slice A (r : List Int).length c, .int .i64 0]) ∧ Hid (FewIs (listsL g h l) l.length r) ∧ SlAt w' w'.heap.size 1 A r.length (fI r)) ∧ Below w.heap.size w w' := by
  refine (Fewest_good g Ab Ad Ah Ai cb cd ch ci h l w hg hh hi heq).mono ?_
  rintro e w' ⟨⟨v, r, rfl, h1, h2⟩, hb⟩
  obtain ⟨A, c, rfl, _, h3⟩ := own_sl h2
  exact ⟨⟨A, c, r, rfl, Lib.hid h1, h3⟩, hb⟩
theorem Blame_v (g : Gl) (Ab Ad Ah Ai : Option Addr) (cb cd ch ci : Nat) (h : List Rg) (l : List Ic) (w : World) (hg : GlIn w w.heap.size g Ab Ad) (hh : SlAt w w.heap.size 2 Ah h.length (fR h)) (hi : SlAt w w.heap.size 3 Ai l.length (fC l)) (heq : iced g h l = 0) :
    Calls Try.prog 36 #[.agg #[.int .i64 g.base, .slice Ab g.bands.length cb, .slice Ad g.depths.length cd, .int .i64 g.blo, .int .i64 g.bhi], .slice Ah h.length ch, .slice Ai l.length ci] w fun e w' => (∃ k ev, e = .returned (.tuple #[.int .i64 k, .int .i64 ev]) ∧ Hid (BlameV g h l k ev)) ∧ Below w.heap.size w w' := by
  refine (Blame_good g Ab Ad Ah Ai cb cd ch ci h l w hg hh hi heq).mono ?_
  rintro e w' ⟨⟨h1, rfl⟩ | ⟨h1, x, h2, rfl⟩, hb⟩
  · exact ⟨⟨_, _, rfl, Lib.hid (.inl ⟨h1, rfl, rfl⟩)⟩, hb⟩
  · exact ⟨⟨_, _, rfl, Lib.hid (.inr ⟨h1, h2, rfl⟩)⟩, hb⟩

/-- what Fewest tells is no longer than the ices. -/
theorem few_len {L : Nat → List (List Int)} {n : Nat} {r : List Int} (hL : ∀ k r, r ∈ L k → r.length = k) (hf : FewIs L n r) : r.length ≤ n := by
  rcases hf with ⟨k, hk, _, ls, h2⟩ | ⟨_, h2⟩
  · rw [hL k r (by rw [h2]; simp)]; omega
  · rw [h2, seqL_len]; omega
theorem few_len' {g : Gl} {h : List Rg} {l : List Ic} {r : List Int} (hf : FewIs (listsL g h l) l.length r) : r.length ≤ l.length := few_len (fun _ _ hr => listsL_mem hr) hf

section
variable {g : Gl} {h : List Rg} {l : List Ic} {b : Int}
/-- GlassHigher: what both tell. -/
theorem high_all (hok : Ok g h) (hx : Ok (upG g b) h) {n n' : Nat} {ev ev' : Int} {zs zs' : List Rg} (h1 : ZerosV g h l n ev zs) (h2 : ZerosV (upG g b) h (l.map (upI b)) n' ev' zs') :
    ev = ev' ∧ n = n' ∧ ∀ d, d < n → ((gR zs d).lo + b = (gR zs' d).lo ∧ (gR zs d).hi + b = (gR zs' d).hi) ∧ ((-2000 ≤ (gR zs d).lo ∧ (gR zs d).lo ≤ 2000) ∧ (-2000 ≤ (gR zs d).hi ∧ (gR zs d).hi ≤ 2000)) := by
  rcases h1 with ⟨a1, rfl, rfl⟩ | ⟨a1, rfl, rfl, hz⟩
  · rcases h2 with ⟨b1, rfl, rfl⟩ | ⟨b1, rfl, rfl, _⟩
    · exact ⟨rfl, rfl, fun d hd => by omega⟩
    · rw [up_agree hok hx, a1] at b1; cases b1
  · rcases h2 with ⟨b1, rfl, rfl⟩ | ⟨b1, rfl, rfl, hz'⟩
    · rw [up_agree hok hx, a1] at b1; cases b1
    · refine ⟨rfl, rfl, fun d hd => ⟨up_zs hok hx hz hz' hd, ?_⟩⟩
      have e := ((zs_iff hok).1 hz).2 d hd
      exact ⟨zat_bd hok hd e.1, zat_bd hok hd e.2.1⟩
theorem up_lived (h1 : ckGlass (upG g b) = 0) (h2 : lived g h = 0) : lived (upG g b) h = 0 := by
  unfold lived at h2 ⊢
  rw [if_neg (by simp [h1])]
  split at h2
  · rename_i h3; exact absurd h2 h3
  · exact h2
end
end Go.Proofs.Ytlgmeofpkfliaaa
end

section
namespace Go.Proofs.Ytlgmeofpkfliaaa
open Go.RowKit

/-- a place where the walk stops. -/
structure Paused (p : Prop) : Prop where
  out : p
theorem pause_at {P : Program} {rest : List Oper} {A : Array Oper} {o : Oper} {a : Act} {w : World} {Q : Exit → Act → World → Prop} (d : Nat) (hd : o.dst = some d) (h : Paused (wpList P A Q (o :: rest) a w)) : wpList P A Q (o :: rest) a w := h.out

theorem own_set {w : World} {base : Nat} {e : TypeId} {sz n : Nat} {v : Value} {xs : List Value} (h : w.ownsRow base e sz v n xs) {g : Nat} (hg : v.ownBlock = some g) {j : Nat} (hj : j < xs.length) (u : Value) : (w.setCell ⟨g, j, none⟩ u).ownsRow base e sz v n (xs.set j u) := by
  rcases h.2 with ⟨rfl, _⟩ | ⟨g', cap, cur, rfl, hb, hh, hnc, hcm, hsz, hc⟩
  · simp [Value.ownBlock] at hg
  · have : g' = g := by simpa [Value.ownBlock] using hg
    subst this
    refine ⟨by rw [List.length_set]; exact h.1, .inr ⟨g', cap, cur.setIfInBounds j u, rfl, hb, ?_, hnc, hcm, by simpa using hsz, ?_⟩⟩
    · simp [World.setCell, Array.getElem?_modify, hh]
    · rw [Array.toList_setIfInBounds, List.take_set, hc]
theorem own_cell {w : World} {base : Nat} {e : TypeId} {sz n : Nat} {v : Value} {xs : List Value} (h : w.ownsRow base e sz v n xs) (hn : 0 < n) :
    ∃ g cap, v = .slice (some ⟨g, 0, none⟩) n cap ∧ base ≤ g ∧ g < w.heap.size ∧ n ≤ cap ∧ cap ≤ maxLen ∧ (∀ i, i < xs.length → w.cell? ⟨g, i, none⟩ = xs[i]?) ∧ ∀ i, w.frozen? ⟨g, i, none⟩ = false := by
  rcases h.2 with ⟨_, h0⟩ | ⟨g, cap, cur, rfl, hb, hh, hnc, hcm, hsz, hc⟩
  · omega
  · refine ⟨g, cap, rfl, hb, (Array.getElem?_eq_some_iff.1 hh).1, hnc, hcm, fun i hi => ?_, fun i => by simp [World.frozen?, hh]⟩
    rw [cell_of_row w g i cur e (0, 0) hh, ← hc, List.getElem?_take, if_pos (by rw [← h.1]; exact hi), Array.getElem?_toList]
theorem flat_set {α : Type} {f : α → List Value} {sz : Nat} (hf : ∀ a, (f a).length = sz) : ∀ {l : List α} {k : Nat} (hk : k < l.length) {j : Nat}, j < sz → ∀ {u : Value} {a : α}, (f l[k]).set j u = f a → (l.flatMap f).set (k * sz + j) u = (l.set k a).flatMap f
  | x :: l, 0, _, j, hj, u, a, h => by
    rw [List.flatMap_cons, List.set_cons_zero, List.flatMap_cons, Nat.zero_mul, Nat.zero_add, List.set_append, if_pos (by rw [hf]; exact hj)]
    rw [show (f x).set j u = f a from h]
  | x :: l, k + 1, hk, j, hj, u, a, h => by
    rw [List.flatMap_cons, List.set_cons_succ, List.flatMap_cons, List.set_append, if_neg (by rw [hf, Nat.add_mul]; omega), hf, show (k + 1) * sz + j - sz = k * sz + j by rw [Nat.add_mul]; omega]
    rw [flat_set hf (l := l) (k := k) (by simpa using hk) hj h]
theorem cC_len' (c : Ic) : (cC c).length = 3 := rfl
/-- a cell of an ice of a row. -/
theorem ics_cell {w : World} {base : Nat} {e : TypeId} {v : Value} {l : List Ic} (h : w.ownsRow base e 3 v l.length (l.flatMap cC)) {k : Nat} (hk : k < l.length) :
    ∃ g cap, v = .slice (some ⟨g, 0, none⟩) l.length cap ∧ base ≤ g ∧ g < w.heap.size ∧ w.cell? ⟨g, k * 3, none⟩ = some (.int .i64 (gC l k).day) ∧ w.cell? ⟨g, k * 3 + 1, none⟩ = some (.int .i64 (gC l k).zero) ∧ w.cell? ⟨g, k * 3 + 2, none⟩ = some (.int .i64 (gC l k).err) ∧ ∀ i, w.frozen? ⟨g, i, none⟩ = false := by
  obtain ⟨g, cap, rfl, hb, hl, _, _, hc, hf⟩ := own_cell h (by omega)
  have hlen : (l.flatMap cC).length = l.length * 3 := flat_len cC_len' l
  have e : gC l k = l[k] := gC_at hk
  refine ⟨g, cap, rfl, hb, hl, ?_, ?_, ?_, hf⟩
  · rw [hc _ (by omega), ← Nat.add_zero (k * 3), flat_get cC_len' hk (by omega), e]; rfl
  · rw [hc _ (by omega), flat_get cC_len' hk (by omega), e]; rfl
  · rw [hc _ (by omega), flat_get cC_len' hk (by omega), e]; rfl
theorem ics_zero {w : World} {base : Nat} {e : TypeId} {v : Value} {l : List Ic} (h : w.ownsRow base e 3 v l.length (l.flatMap cC)) {g : Nat} (hg : v.ownBlock = some g) {k : Nat} (hk : k < l.length) (x : Int) :
    (w.setCell ⟨g, k * 3 + 1, none⟩ (.int .i64 x)).ownsRow base e 3 v (l.set k ⟨(gC l k).day, x, (gC l k).err⟩).length ((l.set k ⟨(gC l k).day, x, (gC l k).err⟩).flatMap cC) := by
  have hlen : (l.flatMap cC).length = l.length * 3 := flat_len cC_len' l
  have := own_set h hg (j := k * 3 + 1) (by omega) (.int .i64 x)
  rw [flat_set cC_len' hk (by omega) (a := ⟨(gC l k).day, x, (gC l k).err⟩) (by rw [gC_at hk]; rfl)] at this
  rw [List.length_set]
  exact this
theorem ics_err {w : World} {base : Nat} {e : TypeId} {v : Value} {l : List Ic} (h : w.ownsRow base e 3 v l.length (l.flatMap cC)) {g : Nat} (hg : v.ownBlock = some g) {k : Nat} (hk : k < l.length) (x : Int) :
    (w.setCell ⟨g, k * 3 + 2, none⟩ (.int .i64 x)).ownsRow base e 3 v (l.set k ⟨(gC l k).day, (gC l k).zero, x⟩).length ((l.set k ⟨(gC l k).day, (gC l k).zero, x⟩).flatMap cC) := by
  have hlen : (l.flatMap cC).length = l.length * 3 := flat_len cC_len' l
  have := own_set h hg (j := k * 3 + 2) (by omega) (.int .i64 x)
  rw [flat_set cC_len' hk (by omega) (a := ⟨(gC l k).day, (gC l k).zero, x⟩) (by rw [gC_at hk]; rfl)] at this
  rw [List.length_set]
  exact this
theorem ints_cell {w : World} {base : Nat} {e : TypeId} {v : Value} {l : List Int} (h : w.ownsRow base e 1 v l.length (l.map (Value.int .i64))) {k : Nat} (hk : k < l.length) :
    ∃ g cap, v = .slice (some ⟨g, 0, none⟩) l.length cap ∧ base ≤ g ∧ g < w.heap.size ∧ w.cell? ⟨g, k, none⟩ = some (.int .i64 (gI l k)) ∧ ∀ i, w.frozen? ⟨g, i, none⟩ = false := by
  obtain ⟨g, cap, rfl, hb, hl, _, _, hc, hf⟩ := own_cell h (by omega)
  exact ⟨g, cap, rfl, hb, hl, by rw [hc _ (by simpa using hk)]; simp [gI, hk], hf⟩
theorem ints_set {w : World} {base : Nat} {e : TypeId} {v : Value} {l : List Int} (h : w.ownsRow base e 1 v l.length (l.map (Value.int .i64))) {g : Nat} (hg : v.ownBlock = some g) {k : Nat} (hk : k < l.length) (x : Int) :
    (w.setCell ⟨g, k, none⟩ (.int .i64 x)).ownsRow base e 1 v (l.set k x).length ((l.set k x).map (Value.int .i64)) := by
  have := own_set h hg (j := k) (by simpa using hk) (.int .i64 x)
  rw [List.length_set, List.map_set]
  exact this

/-- the first so many ices are told higher. -/
def upTo (b : Int) (l : List Ic) : Nat → List Ic
  | 0 => l
  | k + 1 => (upTo b l k).set k ⟨(gC l k).day, IntKind.i64.wrap ((gC l k).zero + b), (gC l k).err⟩
theorem upTo_len {b : Int} {l : List Ic} : ∀ {k : Nat}, (upTo b l k).length = l.length
  | 0 => rfl
  | k + 1 => by rw [upTo, List.length_set, upTo_len]
theorem gC_set {l : List Ic} {k j : Nat} {c : Ic} (hj : j < l.length) : gC (l.set k c) j = if k = j then c else gC l j := by
  simp only [gC, List.getD_eq_getElem?_getD, List.getElem?_set]
  by_cases h : k = j
  · subst h; simp [hj]
  · simp [h]
theorem upTo_at {b : Int} {l : List Ic} {j : Nat} (hj : j < l.length) : ∀ {k : Nat}, gC (upTo b l k) j = if j < k then ⟨(gC l j).day, IntKind.i64.wrap ((gC l j).zero + b), (gC l j).err⟩ else gC l j
  | 0 => by simp [upTo]
  | k + 1 => by
    rw [upTo, gC_set (by rw [upTo_len]; exact hj), upTo_at hj]
    by_cases h1 : k = j
    · subst h1; simp
    · rw [if_neg h1]
      by_cases h2 : j < k
      · rw [if_pos h2, if_pos (by omega)]
      · rw [if_neg h2, if_neg (by omega)]
theorem upTo_all {b : Int} {l : List Ic} (hb : -100000 ≤ b ∧ b ≤ 100000) (hl : ∀ j, j < l.length → -100000 ≤ (gC l j).zero ∧ (gC l j).zero ≤ 100000) : upTo b l l.length = l.map (upI b) := by
  refine List.ext_getElem (by rw [upTo_len, List.length_map]) (fun j h1 h2 => ?_)
  have hj : j < l.length := by rwa [upTo_len] at h1
  have e1 := upTo_at (b := b) (k := l.length) hj
  have h3 := hl j hj
  rw [if_pos hj, gC_at h1, IntWalk.i64_in _ (by omega)] at e1
  rw [e1, List.getElem_map]
  rw [gC_at hj]
  rfl
theorem ics_bd {n : Nat} {l : List Ic} (h0 : icsF n l = 0) : l.length ≤ 8 ∧ ∀ j, j < l.length → ((0 ≤ (gC l j).day ∧ (gC l j).day ≤ (n : Int) - 1) ∧ (-2000 ≤ (gC l j).zero ∧ (gC l j).zero ≤ 2000) ∧ (0 ≤ (gC l j).err ∧ (gC l j).err ≤ 20)) := by
  unfold icsF at h0
  split at h0
  · cases h0
  · rename_i h8
    split at h0
    · cases h0
    · rename_i h2
      have h2' : allTo (iceOk n l) l.length = true := by simpa using h2
      refine ⟨by omega, fun j hj => ?_⟩
      have := allTo_iff.1 h2' j hj
      unfold iceOk at this
      simp only [Bool.and_eq_true, inB_iff] at this
      exact this
end Go.Proofs.Ytlgmeofpkfliaaa
end

section
namespace Go.Proofs.Ytlgmeofpkfliaaa
open Go.RowKit
attribute [local go_sem] Ex.cell? Ex.frozen?

set_option maxRecDepth 100000 in
set_option maxHeartbeats 1600000 in
theorem within_yes (A B : Option Addr) (c d n : Nat) (a b : List Rg) (w : World) (hn : n ≤ 1000000) (hA : SlAt w w.heap.size 2 A n (fR a)) (hB : SlAt w w.heap.size 2 B n (fR b)) (hW : ∀ k, k < n → (gR b k).lo ≤ (gR a k).lo ∧ (gR a k).hi ≤ (gR b k).hi) :
    Calls Try.prog 33 #[.slice A n c, .slice B n d] w fun e w' => e = .returned (.bool true) ∧ Below w.heap.size w w' := by
  have HW := Lib.hid hW
  clear hW
  go_enter Try.func33, Try.ntmps33
  go_wp2_with fail
  go_loopw [5] (fun i wr => ∃ k : Nat, k ≤ n ∧ i = .int .i64 k ∧ Below w.heap.size w wr) (fun i _ => n - (intOf i).toNat)
  case atStart => exact ⟨0, by omega, rfl, Below.refl _ _⟩
  case round =>
    obtain ⟨k, hk, rfl, hbl⟩ := hrel
    by_cases hlt : k < n
    · obtain ⟨b1, o1, rfl, hb1, g0, g1⟩ := IsRgs.at_ (hA.below hbl) hlt
      obtain ⟨b2, o2, rfl, hb2, g2, g3⟩ := IsRgs.at_ (hB.below hbl) hlt
      obtain ⟨e1, e2⟩ := HW.out k hlt
      have hws := hbl.size
      have hb1' : b1 < wr.heap.size := by omega
      have hb2' : b2 < wr.heap.size := by omega
      generalize (gR a k).lo = x1 at *
      generalize (gR a k).hi = x2 at *
      generalize (gR b k).lo = y1 at *
      generalize (gR b k).hi = y2 at *
      have e3 : decide (x1 < y1) = false := decide_eq_false (by omega)
      have e4 : decide (y2 < x2) = false := decide_eq_false (by omega)
      go_wp2_with fail
      refine wp_region_ext (by kernel_rfl) (by kernel_rfl) ?_
      repeat (any_goals (go_big_quiet_step (fail)))
      refine wpQuiet_nil ?_; intro _ hw'; obtain ⟨X, rfl⟩ := hw'
      go_wp2
      go_roundw
      case rel => exact ⟨k + 1, by omega, by go_num, ex_trans hbl X.h⟩
      case measure => simp [intOf]; omega
    · go_wp2
      go_ret
      exact ⟨rfl, hbl⟩

end Go.Proofs.Ytlgmeofpkfliaaa
end

section
namespace Go.Proofs.Ytlgmeofpkfliaaa
open Go.RowKit
attribute [local go_sem] Ex.cell? Ex.frozen?

/-- is a number in a list? -/
def hasB (l : List Int) (n : Int) : Bool := decide (n ∈ l)
theorem hasB_at {l : List Int} {n : Int} {k : Nat} (hk : k < l.length) (h : gI l k = n) : hasB l n = true := decide_eq_true (by rw [← h]; simp [gI, hk])
theorem hasB_not {l : List Int} {n : Int} (h : ∀ k, k < l.length → gI l k ≠ n) : hasB l n = false := decide_eq_false (fun hm => by
  obtain ⟨k, hk, he⟩ := List.getElem_of_mem hm
  exact h k hk (by simp [gI, hk, he]))

set_option maxRecDepth 100000 in
set_option maxHeartbeats 1600000 in
theorem Has_any (A : Option Addr) (c : Nat) (l : List Int) (n : Int) (w : World) (hl : l.length ≤ 1000000) (hA : SlAt w w.heap.size 1 A l.length (fI l)) :
    Calls Try.prog 39 #[.slice A l.length c, .int .i64 n] w fun e w' => e = .returned (.bool (hasB l n)) ∧ Below w.heap.size w w' := by
  go_enter Try.func39, Try.ntmps39
  go_wp2_with fail
  go_loopw [5] (fun i wr => ∃ k : Nat, k ≤ l.length ∧ i = .int .i64 k ∧ (∀ j, j < k → gI l j ≠ n) ∧ Below w.heap.size w wr) (fun i _ => l.length - (intOf i).toNat)
  case atStart => exact ⟨0, by omega, rfl, fun j hj => by omega, Below.refl _ _⟩
  case round =>
    obtain ⟨k, hk, rfl, hno, hbl⟩ := hrel
    have HNO := Lib.hid hno
    clear hno
    by_cases hlt : k < l.length
    · obtain ⟨b, off, rfl, hb, hc⟩ := IsInts.at_ (hA.below hbl) hlt
      have hws := hbl.size
      have hb' : b < wr.heap.size := by omega
      by_cases hx : gI l k = n
      · have HX := Lib.hid hx
        have e3 : (gI l k == n) = true := by simp [hx]
        clear hx
        go_wp2
        go_ret
        exact ⟨by rw [hasB_at hlt HX.out]; rfl, hbl⟩
      · have HX := Lib.hid hx
        have e3 : (gI l k == n) = false := by simp [hx]
        clear hx
        go_wp2
        go_roundw
        case rel => exact ⟨k + 1, by omega, by go_num, fun j hj => by rcases Nat.lt_succ_iff_lt_or_eq.1 hj with h | h; exact HNO.out j h; rw [h]; exact HX.out, hbl⟩
        case measure => simp [intOf]; omega
    · have HK : Hid (k = l.length) := Lib.hid (by omega)
      go_wp2
      go_ret
      exact ⟨by rw [hasB_not (fun j hj => HNO.out j (by rw [HK.out]; exact hj))]; rfl, hbl⟩

end Go.Proofs.Ytlgmeofpkfliaaa
end

section
namespace Go.Proofs.Ytlgmeofpkfliaaa
open Go.RowKit
attribute [local go_sem] Ex.cell? Ex.frozen?

/-- the numbers below n whose bits are 1. -/
def ofL (b : Int) : Nat → List Int
  | 0 => []
  | k + 1 => if (b / 2 ^ k).tmod 2 = 1 then ofL b k ++ [(k : Int)] else ofL b k
theorem ofL_len {b : Int} : ∀ {n : Nat}, (ofL b n).length ≤ n
  | 0 => by simp [ofL]
  | n + 1 => by
    have := ofL_len (b := b) (n := n)
    rw [ofL]; split
    · simp; omega
    · omega

set_option maxRecDepth 100000 in
set_option maxHeartbeats 1600000 in
theorem Of_any (n : Nat) (b : Int) (w : World) (hn : n ≤ 60) (hb : 0 ≤ b) (hb1 : b ≤ 1000000) :
    Calls Try.prog 38 #[.int .i64 (n : Int), .int .i64 b] w fun e w' => (∃ v, e = .returned v ∧ w'.ownsRow w.heap.size 3 1 v (ofL b n).length ((ofL b n).map (Value.int .i64))) ∧ Below w.heap.size w w' := by
  obtain ⟨i0, hi0, hz0, hz1, hz2⟩ := info_parts int_info
  have HI := Lib.hid hi0
  clear hi0
  go_enter Try.func38, Try.ntmps38
  go_wp2_with fail
  go_loopw [5, 6] (fun v i wr => ∃ k : Nat, k ≤ n ∧ i = .int .i64 k ∧ Below w.heap.size w wr ∧ wr.ownsRow w.heap.size 3 1 v (ofL b k).length ((ofL b k).map (Value.int .i64)))
    (fun _ i _ => n - (intOf i).toNat)
  case atStart => exact ⟨0, by omega, rfl, Below.refl _ _, ⟨rfl, .inl ⟨rfl, rfl⟩⟩⟩
  case round =>
    obtain ⟨k, hk, rfl, hbl, hown⟩ := hrel
    by_cases hlt : k < n
    · have hq : 0 ≤ b / 2 ^ k := Int.ediv_nonneg hb (Int.le_of_lt (Int.pow_pos (by omega)))
      have et : (b / 2 ^ k).tmod 2 = b / 2 ^ k % 2 := Int.tmod_eq_emod_of_nonneg hq
      by_cases hx : (b / 2 ^ k).tmod 2 = 1
      · have HX : Hid (ofL b (k + 1) = ofL b k ++ [(k : Int)]) := Lib.hid (by rw [ofL, if_pos hx])
        have e1 : ((b / 2 ^ k).tmod 2 == 1) = true := by simp [hx]
        have e2 : (b / 2 ^ k % 2 == 1) = true := by rw [← et]; simp [hx]
        clear hx et
        have y4 := hown.alloc (.cells #[.int .i64 (k : Int)] 3)
        have hlen := ofL_len (b := b) (n := k)
        have c63 : (ofL b k).length + 1 ≤ maxLen := by unfold maxLen; omega
        have cby : ((ofL b k).length + 1) * 8 ≤ 140737488355328 := by omega
        have hws := hbl.size
        have hbase : w.heap.size ≤ (wr.alloc (.cells #[.int .i64 (k : Int)] 3)).heap.size := by simp; omega
        go_wp2_with (at_builtin; refine wpList_append_lies _ rfl _ _ _ rfl w.heap.size 3 i0 _ 1 8 Try.underlying54 HI.out hz0 hz1 hz2 rfl (by omega) u5 _ _ rfl y4 ⟨wr.heap.size, 0, none⟩ 1 1 [.int .i64 (k : Int)] rfl rfl (World.news_of_block (heap_alloc_new wr _)) (by simp [Value.oneCell']) (by omega) c63 cby hbase (wr.heap.size + 1) (by simp) ?_; intro gg cap w1 hown' hgrow hat hlt')
        go_roundw
        case rel => exact ⟨k + 1, by omega, by go_num, (ex_alloc hbl _).grown hgrow hbase (fun j hj => own_ge hown hj), by rw [HX.out]; exact own_snoc rfl hown'⟩
        case measure => simp [intOf]; omega
      · have HX : Hid (ofL b (k + 1) = ofL b k) := Lib.hid (by rw [ofL, if_neg hx])
        have e1 : ((b / 2 ^ k).tmod 2 == 1) = false := by simp [hx]
        have e2 : (b / 2 ^ k % 2 == 1) = false := by rw [← et]; simp [hx]
        clear hx et
        go_wp2
        go_roundw
        case rel => exact ⟨k + 1, by omega, by go_num, hbl, by rw [HX.out]; exact hown⟩
        case measure => simp [intOf]; omega
    · have HK : Hid (k = n) := Lib.hid (by omega)
      go_wp2
      go_ret
      exact ⟨⟨_, rfl, by rw [← HK.out]; exact hown⟩, hbl⟩

end Go.Proofs.Ytlgmeofpkfliaaa
end

section
namespace Go.Proofs.Ytlgmeofpkfliaaa
open Go.RowKit

/-- the ices of l, read no worse, ahead of others. -/
def Finer (l x : List Ic) : Prop := l.length ≤ x.length ∧ ∀ j, j < l.length → (gC x j).day = (gC l j).day ∧ (gC x j).zero = (gC l j).zero ∧ (gC x j).err ≤ (gC l j).err
section
variable {g : Gl} {h : List Rg} {l x : List Ic}
theorem Finer.fits (hf : Finer l x) {o : Nat → Bool} {d z : Int} (hx : fitsB x o d z = true) : fitsB l o d z = true := by
  unfold fitsB at hx ⊢
  rw [allTo_iff] at hx ⊢
  intro k hk
  have h1 := hx k (by have := hf.1; omega)
  obtain ⟨e1, e2, e3⟩ := hf.2 k hk
  unfold fitOk at h1 ⊢
  rw [e1, e2] at h1
  revert h1
  cases hday : ((gC l k).day == d)
  · simp
  · cases o k
    · simp only [Bool.true_and, Bool.not_false, Bool.not_not]
      rw [inB_iff, inB_iff]
      omega
    · simp
theorem Finer.agree (hok : Ok g h) (hf : Finer l x) {o : Nat → Bool} (hx : agreeB g h x o = true) : agreeB g h l o = true := by
  obtain ⟨σ, p, f⟩ := (agree_iff hok).1 hx
  exact (agree_iff hok).2 ⟨σ, p, fun d hd => hf.fits (f d hd)⟩
theorem gC_take' {k j : Nat} (hj : j < k) : gC (l.take k) j = gC l j := by simp [gC, List.getElem?_take, hj]
theorem Finer.take (hf : Finer l x) (k : Nat) : Finer (l.take k) (x.take k) := by
  refine ⟨by rw [List.length_take, List.length_take]; have := hf.1; omega, fun j hj => ?_⟩
  rw [List.length_take] at hj
  rw [gC_take' (by omega), gC_take' (by omega)]
  exact hf.2 j (by omega)
theorem Finer.pre (k : Nat) : Finer (l.take k) l := by
  refine ⟨by rw [List.length_take]; omega, fun j hj => ?_⟩
  rw [List.length_take] at hj
  rw [gC_take' (by omega)]
  exact ⟨rfl, rfl, Int.le_refl _⟩
theorem Finer.pre' {k m : Nat} (hk : k ≤ m) : Finer (l.take k) (l.take m) := by
  have := Finer.pre (l := l.take m) k
  rwa [List.take_take, Nat.min_eq_left hk] at this

/-- none shows that one was false just if all agree. -/
theorem shows_none (hok : Ok g h) (hn : agreeB g h [] off0 = true) : (∀ j, j < l.length → agreeB g h (l.take (j + 1)) off0 = true) ↔ agreeB g h l off0 = true := by
  constructor
  · intro h1
    rcases Nat.eq_zero_or_pos l.length with h0 | h0
    · rw [List.length_eq_zero_iff.1 h0]; exact hn
    · have := h1 (l.length - 1) (by omega)
      rwa [Nat.sub_add_cancel h0, List.take_length] at this
  · intro h1 j _
    exact (Finer.pre (j + 1)).agree hok h1
theorem cnt_le {O : Nat → Bool} : ∀ {f n : Nat} {r : List Int}, (∀ j : Nat, n ≤ j → O j = true → (j : Int) ∈ r) → cnt O n f ≤ r.length
  | 0, _, _, _ => by simp [cnt]
  | f + 1, n, r, hr => by
    rw [cnt]
    cases ho : O n
    · have := cnt_le (f := f) (n := n + 1) (r := r) (fun j hj => hr j (by omega))
      simpa using this
    · have hm := hr n (Nat.le_refl _) ho
      have := cnt_le (f := f) (n := n + 1) (r := r.erase (n : Int)) (fun j hj hoj => (List.mem_erase_of_ne (by omega)).2 (hr j (by omega) hoj))
      rw [List.length_erase_of_mem hm] at this
      have := List.length_pos_of_mem hm
      simp
      omega
theorem few_off {r : List Int} (hf : FewIs (listsL g h l) l.length r) : r = seqL l.length ∨ ∃ o, agreeB g h l o = true ∧ ∀ j : Nat, o j = true ↔ (j : Int) ∈ r := by
  rcases hf with ⟨k, _, _, ls, h2⟩ | ⟨_, h2⟩
  · have hr : r ∈ listsL g h l k := by rw [h2]; simp
    exact .inr (pick_mem l.length 0 [] off0 (fun j => by simp [off0]) hr)
  · exact .inl h2
theorem few_mono (hok : Ok g h) (hf : Finer l x) {r m : List Int} (h1 : FewIs (listsL g h l) l.length r) (h2 : FewIs (listsL g h x) x.length m) : r.length ≤ m.length := by
  rcases few_off h2 with rfl | ⟨o, ha, ho⟩
  · rw [seqL_len]
    have := few_len' h1
    have := hf.1
    omega
  · have := few_le hok (hf.agree hok ha) h1
    have := cnt_le (O := o) (f := l.length) (n := 0) (r := m) (fun j _ hj => (ho j).1 hj)
    omega
theorem few_nil (hok : Ok g h) {r : List Int} (hn : agreeB g h [] off0 = true) (hf : FewIs (listsL g h l) l.length r) (ha : agreeB g h l off0 = false) : 0 < r.length := by
  rcases hf with ⟨k, hk, h1, ls, h2⟩ | ⟨h1, h2⟩
  · have hr : r ∈ listsL g h l k := by rw [h2]; simp
    rw [listsL_mem hr]
    rcases Nat.eq_zero_or_pos k with h0 | h0
    · subst h0
      have : listsL g h l 0 = [] := by
        unfold listsL pickL
        rw [if_pos (by rfl), if_neg (by rw [ha]; simp)]
      rw [this] at h2; cases h2
    · exact h0
  · rw [h2, seqL_len]
    rcases Nat.eq_zero_or_pos l.length with h0 | h0
    · rw [List.length_eq_zero_iff.1 h0, hn] at ha; cases ha
    · exact h0
def MoreIs (n n' nl : Nat) (ev ev' s k t k' : Int) (r m : List Int) (zs zs' : List Rg) : Prop :=
  (ev = 0 ∧ ev' = 0 ∧ s = 7 ∧ t = 7 ∧ r = [] ∧ m = [] ∧ n = n' ∧ ∀ d, d < n → (gR zs d).lo ≤ (gR zs' d).lo ∧ (gR zs' d).hi ≤ (gR zs d).hi) ∨
  (ev = 0 ∧ ev' = 9 ∧ s = 7 ∧ t = 0 ∧ r = [] ∧ 0 < m.length ∧ m.length ≤ nl + 1) ∨
  (ev = 9 ∧ ev' = 9 ∧ s = 0 ∧ t = 0 ∧ k' ≤ k ∧ 0 < r.length ∧ r.length ≤ m.length ∧ m.length ≤ nl + 1)
theorem shows_yes (hok : Ok g h) (hn : agreeB g h [] off0 = true) {k s : Int} (ha : agreeB g h l off0 = true) (hs : ShowsV g h l k s) : s = 7 := by
  rcases hs with ⟨j, rfl, h1, h2, h3, rfl⟩ | ⟨h1, rfl, rfl⟩
  · rw [(shows_none hok hn).2 ha j h1] at h3; cases h3
  · rfl
theorem shows_no (hok : Ok g h) (hn : agreeB g h [] off0 = true) {k s : Int} (ha : agreeB g h l off0 = false) (hs : ShowsV g h l k s) : s = 0 ∧ ∃ j : Nat, k = (j : Int) ∧ j < l.length ∧ (∀ i, i < j → agreeB g h (l.take (i + 1)) off0 = true) ∧ agreeB g h (l.take (j + 1)) off0 = false := by
  rcases hs with ⟨j, rfl, h1, h2, h3, rfl⟩ | ⟨h1, rfl, rfl⟩
  · exact ⟨rfl, j, rfl, h1, h2, h3⟩
  · rw [(shows_none hok hn).1 h1] at ha; cases ha
theorem more_all (hok : Ok g h) (hn : agreeB g h [] off0 = true) (hf : Finer l x) (hx : x.length = l.length + 1) {n n' : Nat} {ev ev' s k t k' : Int} {r m : List Int} {zs zs' : List Rg}
    (h1 : ZerosV g h l n ev zs) (h2 : ZerosV g h x n' ev' zs') (h3 : ShowsV g h l k s) (h4 : ShowsV g h x k' t) (h5 : FewIs (listsL g h l) l.length r) (h6 : FewIs (listsL g h x) x.length m) :
    MoreIs n n' l.length ev ev' s k t k' r m zs zs' := by
  have hm := few_len' h6
  rcases h1 with ⟨a1, rfl, rfl⟩ | ⟨a1, rfl, rfl, hz⟩
  · have b1 : agreeB g h x off0 = false := by
      cases hb : agreeB g h x off0
      · rfl
      · rw [hf.agree hok hb] at a1; cases a1
    rcases h2 with ⟨_, rfl, rfl⟩ | ⟨b2, _⟩
    · obtain ⟨rfl, j, rfl, j1, j2, j3⟩ := shows_no hok hn a1 h3
      obtain ⟨rfl, i, rfl, i1, i2, i3⟩ := shows_no hok hn b1 h4
      refine .inr (.inr ⟨rfl, rfl, rfl, rfl, ?_, few_nil hok hn h5 a1, few_mono hok hf h5 h6, by omega⟩)
      rcases Nat.lt_or_ge j i with hlt | hge
      · have := (hf.take (j + 1)).agree hok (i2 j hlt)
        rw [this] at j3; cases j3
      · omega
    · rw [b1] at b2; cases b2
  · rcases h2 with ⟨b1, rfl, rfl⟩ | ⟨b1, rfl, rfl, hz'⟩
    · obtain ⟨rfl, i, rfl, i1, i2, i3⟩ := shows_no hok hn b1 h4
      exact .inr (.inl ⟨rfl, rfl, shows_yes hok hn a1 h3, rfl, few_none a1 h5, few_nil hok hn h6 b1, by omega⟩)
    · refine .inl ⟨rfl, rfl, shows_yes hok hn a1 h3, shows_yes hok hn b1 h4, few_none a1 h5, few_none b1 h6, rfl, fun d hd => ?_⟩
      have e1 := ((zs_iff hok).1 hz).2 d hd
      have e2 := ((zs_iff hok).1 hz').2 d hd
      have key : ∀ z, ZAt g h x d z → ZAt g h l d z := fun z hz => by
        obtain ⟨σ, p, f, e⟩ := hz
        exact ⟨σ, p, fun d hd => hf.fits (f d hd), e⟩
      exact ⟨(e1.2.2 _ (key _ e2.1)).1, (e1.2.2 _ (key _ e2.2.1)).2⟩
end
end Go.Proofs.Ytlgmeofpkfliaaa
end

section
namespace Go.Proofs.Ytlgmeofpkfliaaa
open Go.RowKit

section
variable {g : Gl} {h : List Rg} {l : List Ic} {t1 t2 t3 : List Int}
/-- those that are read wrong. -/
def wrongO (b : Int) (i : Nat) : Bool := decide ((b / 2 ^ i).tmod 2 = 1)
theorem ReadIs.agree (hok : Ok g h) (ht : truthB g h t1 t2 t3 = true) {b : Int} (hr : ReadIs (playTo g t1 t2 t3 h.length) b l) : agreeB g h l (wrongO b) = true := by
  refine (agree_iff hok).2 ⟨_, path_st ht, fun d hd => ?_⟩
  unfold fitsB
  rw [allTo_iff]
  intro k hk
  unfold fitOk
  by_cases hw : (b / 2 ^ k).tmod 2 = 1
  · simp [wrongO, hw]
  · have hk' := (hr k hk).2.2 hw
    by_cases hd' : (gC l k).day = (d : Int)
    · rw [hd'] at hk'
      have e : zero g (stAt g t1 t2 t3 (d + 1)) = gI (playTo g t1 t2 t3 h.length) d := by rw [gI_play hd]; rfl
      have : inB (zero g (stAt g t1 t2 t3 (d + 1)) - (gC l k).zero) (-(gC l k).err) (gC l k).err = true := inB_iff.2 (by rw [e]; simpa using hk')
      rw [this]
      simp
    · simp [hd']
theorem nil_agree (hok : Ok g h) (ht : truthB g h t1 t2 t3 = true) (o : Nat → Bool) : agreeB g h [] o = true := (agree_iff hok).2 ⟨_, path_st ht, fun _ _ => fits_nil⟩
theorem cnt_snoc {O : Nat → Bool} : ∀ {f n : Nat}, cnt O n (f + 1) = cnt O n f + (if O (n + f) then 1 else 0)
  | 0, n => by simp [cnt]
  | f + 1, n => by
    rw [cnt, cnt_snoc (f := f) (n := n + 1), cnt, show n + 1 + f = n + (f + 1) by omega]
    omega
theorem cnt_of {b : Int} : ∀ {n : Nat}, cnt (wrongO b) 0 n = (ofL b n).length
  | 0 => rfl
  | n + 1 => by
    rw [cnt_snoc, cnt_of (n := n), ofL, Nat.zero_add]
    by_cases hw : (b / 2 ^ n).tmod 2 = 1
    · simp [wrongO, hw]
    · simp [wrongO, hw]
/-- no bits beyond the ices. -/
theorem ofL_mask {b : Int} (hb : 0 ≤ b) : ∀ {n m : Nat}, n ≤ m → ofL (b % 2 ^ m) n = ofL b n
  | 0, _, _ => rfl
  | n + 1, m, hm => by
    rw [ofL, ofL, ofL_mask hb (show n ≤ m by omega)]
    have e : (b % 2 ^ m / 2 ^ n).tmod 2 = (b / 2 ^ n).tmod 2 := by
      have p1 : (0 : Int) < 2 ^ n := Int.pow_pos (by omega)
      have p2 : (0 : Int) < 2 ^ m := Int.pow_pos (by omega)
      rw [Int.tmod_eq_emod_of_nonneg (Int.ediv_nonneg (Int.emod_nonneg _ (by omega)) (by omega)), Int.tmod_eq_emod_of_nonneg (Int.ediv_nonneg hb (by omega))]
      have em : (2 : Int) ^ m = 2 ^ n * (2 * 2 ^ (m - n - 1)) := by
        rw [← Int.mul_assoc, ← Int.pow_succ, ← Int.pow_add, show n + 1 + (m - n - 1) = m by omega]
      have e2 : b = 2 ^ n * (2 * (2 ^ (m - n - 1) * (b / 2 ^ m))) + b % 2 ^ m := by
        have := Int.mul_ediv_add_emod b (2 ^ m)
        rw [em] at this ⊢
        rw [show (2 : Int) ^ n * (2 * (2 ^ (m - n - 1) * (b / (2 ^ n * (2 * 2 ^ (m - n - 1)))))) = 2 ^ n * (2 * 2 ^ (m - n - 1)) * (b / (2 ^ n * (2 * 2 ^ (m - n - 1)))) by simp only [Int.mul_assoc]]
        omega
      conv => rhs; rw [e2, Int.add_comm, Int.add_mul_ediv_left _ _ (by omega), Int.add_mul_emod_self_left]
    rw [e]
/-- the ices that are left. -/
def leftL (l : List Ic) (r : List Int) : Nat → List Ic
  | 0 => []
  | k + 1 => if hasB r (k : Int) then leftL l r k else leftL l r k ++ [gC l k]
theorem leftL_len {r : List Int} : ∀ {k : Nat}, (leftL l r k).length ≤ k
  | 0 => by simp [leftL]
  | k + 1 => by
    have := leftL_len (r := r) (k := k)
    rw [leftL]; split
    · omega
    · simp; omega
theorem left_fits {r : List Int} {d z : Int} : ∀ {k : Nat}, (∀ j, j < k → hasB r (j : Int) = false → fitOk l off0 d z j = true) → fitsB (leftL l r k) off0 d z = true
  | 0, _ => rfl
  | k + 1, hk => by
    have ih := left_fits (r := r) (k := k) (fun j hj => hk j (by omega))
    rw [leftL]
    cases hh : hasB r (k : Int)
    · rw [if_neg (by simp)]
      refine (fits_app rfl).2 ⟨ih, fun hd => ?_⟩
      have := hk k (by omega) hh
      unfold fitOk at this
      rw [hd] at this
      simpa [off0, inB_iff] using this
    · rw [if_pos rfl]; exact ih
theorem left_nil : ∀ {k : Nat} {r : List Int}, (∀ j : Nat, j < k → (j : Int) ∈ r) → leftL l r k = []
  | 0, _, _ => rfl
  | k + 1, r, hr => by
    rw [leftL, if_pos (show hasB r (k : Int) = true from decide_eq_true (hr k (by omega)))]
    exact left_nil (fun j hj => hr j (by omega))
theorem left_agree (hok : Ok g h) (hn : agreeB g h [] off0 = true) {r : List Int} (hf : FewIs (listsL g h l) l.length r) : agreeB g h (leftL l r l.length) off0 = true := by
  rcases few_off hf with rfl | ⟨o, ha, ho⟩
  · rw [left_nil (l := l) (k := l.length) (r := seqL l.length) (fun j hj => List.mem_map.2 ⟨j, List.mem_range.2 hj, rfl⟩)]; exact hn
  · obtain ⟨σ, p, f⟩ := (agree_iff hok).1 ha
    refine (agree_iff hok).2 ⟨σ, p, fun d hd => left_fits (fun j hj hh => ?_)⟩
    have h1 := f d hd
    unfold fitsB at h1
    have h2 := allTo_iff.1 h1 j hj
    have h3 : o j = false := by
      cases hoj : o j
      · rfl
      · have := (ho j).1 hoj
        unfold hasB at hh
        simp [this] at hh
    unfold fitOk at h2 ⊢
    rw [h3] at h2
    exact h2
theorem left_all {P : Ic → Prop} (hp : ∀ j, j < l.length → P (gC l j)) {r : List Int} : ∀ {k : Nat}, k ≤ l.length → ∀ j, j < (leftL l r k).length → P (gC (leftL l r k) j)
  | 0, _, j, hj => by simp [leftL] at hj
  | k + 1, hk, j, hj => by
    rw [leftL] at hj ⊢
    split at hj
    · rename_i hc
      rw [if_pos hc]; exact left_all hp (by omega) j hj
    · rename_i hc
      rw [if_neg hc]
      rw [List.length_append, List.length_singleton] at hj
      rcases Nat.lt_succ_iff_lt_or_eq.1 hj with hj | hj
      · rw [gC_app hj]; exact left_all hp (by omega) j hj
      · subst hj; rw [gC_end]; exact hp k (by omega)
theorem ics_sub {n : Nat} {l x : List Ic} (h0 : icsF n l = 0) (hx : x.length ≤ l.length) (hp : ∀ P : Ic → Prop, (∀ j, j < l.length → P (gC l j)) → ∀ j, j < x.length → P (gC x j)) : icsF n x = 0 := by
  unfold icsF at h0 ⊢
  split at h0
  · cases h0
  · rename_i h8
    rw [if_neg (by omega)]
    split at h0
    · cases h0
    · rename_i h2
      have h2' : allTo (iceOk n l) l.length = true := by simpa using h2
      rw [if_neg]
      rw [Bool.not_eq_false, allTo_iff]
      exact hp (fun c => (inB c.day 0 ((n : Int) - 1) && (inB c.zero (-2000) 2000 && inB c.err 0 20)) = true) (allTo_iff.1 h2')
theorem left_ics {n : Nat} {r : List Int} (h0 : icsF n l = 0) : icsF n (leftL l r l.length) = 0 := ics_sub h0 leftL_len (fun _ hp => left_all hp (Nat.le_refl _))
theorem take_ics {n k : Nat} (h0 : icsF n l = 0) : icsF n (l.take k) = 0 := ics_sub h0 (by rw [List.length_take]; omega) (fun _ hp j hj => by
  rw [List.length_take] at hj
  rw [gC_take' (by omega)]; exact hp j (by omega))
theorem pick_bd {A : (Nat → Bool) → Bool} {many : Nat} {L : List Int} {y : Int} (hy : y ∈ L) : ∀ (f n : Nat) (lv : List Int) (o : Nat → Bool), L ∈ pickL A many f lv o n → y ∈ lv ∨ ((n : Int) ≤ y ∧ y < (n : Int) + f) := by
  intro f
  induction f with
  | zero =>
    intro n lv o hL
    unfold pickL at hL
    split at hL
    · split at hL
      · rw [List.mem_singleton] at hL; subst hL; exact .inl hy
      · cases hL
    · simp [loopL] at hL
  | succ f ih =>
    intro n lv o hL
    unfold pickL at hL
    split at hL
    · split at hL
      · rw [List.mem_singleton] at hL; subst hL; exact .inl hy
      · cases hL
    · rename_i hm
      rw [loopL_succ, List.mem_append] at hL
      rcases hL with hL | hL
      · rcases ih (n + 1) _ _ hL with h | h
        · rw [List.mem_append, List.mem_singleton] at h
          rcases h with h | h
          · exact .inl h
          · right; omega
        · right; omega
      · rcases ih (n + 1) lv o (by unfold pickL; rw [if_neg hm]; exact hL) with h | h
        · exact .inl h
        · right; omega
/-- what Blame tells beside Fewest. -/
theorem blame_all (hok : Ok g h) (hn : ∀ o, agreeB g h [] o = true) {r : List Int} {k ev : Int} (hf : FewIs (listsL g h l) l.length r) (hb : BlameV g h l k ev) : (ev = 0 ∧ r = [k]) ∨ (ev = 7 ∧ ¬ (r.length = 1 ∧ l.length = 1)) := by
  rcases hb with ⟨h1, rfl, rfl⟩ | ⟨h1, h2, rfl⟩
  · right
    refine ⟨rfl, fun ⟨h3, h4⟩ => ?_⟩
    rcases h1 with h1 | h1
    · rw [few_none h1 hf] at h3; cases h3
    · apply h1
      have hall : agreeB g h l (setO off0 0) = true := by
        refine (agree_iff hok).2 ?_
        obtain ⟨σ, p, _⟩ := (agree_iff hok).1 (hn off0)
        refine ⟨σ, p, fun d hd => ?_⟩
        unfold fitsB
        rw [allTo_iff]
        intro j hj
        have : j = 0 := by omega
        subst this
        unfold fitOk
        simp [setO]
      unfold listsL pickL
      rw [if_neg (by simp), h4]
      simp [loopL, hall]
  · left
    refine ⟨rfl, ?_⟩
    have l0 : listsL g h l 0 = [] := by
      unfold listsL pickL
      rw [if_pos (by rfl), if_neg (by rw [h1]; simp)]
    have hk : (0 : Int) ≤ k ∧ k < (l.length : Int) := by
      have hkm : [k] ∈ listsL g h l 1 := by rw [h2]; simp
      have := pick_bd (A := agreeB g h l) (many := 1) (L := [k]) (y := k) (by simp) l.length 0 [] off0 hkm
      rcases this with h | h
      · cases h
      · omega
    rcases hf with ⟨j, hj, a1, ls, a2⟩ | ⟨a1, a2⟩
    · rcases Nat.lt_trichotomy j 1 with hlt | he | hlt
      · have : j = 0 := by omega
        subst this; rw [l0] at a2; cases a2
      · subst he; rw [h2] at a2; injection a2 with a2 _; exact a2.symm
      · have := a1 1 hlt; rw [h2] at this; cases this
    · rcases Nat.lt_trichotomy l.length 1 with hlt | he | hlt
      · omega
      · rw [a2, he]
        have : k = 0 := by omega
        subst this; rfl
      · have := a1 1 hlt; rw [h2] at this; cases this
end
end Go.Proofs.Ytlgmeofpkfliaaa
end

section
namespace Go.Proofs.Ytlgmeofpkfliaaa
open Go.RowKit
/-- the order in which a region's operations are gone through. -/
inductive Tr where
  | done : Tr
  | quiet : Nat → Tr → Tr
  | loud : Nat → Tr → Tr
  | fork : Nat → Tr → Nat → Tr → Tr
def Tr.len : Tr → Nat
  | .done => 0
  | .quiet _ t => t.len + 1
  | .loud _ t => t.len + 1
  | .fork _ t _ _ => t.len + 1
section
variable {P : Program} {ops : Array Oper} {md : Region.Mode} {S : World → Prop} {Q : Exit → Act → World → Prop}

def wpTr (P : Program) (ops : Array Oper) (Q : Exit → Act → World → Prop) (S : World → Prop) (T : Act → World → Prop) : Tr → Act → World → Prop
  | .done, a, w => T a w
  | .quiet k t, a, w => ∀ o, ops[k]? = some o → wpQuiet P ops S (fun a' => wpTr P ops Q S T t a' w) [o] a
  | .loud k t, a, w => wpOne P ops Q k (fun a' w' => S w' ∧ wpTr P ops Q S T t a' w') a w
  | .fork i t j u, a, w => wpOne P ops Q i (fun a' w' => S w' ∧ wpTr P ops Q S T t a' w') a w ∧ wpOne P ops Q j (fun a' w' => S w' ∧ wpTr P ops Q S T u a' w') a w

def trB (md : Region.Mode) (ops : Array Oper) (n g : Nat) : Tr → Array Bool → Bool
  | .done, listed => Region.seqB md ops g n listed
  | .quiet k t, listed => decide (k < n) && ((Region.ready md ops listed).contains k && Region.free md ops listed k && (match ops[k]? with | some o => mute o.op | none => false)) && trB md ops n g t (listed.setIfInBounds k true)
  | .loud k t, listed => decide (k < n) && decide (Region.ready md ops listed = [k]) && trB md ops n g t (listed.setIfInBounds k true)
  | .fork i t j u, listed => decide (Region.ready md ops listed = [i, j]) && decide (i < n) && decide (j < n) && decide (t.len = u.len) && trB md ops n g t (listed.setIfInBounds i true) && trB md ops n g u (listed.setIfInBounds j true)

def treeB (md : Region.Mode) (ops : Array Oper) (n : Nat) (t : Tr) : Bool :=
  Region.noSelect ops && decide (n < ops.size) && Region.sinkB md ops n && Region.chainB md ops n && trB md ops n (ops.size - n) t (Array.replicate ops.size false)

theorem tr_head {n g : Nat} {T : Act → World → Prop} (hsel : Region.noSelect ops = true) (hQ : ∀ d v c a w, Q (.panic c) (a.put d v) w → Q (.panic c) a w)
    (hs : Region.sinkB md ops n = true) (hc : Region.chainB md ops n = true) (hn : n < ops.size) :
    ∀ (t : Tr) (listed : Array Bool) (a : Act) (w : World), HeadInv md ops n listed → trB md ops n g t listed = true → S w →
      wpTr P ops Q S T t a w → wpAnyLH P md ops Q S n (fun listed' a' w' => Region.seqB md ops g n listed' = true ∧ T a' w') t.len listed a w
  | .done, listed, a, w, _, hB, _, h => ⟨hB, h⟩
  | .fork i t j u, listed, a, w, inv, hB, hS, h => by
    simp only [trB, Bool.and_eq_true, decide_eq_true_eq] at hB
    obtain ⟨⟨⟨⟨⟨hr, hi⟩, hj⟩, hl⟩, hA⟩, hBB⟩ := hB
    refine ⟨by rw [hr]; simp, fun k hk => ?_⟩
    rw [hr] at hk
    rcases List.mem_cons.1 hk with rfl | hk
    · exact ⟨hi, wpOp_mono (fun a' w' h' => ⟨h'.1, tr_head hsel hQ hs hc hn t _ a' w' (inv.set (by rw [hr]; simp) hi) hA h'.1 h'.2⟩) (wpOp_one hn hi h.1)⟩
    · obtain rfl := List.mem_singleton.1 hk
      refine ⟨hj, wpOp_mono (fun a' w' h' => ⟨h'.1, ?_⟩) (wpOp_one hn hj h.2)⟩
      rw [hl]
      exact tr_head hsel hQ hs hc hn u _ a' w' (inv.set (by rw [hr]; simp) hj) hBB h'.1 h'.2
  | .loud k t, listed, a, w, inv, hB, hS, h => by
    simp only [trB, Bool.and_eq_true, decide_eq_true_eq] at hB
    obtain ⟨⟨hk, hr⟩, hB'⟩ := hB
    have h' : wpOne P ops Q k (fun a' w' => S w' ∧ wpTr P ops Q S T t a' w') a w := h
    refine ⟨by rw [hr]; simp, fun x hx => ?_⟩
    rw [hr] at hx
    have hik : x = k := by simpa using hx
    subst hik
    exact ⟨hk, wpOp_mono (fun a' w' h' => ⟨h'.1, tr_head hsel hQ hs hc hn t _ a' w' (inv.set (by rw [hr]; simp) hk) hB' h'.1 h'.2⟩) (wpOp_one hn hk h')⟩
  | .quiet k t, listed, a, w, inv, hB, hS, h => by
    simp only [trB, Bool.and_eq_true, decide_eq_true_eq] at hB
    obtain ⟨⟨hk, ⟨hr, hf⟩, hm⟩, hB'⟩ := hB
    obtain ⟨o, hk0⟩ : ∃ o, ops[k]? = some o := ⟨ops[k]'(by omega), by simp [show k < ops.size by omega]⟩
    simp only [hk0] at hm
    have h' : wpQuiet P ops S (fun a' => wpTr P ops Q S T t a' w) [o] a := h o hk0
    have hr' : k ∈ Region.ready md ops listed := by simpa using hr
    have hst : qOp P ops S k (wpQuiet P ops S (fun a' => wpTr P ops Q S T t a' w) []) a := by unfold qOp; simp only [hk0]; exact h'
    obtain ⟨v, hy, hK⟩ := yieldsIn_of_qOp hk0 hst
    exact wpAnyLH_first hk0 (Region.noSelect_spec hsel) (hQ _ _) hs hc hn hk (fun listed' a' w' hL => seqB_ready hL.1) t.len listed a w inv (Region.free_spec hk0 hf) hr' (mute_if hm hy) hS
      (tr_head hsel hQ hs hc hn t _ _ w (inv.set hr' hk) hB' hS hK)

/-- what is left of the region: a tree. -/
def wpTree (P : Program) (l : List Oper) (Q : Exit → Act → World → Prop) (S : World → Prop) (n : Nat) (t : Tr) (a : Act) (w : World) : Prop :=
  wpTr P l.toArray Q S (fun a'' w'' => wpList P l.toArray Q (l.drop n) a'' w'') t a w
theorem tree_done {l r : List Oper} {n : Nat} {a : Act} {w : World} (hr : l.drop n = r) (h : wpList P l.toArray Q r a w) : wpTree P l Q S n .done a w := by subst hr; exact h
theorem tree_loud {l : List Oper} {n k : Nat} {t : Tr} {o : Oper} {a : Act} {w : World} (ho : l[k]? = some o)
    (h : wpList P l.toArray (fun e a' w' => match e with | .normal => S w' ∧ wpTree P l Q S n t a' w' | e => Q e a' w') [o] a w) : wpTree P l Q S n (.loud k t) a w := by
  show wpOne P l.toArray Q k _ a w
  intro o' ho'
  have : o' = o := by rw [List.getElem?_toArray, ho] at ho'; exact (Option.some.inj ho').symm
  subst this
  exact h
theorem tree_quiet {l : List Oper} {n k : Nat} {t : Tr} {o : Oper} {a : Act} {w : World} (ho : l[k]? = some o)
    (h : wpQuiet P l.toArray S (fun a' => wpTree P l Q S n t a' w) [o] a) : wpTree P l Q S n (.quiet k t) a w := by
  intro o' ho'
  have : o' = o := by rw [List.getElem?_toArray, ho] at ho'; exact (Option.some.inj ho').symm
  subst this
  exact h
theorem tree_fork {l : List Oper} {n i j : Nat} {t u : Tr} {oi oj : Oper} {a : Act} {w : World} (hi : l[i]? = some oi) (hj : l[j]? = some oj)
    (h1 : wpList P l.toArray (fun e a' w' => match e with | .normal => S w' ∧ wpTree P l Q S n t a' w' | e => Q e a' w') [oi] a w)
    (h2 : wpList P l.toArray (fun e a' w' => match e with | .normal => S w' ∧ wpTree P l Q S n u a' w' | e => Q e a' w') [oj] a w) : wpTree P l Q S n (.fork i t j u) a w := by
  refine ⟨fun o' ho' => ?_, fun o' ho' => ?_⟩
  · have : o' = oi := by rw [List.getElem?_toArray, hi] at ho'; exact (Option.some.inj ho').symm
    subst this
    exact h1
  · have : o' = oj := by rw [List.getElem?_toArray, hj] at ho'; exact (Option.some.inj ho').symm
    subst this
    exact h2
theorem wp_region_tree {id : Nat} {a : Act} {w : World} {l : List Oper} (n : Nat) (t : Tr) (S : World → Prop) (hm : P.follows .mixedOrders = true)
    (hB : (treeB .any l.toArray n t && decide (t.len = n)) = true) (hQ : ∀ d v c a w, Q (.panic c) (a.put d v) w → Q (.panic c) a w)
    (hS : S w.drew) (h : wpTree P l Q S n t a w.drew) : (Code.region id l.toArray true).wp P Q a w := by
  simp only [treeB, Bool.and_eq_true, decide_eq_true_eq] at hB
  obtain ⟨⟨⟨⟨⟨hsel, hn⟩, hs⟩, hc⟩, hlex⟩, hlen⟩ := hB
  have hdl : (l.drop n).length = l.toArray.size - n := by simp
  have inv0 : HeadInv .any l.toArray n (Array.replicate l.toArray.size false) :=
    ⟨by simp, fun j oj _ hl => (by rw [getD_replicate_false] at hl; cases hl), fun t _ ht => getD_in (by simpa using ht) (getD_replicate_false _ _)⟩
  have H := tr_head (md := .any) (g := l.toArray.size - n) (T := fun a'' w'' => wpList P l.toArray Q (l.drop n) a'' w'') hsel hQ hs hc hn t _ a _ inv0 hlex hS h
  refine wp_region_any hm ?_
  have := wpAny_of_headH (g := l.toArray.size - n) (fun listed' a' w' hL => by
    have := wpAny_of_seq (md := .any) (l.drop n) n listed' a' w' (fun j => by simp [List.getElem?_drop]) (by rw [hdl]; exact hL.1) hL.2
    rwa [hdl] at this) _ _ _ _ H
  rw [hlen, show n + (l.toArray.size - n) = l.toArray.size by omega] at this
  exact this
theorem wp_region_ext_tree {id : Nat} {a : Act} {w : World} {l : List Oper} (n : Nat) (t : Tr) (hm : P.follows .mixedOrders = true)
    (hB : (treeB .any l.toArray n t && decide (t.len = n)) = true) (hQ : ∀ d v c a w, Q (.panic c) (a.put d v) w → Q (.panic c) a w)
    (h : wpTree P l Q (fun w' => ∃ x : Ex w, w' = x.W) n t a w.drew) : (Code.region id l.toArray true).wp P Q a w :=
  wp_region_tree n t _ hm hB hQ (inEx (Below.refl w.heap.size w).drew) h
end
end Go.Proofs.Ytlgmeofpkfliaaa
end
