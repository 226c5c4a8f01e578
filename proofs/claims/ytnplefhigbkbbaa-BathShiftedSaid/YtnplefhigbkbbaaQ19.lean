/- Bath's laws: a series shifted, a series turned (plain). · Bath's laws: the reading of a series as an argument, with its baths' room told. · Bath's laws: BathShifted (walk). -/
import Derived.Deep.CutBlock
import Derived.Test.YtnplefhigbkbbaaQ13
import Derived.Test.YtnplefhigbkbbaaQ12
import Derived.Test.YtnplefhigbkbbaaQ2
import Derived.Test.YtnplefhigbkbbaaQ10
import Derived.Test.YtnplefhigbkbbaaQ11
set_option linter.unusedVariables false
set_option linter.unusedSimpArgs false
set_option linter.unusedSectionVars false
section
namespace Go.Proofs.Ytnplefhigbkbbaa
open Go.RowKit
attribute [local go_sem] Ex.cell? Ex.frozen?

/-- a reading whose Value is more by n, if it is of the instrument k. -/
def shR (k : Nat) (n : Int) (r : Rd) : Rd := if r.inst = (k : Int) then ⟨r.inst, r.val + n⟩ else r
def shB (s : Se) (k : Nat) (n : Int) (b : Nat) : Bt := ⟨(gBt s.baths b).heat, (gBt s.baths b).reads.map (shR k n)⟩
/-- a series in which the instrument k shows more by n. -/
def shS (s : Se) (k : Nat) (n : Int) : Se := ⟨s.offs.set k ⟨(gR s.offs k).lo + n, (gR s.offs k).hi + n⟩, s.err, (List.range s.baths.length).map (shB s k n)⟩
/-- how much more the instrument j shows. -/
def shV (k : Nat) (n : Int) (j : Nat) : Int := if j = k then n else 0
/-- a series with its baths turned. -/
def tuS (s : Se) (i : Nat) : Se := ⟨s.offs, s.err, s.baths.drop i ++ s.baths.take i⟩
section
variable {s : Se} {k : Nat} {n : Int}
theorem shS_lb : (shS s k n).baths.length = s.baths.length := by unfold shS; simp
theorem shS_lo : (shS s k n).offs.length = s.offs.length := by unfold shS; simp
theorem shS_bt {b : Nat} (hb : b < s.baths.length) : gBt (shS s k n).baths b = shB s k n b := by unfold gBt shS; simp [hb]
theorem shS_lr {b : Nat} (hb : b < s.baths.length) : (gBt (shS s k n).baths b).reads.length = (gBt s.baths b).reads.length := by rw [shS_bt hb]; unfold shB; simp
theorem shS_rd {b i : Nat} (hb : b < s.baths.length) (hi : i < (gBt s.baths b).reads.length) : gRd (gBt (shS s k n).baths b).reads i = shR k n (gRd (gBt s.baths b).reads i) := by
  rw [shS_bt hb]
  unfold shB gRd
  simp [hi]
theorem shS_of {j : Nat} (hk : k < s.offs.length) : gR (shS s k n).offs j = ⟨(gR s.offs j).lo + shV k n j, (gR s.offs j).hi + shV k n j⟩ := by
  show gR (s.offs.set k _) j = _
  rw [gR_set hk]
  unfold shV
  by_cases e : j = k
  · subst e; rw [if_pos rfl, if_pos rfl]
  · rw [if_neg e, if_neg e, Int.add_zero, Int.add_zero]
theorem shR_inst {r : Rd} : (shR k n r).inst = r.inst := by unfold shR; split <;> rfl
theorem shR_val {r : Rd} (h : 0 ≤ r.inst) : (shR k n r).val = r.val + shV k n r.inst.toNat := by
  unfold shR shV
  by_cases e : r.inst = (k : Int)
  · rw [if_pos e, if_pos (by omega)]
  · rw [if_neg e, if_neg (by omega), Int.add_zero]
theorem shS_tru (hok : SeOk s) (hk : k < s.offs.length) {o h : Nat → Int} (ht : Tru s (fun _ => false) o h) : Tru (shS s k n) (fun _ => false) (fun j => o j + shV k n j) h := by
  refine Tru.of_reads (fun j hj => ?_) (fun b hb => ?_) (fun b hb i hi => ?_)
  · rw [shS_lo] at hj
    rw [shS_of hk]
    have := ht.offs j hj
    show (gR s.offs j).lo + shV k n j ≤ o j + shV k n j ∧ o j + shV k n j ≤ (gR s.offs j).hi + shV k n j
    omega
  · rw [shS_lb] at hb
    rw [shS_bt hb]
    exact ht.heats b hb
  · rw [shS_lb] at hb
    rw [shS_lr hb] at hi
    rw [shS_rd hb hi, shR_inst, shR_val (hok.inst b hb i hi).1]
    have := ht.read (fun _ => rfl) hb hi
    show _ - s.err ≤ _ ∧ _ ≤ _ + s.err
    omega
theorem shS_back (hok : SeOk s) (hk : k < s.offs.length) {o h : Nat → Int} (ht : Tru (shS s k n) (fun _ => false) o h) : Tru s (fun _ => false) (fun j => o j - shV k n j) h := by
  refine Tru.of_reads (fun j hj => ?_) (fun b hb => ?_) (fun b hb i hi => ?_)
  · have h1 := ht.offs j (by rw [shS_lo]; exact hj)
    rw [shS_of hk] at h1
    have h2 : (gR s.offs j).lo + shV k n j ≤ o j ∧ o j ≤ (gR s.offs j).hi + shV k n j := h1
    omega
  · have h1 := ht.heats b (by rw [shS_lb]; exact hb)
    rw [shS_bt hb] at h1
    exact h1
  · have h1 := ht.read (fun _ => rfl) (b := b) (i := i) (by rw [shS_lb]; exact hb) (by rw [shS_lr hb]; exact hi)
    rw [shS_rd hb hi, shR_inst, shR_val (hok.inst b hb i hi).1] at h1
    have h2 : (shS s k n).err = s.err := rfl
    rw [h2] at h1
    omega
theorem shS_can (hok : SeOk s) (hk : k < s.offs.length) : Can (shS s k n) ↔ Can s := ⟨fun ⟨_, _, h⟩ => ⟨_, _, shS_back hok hk h⟩, fun ⟨_, _, h⟩ => ⟨_, _, shS_tru hok hk h⟩⟩
theorem shS_off (hok : SeOk s) (hk : k < s.offs.length) {j : Nat} {lo hi : Int} (h : EndsOf (OffZ s j) lo hi) : EndsOf (OffZ (shS s k n) j) (lo + shV k n j) (hi + shV k n j) := by
  obtain ⟨⟨o1, h1, t1, e1⟩, ⟨o2, h2, t2, e2⟩, h3⟩ := h
  refine ⟨⟨_, _, shS_tru hok hk t1, by rw [e1]⟩, ⟨_, _, shS_tru hok hk t2, by rw [e2]⟩, ?_⟩
  rintro z ⟨o, h, t, rfl⟩
  have := h3 _ ⟨_, _, shS_back hok hk t, rfl⟩
  omega
theorem shS_heat (hok : SeOk s) (hk : k < s.offs.length) {b : Nat} {lo hi : Int} (h : EndsOf (HeatZ s b) lo hi) : EndsOf (HeatZ (shS s k n) b) lo hi := by
  obtain ⟨⟨o1, h1, t1, e1⟩, ⟨o2, h2, t2, e2⟩, h3⟩ := h
  refine ⟨⟨_, _, shS_tru hok hk t1, e1⟩, ⟨_, _, shS_tru hok hk t2, e2⟩, ?_⟩
  rintro z ⟨o, h, t, rfl⟩
  exact h3 _ ⟨_, _, shS_back hok hk t, rfl⟩
/-- where the bath at j of the turned series stood. -/
def tuI (s : Se) (i j : Nat) : Nat := if j < s.baths.length - i then i + j else j - (s.baths.length - i)
variable {i : Nat}
theorem tuS_lb (hi : i ≤ s.baths.length) : (tuS s i).baths.length = s.baths.length := by unfold tuS; simp; omega
theorem tuS_bt (hi : i ≤ s.baths.length) {j : Nat} (hj : j < s.baths.length) : gBt (tuS s i).baths j = gBt s.baths (tuI s i j) := by
  unfold tuS tuI gBt
  by_cases h : j < s.baths.length - i
  · rw [if_pos h]
    have h1 : i + j < s.baths.length := by omega
    simp [List.getElem?_append, h, h1]
  · rw [if_neg h]
    have h1 : j - (s.baths.length - i) < i := by omega
    simp [List.getElem?_append, h, List.getElem?_take, h1]
theorem tuI_lt (hi : i ≤ s.baths.length) {j : Nat} (hj : j < s.baths.length) : tuI s i j < s.baths.length := by unfold tuI; split <;> omega
theorem tuI_onto (hi : i ≤ s.baths.length) {b : Nat} (hb : b < s.baths.length) : ∃ j, j < s.baths.length ∧ tuI s i j = b := by
  unfold tuI
  by_cases h : i ≤ b
  · exact ⟨b - i, by omega, by rw [if_pos (by omega)]; omega⟩
  · exact ⟨b + (s.baths.length - i), by omega, by rw [if_neg (by omega)]; omega⟩
theorem tuI_inj (hi : i ≤ s.baths.length) {j l : Nat} (hj : j < s.baths.length) (hl : l < s.baths.length) (h : tuI s i j = tuI s i l) : j = l := by
  unfold tuI at h
  split at h <;> split at h <;> omega
theorem tuS_ok (hok : SeOk s) (hi : i ≤ s.baths.length) : SeOk (tuS s i) := by
  have hg : ∀ b, b < (tuS s i).baths.length → gBt (tuS s i).baths b = gBt s.baths (tuI s i b) ∧ tuI s i b < s.baths.length := fun b hb => by
    rw [tuS_lb hi] at hb
    exact ⟨tuS_bt hi hb, tuI_lt hi hb⟩
  refine ⟨hok.no, by rw [tuS_lb hi]; exact hok.nb, hok.err, hok.offs, fun b hb => ?_, fun b hb => ?_, fun b hb => ?_, fun b hb => ?_⟩
  · rw [(hg b hb).1]; exact hok.heats _ (hg b hb).2
  · rw [(hg b hb).1]; exact hok.inst _ (hg b hb).2
  · rw [(hg b hb).1]; exact hok.once _ (hg b hb).2
  · rw [(hg b hb).1]; exact hok.val _ (hg b hb).2
theorem tuS_thn (ht : Thn s) (hi : i ≤ s.baths.length) : Thn (tuS s i) := ⟨ht.no, by rw [tuS_lb hi]; exact ht.nb, fun b hb => by
  rw [tuS_lb hi] at hb
  rw [tuS_bt hi hb]
  exact ht.nr _ (tuI_lt hi hb)⟩
theorem tuS_tru (hi : i ≤ s.baths.length) {o h : Nat → Int} (ht : Tru s (fun _ => false) o h) : Tru (tuS s i) (fun _ => false) o (fun j => h (tuI s i j)) := by
  refine Tru.of_reads ht.offs (fun b hb => ?_) (fun b hb j hj => ?_)
  · rw [tuS_lb hi] at hb
    rw [tuS_bt hi hb]
    exact ht.heats _ (tuI_lt hi hb)
  · rw [tuS_lb hi] at hb
    rw [tuS_bt hi hb] at hj ⊢
    exact ht.read (fun _ => rfl) (tuI_lt hi hb) hj
theorem tuS_back (hi : i ≤ s.baths.length) {o h : Nat → Int} (ht : Tru (tuS s i) (fun _ => false) o h) : ∃ h', Tru s (fun _ => false) o h' := by
  have hex : ∀ b, ∃ j, b < s.baths.length → j < s.baths.length ∧ tuI s i j = b := fun b => by
    by_cases hb : b < s.baths.length
    · obtain ⟨j, h1⟩ := tuI_onto hi hb
      exact ⟨j, fun _ => h1⟩
    · exact ⟨0, fun h => absurd h hb⟩
  obtain ⟨J, hJ⟩ := Classical.axiomOfChoice hex
  refine ⟨fun b => h (J b), Tru.of_reads ht.offs (fun b hb => ?_) (fun b hb j hj => ?_)⟩
  · obtain ⟨h1, h2⟩ := hJ b hb
    have h3 := ht.heats (J b) (by rw [tuS_lb hi]; exact h1)
    rw [tuS_bt hi h1, h2] at h3
    exact h3
  · obtain ⟨h1, h2⟩ := hJ b hb
    have h3 := ht.read (fun _ => rfl) (b := J b) (i := j) (by rw [tuS_lb hi]; exact h1) (by rw [tuS_bt hi h1, h2]; exact hj)
    rw [tuS_bt hi h1, h2] at h3
    exact h3
theorem tuS_can (hi : i ≤ s.baths.length) : Can (tuS s i) ↔ Can s := ⟨fun ⟨_, _, h⟩ => let ⟨_, h'⟩ := tuS_back hi h; ⟨_, _, h'⟩, fun ⟨_, _, h⟩ => ⟨_, _, tuS_tru hi h⟩⟩
theorem tuS_off (hi : i ≤ s.baths.length) {j : Nat} {lo hh : Int} (h : EndsOf (OffZ s j) lo hh) : EndsOf (OffZ (tuS s i) j) lo hh := by
  obtain ⟨⟨o1, h1, t1, e1⟩, ⟨o2, h2, t2, e2⟩, h3⟩ := h
  refine ⟨⟨_, _, tuS_tru hi t1, e1⟩, ⟨_, _, tuS_tru hi t2, e2⟩, ?_⟩
  rintro z ⟨o, h, t, rfl⟩
  obtain ⟨h', t'⟩ := tuS_back hi t
  exact h3 _ ⟨_, _, t', rfl⟩
theorem rgs_ext {l m : List Rg} (hl : l.length = m.length) (h : ∀ k, k < l.length → gR l k = gR m k) : l = m := List.ext_getElem hl fun k h1 h2 => by
  have := h k h1
  simpa [gR, h1, h2] using this
/-- the same ranges, if each has the same ends. -/
theorem rng_same {s' : Se} {N : Nat} {Z Z' : Nat → Int → Prop} {l l' : List Rg} {ev ev' : Int} (hok : SeOk s) (hok' : SeOk s') (hc : Can s' ↔ Can s) (hz : ∀ k, k < N → ∀ {a b}, EndsOf (Z k) a b → EndsOf (Z' k) a b) (h : RngV s N Z l ev) (h' : RngV s' N Z' l' ev') : ev' = ev ∧ l' = l := by
  rcases rng_ok h hok with ⟨h1, rfl, rfl⟩ | ⟨h1, rfl, h2, h3⟩
  · rcases rng_ok h' hok' with ⟨_, rfl, rfl⟩ | ⟨k1, _⟩
    · exact ⟨rfl, rfl⟩
    · exact absurd (hc.1 k1) h1
  · rcases rng_ok h' hok' with ⟨k1, _⟩ | ⟨_, rfl, k2, k3⟩
    · exact absurd (hc.2 h1) k1
    · refine ⟨rfl, rgs_ext (by rw [k2, h2]) (fun k hk => ?_)⟩
      rw [k2] at hk
      obtain ⟨e1, e2⟩ := (k3 k hk).uniq (hz k hk (h3 k hk))
      cases h4 : gR l' k
      cases h5 : gR l k
      rw [h4, h5] at e1 e2
      simp only at e1 e2
      rw [e1, e2]
theorem widB_self {l : List Rg} : widB l l = true := decide_eq_true ⟨rfl, fun _ _ => ⟨Int.le_refl _, Int.le_refl _⟩⟩
theorem turned {l l' : List Rg} {ev ev' : Int} (hok : SeOk s) (hi : i ≤ s.baths.length) (h : RngV s s.offs.length (OffZ s) l ev) (h' : RngV (tuS s i) (tuS s i).offs.length (OffZ (tuS s i)) l' ev') : ev' = ev ∧ l' = l :=
  rng_same hok (tuS_ok hok hi) (tuS_can hi) (fun _ _ => tuS_off hi) h h'
theorem shifted_heat {l l' : List Rg} {ev ev' : Int} (hok : SeOk s) (hok' : SeOk (shS s k n)) (hk : k < s.offs.length) (h : RngV s s.baths.length (HeatZ s) l ev) (h' : RngV (shS s k n) (shS s k n).baths.length (HeatZ (shS s k n)) l' ev') : ev' = ev ∧ l' = l := by
  rw [shS_lb] at h'
  exact rng_same hok hok' (shS_can hok hk) (fun _ _ => shS_heat hok hk) h h'
theorem shifted_off {l l' : List Rg} {ev ev' : Int} (hok : SeOk s) (hok' : SeOk (shS s k n)) (hk : k < s.offs.length) (h : RngV s s.offs.length (OffZ s) l ev) (h' : RngV (shS s k n) (shS s k n).offs.length (OffZ (shS s k n)) l' ev') :
    ev' = ev ∧ l'.length = l.length ∧ Hid (∀ j, j < l.length → gR l' j = ⟨(gR l j).lo + shV k n j, (gR l j).hi + shV k n j⟩) := by
  rw [shS_lo] at h'
  rcases rng_ok h hok with ⟨h1, rfl, rfl⟩ | ⟨h1, rfl, h2, h3⟩
  · rcases rng_ok h' hok' with ⟨_, rfl, rfl⟩ | ⟨k1, _⟩
    · exact ⟨rfl, rfl, Lib.hid (fun j hj => absurd hj (by simp))⟩
    · exact absurd ((shS_can hok hk).1 k1) h1
  · rcases rng_ok h' hok' with ⟨k1, _⟩ | ⟨_, rfl, k2, k3⟩
    · exact absurd ((shS_can hok hk).2 h1) k1
    · refine ⟨rfl, by rw [k2, h2], Lib.hid (fun j hj => ?_)⟩
      rw [h2] at hj
      obtain ⟨e1, e2⟩ := (k3 j hj).uniq (shS_off hok hk (h3 j hj))
      cases h4 : gR l' j
      rw [h4] at e1 e2
      simp only at e1 e2
      rw [e1, e2]
/-- a range's ends and the error, once more. -/
theorem rng_bds {l : List Rg} {ev : Int} (hok : SeOk s) (h : RngV s s.offs.length (OffZ s) l ev) : (ev = 0 ∨ ev = 9) ∧ l.length ≤ 9 ∧ Hid (∀ j, j < l.length → (-100 ≤ (gR l j).lo ∧ (gR l j).lo ≤ 100) ∧ -100 ≤ (gR l j).hi ∧ (gR l j).hi ≤ 100) := by
  rcases rng_ok h hok with ⟨h1, rfl, rfl⟩ | ⟨h1, rfl, h2, h3⟩
  · exact ⟨.inr rfl, by simp, Lib.hid (fun j hj => absurd hj (by simp))⟩
  · refine ⟨.inl rfl, by have := hok.no; omega, Lib.hid (fun j hj => ?_)⟩
    rw [h2] at hj
    obtain ⟨⟨o1, g1, t1, e1⟩, ⟨o2, g2, t2, e2⟩, _⟩ := h3 j hj
    have h4 := t1.offs j hj
    have h5 := t2.offs j hj
    have h6 := hok.offs j hj
    omega
theorem sl_drop {w : World} {B b off : Nat} {X : List Xb} {i : Nat} (h : SlAt w B 3 (some ⟨b, off, none⟩) X.length (fB X)) : SlAt w B 3 (some ⟨b, off + i * 3, none⟩) (X.drop i).length (fB (X.drop i)) := fun h0 => by
  have hl : (X.drop i).length = X.length - i := List.length_drop
  rw [hl] at h0 ⊢
  obtain ⟨b', o', e, hb, hc⟩ := h (by omega)
  injection e with e
  injection e with e1 e2
  subst e1 e2
  refine ⟨b, off + i * 3, rfl, hb, fun k j hk hj => ?_⟩
  have h2 := hc (i + k) j (by omega) hj
  have hg : gXb (X.drop i) k = gXb X (i + k) := by unfold gXb; simp [List.getElem?_drop]
  rw [show off + i * 3 + (k * 3 + j) = off + ((i + k) * 3 + j) by omega, h2]
  unfold fB
  rw [hg]
theorem sl_take3 {w : World} {B b off : Nat} {X : List Xb} {i : Nat} (hi : i ≤ X.length) (h : SlAt w B 3 (some ⟨b, off, none⟩) X.length (fB X)) : SlAt w B 3 (some ⟨b, off, none⟩) (X.take i).length (fB (X.take i)) := fun h0 => by
  have hl : (X.take i).length = i := by rw [List.length_take]; omega
  rw [hl] at h0 ⊢
  obtain ⟨b', o', e, hb, hc⟩ := h (by omega)
  injection e with e
  injection e with e1 e2
  subst e1 e2
  refine ⟨b, off, rfl, hb, fun k j hk hj => ?_⟩
  have h2 := hc k j (by omega) hj
  have hg : gXb (X.take i) k = gXb X k := by unfold gXb; simp [List.getElem?_take, hk]
  rw [h2]
  unfold fB
  rw [hg]
theorem tuS_in {W : World} {B : Nat} {e : TypeId} {v : Value} {Ao : Option Addr} {rA : Nat → Option Addr} {rc : Nat → Nat} (hi : i ≤ s.baths.length)
    (h : W.ownsRow B e 3 v ((xbL s rA rc).drop i ++ (xbL s rA rc).take i).length (((xbL s rA rc).drop i ++ (xbL s rA rc).take i).flatMap cB))
    (ho : SlAt W W.heap.size 2 Ao s.offs.length (fR s.offs)) (hr : ∀ k, k < s.baths.length → SlAt W W.heap.size 2 (rA k) (gBt s.baths k).reads.length (fRd (gBt s.baths k).reads)) :
    ∃ A c, v = .slice A (tuS s i).baths.length c ∧ SeIn W W.heap.size (tuS s i) Ao A (fun j => rA (tuI s i j)) (fun j => rc (tuI s i j)) := by
  obtain ⟨A, c, e, _, _, hrow⟩ := own_row (c := cB) (sz := 3) (fun _ => rfl) (cB_at _) h
  have hl : ((xbL s rA rc).drop i ++ (xbL s rA rc).take i).length = s.baths.length := by rw [List.length_append, List.length_drop, List.length_take, xbL_len]; omega
  rw [hl] at e hrow
  refine ⟨A, c, by rw [tuS_lb hi]; exact e, ho, ?_, fun k hk => ?_⟩
  · rw [tuS_lb hi]
    refine (hrow.ext (fun k j hk hj => ?_)).sl
    unfold fB fBt
    have hx : gXb ((xbL s rA rc).drop i ++ (xbL s rA rc).take i) k = (gBt (tuS s i).baths k, rA (tuI s i k), rc (tuI s i k)) := by
      rw [tuS_bt hi hk, ← xbL_at (rA := rA) (rc := rc) (tuI_lt hi hk)]
      have hxl : (xbL s rA rc).length = s.baths.length := xbL_len
      unfold gXb tuI
      by_cases h : k < s.baths.length - i
      · rw [if_pos h]
        have h1 : i + k < s.baths.length := by omega
        simp [List.getElem?_append, hxl, h, h1]
      · rw [if_neg h]
        have h1 : k - (s.baths.length - i) < i := by omega
        simp [List.getElem?_append, hxl, h, List.getElem?_take, h1]
    rw [hx]
    match j, hj with
    | 0, _ => rfl
    | 1, _ => rfl
    | 2, _ => rfl
  · rw [tuS_lb hi] at hk
    rw [tuS_bt hi hk]
    exact hr _ (tuI_lt hi hk)
theorem shS_thn (ht : Thn s) : Thn (shS s k n) := ⟨by rw [shS_lo]; exact ht.no, by rw [shS_lb]; exact ht.nb, fun b hb => by
  rw [shS_lb] at hb
  rw [shS_lr hb]
  exact ht.nr b hb⟩
end
end Go.Proofs.Ytnplefhigbkbbaa
end

section
namespace Go.Proofs.Ytnplefhigbkbbaa
theorem wf_i8 {n : Int} (h : (Lit.int .i8 n).wf = true) : -128 ≤ n ∧ n ≤ 127 := by
  simp only [Lit.wf, Bool.and_eq_true, decide_eq_true_eq] at h
  exact ⟨h.1, h.2⟩
open Go.RowKit Go.ChangeShapes Go.WideShapes Go.Deep Go.ChangeAt
section
variable {H : Type} {enc : TypeId × Value → H} {w : World} {base : Nat} {spare : Nat → Bool} {held : Bool} {r : Reach} {b0 : Nat}
set_option maxRecDepth 100000 in
theorem open_series_c {v : Value} {d : DataW H} {p : List MemPlace} (hv : Value.okWide Try.prog w r b0 25 v) (h : DataW.Trod enc Try.prog w base spare held 25 v d p) :
    ∃ (s : Se) (Ao Ab : Option Addr) (co cb : Nat) (rA : Nat → Option Addr) (rc : Nat → Nat), v = .agg #[.slice Ao s.offs.length co, .int .i64 s.err, .slice Ab s.baths.length cb] ∧ (s.offs.length ≤ maxLen ∧ (s.baths.length ≤ cb ∧ cb ≤ maxLen) ∧ ∀ b, b < s.baths.length → (gBt s.baths b).reads.length ≤ maxLen) ∧ SeIn w w.heap.size s Ao Ab rA rc := by
  obtain ⟨cs, rfl, hsz⟩ := okWide_struct Try.underlying25 hv
  obtain ⟨l⟩ := cs
  obtain ⟨c0, c1, c2, rfl⟩ := list3 (l := l) (hsz.trans (by kernel_rfl))
  obtain ⟨fuel, hfu⟩ := h
  obtain ⟨xs, n, _, _, hc, hxl, hf⟩ := DataW.trod_struct Try.underlying25 hfu
  have hl : xs.length = 3 := hxl.trans rfl
  obtain ⟨y0, e0⟩ := some_of (l := xs) (i := 0) (by omega)
  obtain ⟨y1, e1⟩ := some_of (l := xs) (i := 1) (by omega)
  obtain ⟨y2, e2⟩ := some_of (l := xs) (i := 2) (by omega)
  have h0 := fld hf (i := 0) 22 0 1 rfl rfl rfl (by kernel_rfl) e0
  have h1 := fld hf (i := 1) 3 1 1 rfl rfl rfl (by kernel_rfl) e1
  have h2 := fld hf (i := 2) 23 2 1 rfl rfl rfl (by kernel_rfl) e2
  simp only [Value.cells, List.drop_zero, List.drop_succ_cons, List.take_succ_cons, List.take_zero] at h0 h1 h2
  obtain ⟨Ao, lo, co, hb1, hb2, hb3, hb4⟩ := tr_rgs5 h0
  obtain ⟨u, hu, _⟩ := tr_int Try.underlying3 h1
  obtain ⟨Ab, lb, cb, hd1, hd2, hd3, hR, hd4⟩ := tr_slR (sz := 3) (c := cBx) (R := fun b : Bx => SlAt w w.heap.size 2 b.A b.b.reads.length (fRd b.b.reads) ∧ b.b.reads.length ≤ maxLen) Try.underlying23 (by omega) (by kernel_rfl) (fun h => tr_bt5 h) (fun _ => rfl) h2
  injection hu with hu _
  injection hb1 with hb1 _
  injection hd1 with hd1 _
  have hlb : (lb.map (·.b)).length = lb.length := by simp
  have hg : ∀ k (hk : k < lb.length), gBt (lb.map (·.b)) k = (lb[k]).b := fun k hk => by simp [gBt, hk]
  have hgA : ∀ k (hk : k < lb.length), (lb.getD k default).A = (lb[k]).A := fun k hk => by simp [hk]
  have hgc : ∀ k (hk : k < lb.length), (lb.getD k default).c = (lb[k]).c := fun k hk => by simp [hk]
  refine ⟨⟨lo, u, lb.map (·.b)⟩, Ao, Ab, co, cb, fun k => (lb.getD k default).A, fun k => (lb.getD k default).c, by rw [hu, hb1, hd1]; simp, ⟨Nat.le_trans hb2 hb3, ⟨by simp only [hlb]; omega, hd3⟩, fun b hb => ?_⟩, ⟨hb4, ?_, fun b hb => ?_⟩⟩
  · simp only [hlb] at hb
    show (gBt (lb.map (·.b)) b).reads.length ≤ maxLen
    rw [hg b hb]
    exact (hR _ (List.getElem_mem hb)).2
  · show SlAt w w.heap.size 3 Ab (lb.map (·.b)).length _
    rw [hlb]
    refine hd4 _ (fun k hk j hj => ?_)
    match j, hj with
    | 0, _ => simp [cBx, fBt, hg k hk]
    | 1, _ => simp [cBx, fBt, hg k hk]
    | 2, _ => simp [cBx, fBt, hg k hk, hk]
  · simp only [hlb] at hb
    show SlAt w w.heap.size 2 (lb.getD b default).A (gBt (lb.map (·.b)) b).reads.length (fRd (gBt (lb.map (·.b)) b).reads)
    rw [hg b hb, hgA b hb]
    exact (hR _ (List.getElem_mem hb)).1
end
end Go.Proofs.Ytnplefhigbkbbaa
end

section
namespace Go.Proofs.Ytnplefhigbkbbaa
open Go.RowKit
attribute [local go_sem] Ex.cell? Ex.frozen? Gx.cell?

theorem rgs_row {W : World} {base : Nat} {T : TypeId} {v : Value} {l : List Rg} (h : W.ownsRow base T 2 v l.length (l.flatMap cR)) : ∃ A k, v = .slice A l.length k ∧ RowAt W base T 2 A l.length (fR l) := by
  obtain ⟨A, k, e, _, _, hr⟩ := own_row (c := cR) (sz := 2) (fun _ => rfl) (f := fR l) (fun k hk j hj => by
    have e : gR l k = l[k] := by simp [gR, hk]
    match j, hj with
    | 0, _ => simp [cR, fR, e]
    | 1, _ => simp [cR, fR, e]) h
  exact ⟨A, k, e, hr⟩
theorem shR_snoc {k : Nat} {n : Int} {rd : List Rd} {i : Nat} {L : List Rd} {r : Rd} (hi : i < rd.length) (h : L = (rd.take i).map (shR k n)) (hr : gRd rd i = r) : L ++ [shR k n r] = (rd.take (i + 1)).map (shR k n) := by
  have e : rd[i] = r := by rw [← hr]; simp [gRd, hi]
  rw [h, List.take_succ_eq_append_getElem hi, List.map_append, e]
  rfl
theorem same_err {s : Se} {la lc : List Rg} {ea ec : Int} (hok : SeOk s) (ha : RngV s s.offs.length (OffZ s) la ea) (hc : RngV s s.baths.length (HeatZ s) lc ec) : ec = ea := by
  rcases rng_ok ha hok with ⟨h1, rfl, _⟩ | ⟨h1, rfl, _⟩ <;> rcases rng_ok hc hok with ⟨h2, rfl, _⟩ | ⟨h2, rfl, _⟩
  · rfl
  · exact absurd h2 h1
  · exact absurd h1 h2
  · rfl
set_option maxRecDepth 100000 in
set_option maxHeartbeats 51200000 in
theorem ShiftedLaw_any (s : Se) (Ao Ab : Option Addr) (co cb : Nat) (rA : Nat → Option Addr) (rc : Nat → Nat) (w : World) (hs : SeIn w w.heap.size s Ao Ab rA rc) (hol : s.offs.length ≤ maxLen) (hcb : s.baths.length ≤ cb ∧ cb ≤ maxLen) (hbl : s.baths.length ≤ maxLen) (m1 nn m3 : Int) (hm1 : 0 ≤ m1 ∧ m1 ≤ 255) (hnn : -128 ≤ nn ∧ nn ≤ 127) (hm3 : 0 ≤ m3 ∧ m3 ≤ 255) :
    Calls Try.prog 12 #[.agg #[.slice Ao s.offs.length co, .int .i64 s.err, .slice Ab s.baths.length cb], .int .u8 m1, .int .i8 nn, .int .u8 m3] w fun e w' => e = .returned (.bool true) ∧ Below w.heap.size w w' := by
  have B_V := ex_alloc (Below.refl w.heap.size w) (.cells #[.slice Ao s.offs.length co, .int .i64 s.err, .slice Ab s.baths.length cb] 25)
  have q0 : Blk (w.alloc (.cells #[.slice Ao s.offs.length co, .int .i64 s.err, .slice Ab s.baths.length cb] 25)) w.heap.size 25 #[.slice Ao s.offs.length co, .int .i64 s.err, .slice Ab s.baths.length cb] := Blk.new _ _ _
  have hm : maxLen = 9223372036854775807 := rfl
  go_enter Try.func12, Try.ntmps12
  go_wp2_with fail
  generalize w.alloc (.cells #[.slice Ao s.offs.length co, .int .i64 s.err, .slice Ab s.baths.length cb] 25) = V at *
  have q0_0 : V.cell? ⟨w.heap.size, 0, none⟩ = some (.slice Ao s.offs.length co) := q0.cell 0
  have q0_1 : V.cell? ⟨w.heap.size, 1, none⟩ = some (.int .i64 s.err) := q0.cell 1
  have q0_2 : V.cell? ⟨w.heap.size, 2, none⟩ = some (.slice Ab s.baths.length cb) := q0.cell 2
  have q0_l := q0.lt
  refine (ready_law s Ao Ab co cb rA rc V ((hs.below B_V).up B_V.size) hol hbl).mono ?_
  rintro e W1 ⟨⟨x, rfl, hx⟩, hW1⟩
  replace q0 := q0.below hW1 q0.lt
  have B_W1 := ex_trans B_V hW1
  clear q0_0 q0_1 q0_2 q0_l
  have q0_0 : W1.cell? ⟨w.heap.size, 0, none⟩ = some (.slice Ao s.offs.length co) := q0.cell 0
  have q0_1 : W1.cell? ⟨w.heap.size, 1, none⟩ = some (.int .i64 s.err) := q0.cell 1
  have q0_2 : W1.cell? ⟨w.heap.size, 2, none⟩ = some (.slice Ab s.baths.length cb) := q0.cell 2
  have q0_l := q0.lt
  cases x
  · go_wp2_with fail
    refine (wakes_any _).mono ?_
    rintro e Wz ⟨rfl, hz⟩
    go_wp2
    go_ret
    exact ⟨rfl, ex_trans B_W1 hz⟩
  have HT := Lib.hid (hx.out rfl).1
  have HOK := Lib.hid (hx.out rfl).2
  clear hx
  have hno := HT.out.no
  have hnb := HT.out.nb
  have hno1 := HOK.out.no.1
  have k2 : IntKind.i64.wrap nn = nn := IntWalk.i64_in _ (by omega)
  obtain ⟨kk, ekk⟩ : ∃ n : Nat, m1.tmod (s.offs.length : Int) = (n : Int) := ⟨(m1.tmod (s.offs.length : Int)).toNat, by rw [Int.toNat_of_nonneg (Int.tmod_nonneg _ (by omega))]⟩
  have lkk : kk < s.offs.length := by have := Int.tmod_lt_of_pos m1 (b := (s.offs.length : Int)) (by omega); omega
  have tkk : IntKind.i64.wrap (m1.tmod (s.offs.length : Int)) = (kk : Int) := by rw [ekk]; exact IntWalk.i64_in _ (by omega)
  have nz : ¬ (s.offs.length : Int) = 0 := by omega
  have nz2 : ((s.offs.length : Int) == 0) = false := by rw [beq_eq_false_iff_ne]; exact nz
  go_upto_region 4 with fail
  clear ekk tkk nz nz2 k2
  clear q0_0 q0_1 q0_2 q0_l
  have q0a := q0
  obtain ⟨i0, hi0, hz0, hz1, hz2⟩ := info_parts rrange_info
  have HI := Lib.hid hi0
  obtain ⟨i1, hi1, hy0, hy1, hy2⟩ := info_parts rrd_info
  have HJ := Lib.hid hi1
  obtain ⟨i2, hi2, hu0, hu1, hu2⟩ := info_parts rbath_info
  have HK := Lib.hid hi2
  clear hi0 hi1 hi2
  refine wp_cut (fun a W => Rel (fun a W => ∃ p11, ∃ vo : Value, (Below W1.heap.size W1 W ∧ W1.heap.size ≤ p11 ∧ Blk W p11 25 #[vo, .int .i64 s.err, .slice none 0 0] ∧ W.ownsRow W1.heap.size 46 2 vo s.offs.length (s.offs.flatMap cR)) ∧ ∃ u : Nat → Value, a = ⟨List.toArray (u 0 :: u 1 :: u 2 :: .int .u8 m3 :: .pointer (some ⟨w.heap.size, 0, none⟩) :: u 5 :: u 6 :: u 7 :: .bool false :: .int .i64 (kk : Int) :: .int .i64 nn :: .pointer (some ⟨p11, 0, none⟩) :: u 12 :: u 13 :: u 14 :: u 15 :: u 16 :: u 17 :: u 18 :: u 19 :: u 20 :: u 21 :: u 22 :: u 23 :: u 24 :: u 25 :: u 26 :: u 27 :: u 28 :: u 29 :: u 30 :: u 31 :: u 32 :: u 33 :: u 34 :: u 35 :: u 36 :: u 37 :: u 38 :: u 39 :: u 40 :: u 41 :: u 42 :: u 43 :: u 44 :: u 45 :: u 46 :: u 47 :: u 48 :: u 49 :: u 50 :: u 51 :: u 52 :: u 53 :: u 54 :: u 55 :: u 56 :: u 57 :: u 58 :: u 59 :: u 60 :: u 61 :: u 62 :: u 63 :: u 64 :: u 65 :: u 66 :: u 67 :: u 68 :: u 69 :: u 70 :: u 71 :: u 72 :: u 73 :: u 74 :: u 75 :: u 76 :: u 77 :: u 78 :: u 79 :: u 80 :: u 81 :: u 82 :: u 83 :: u 84 :: u 85 :: u 86 :: u 87 :: u 88 :: u 89 :: u 90 :: u 91 :: u 92 :: u 93 :: u 94 :: u 95 :: u 96 :: u 97 :: u 98 :: u 99 :: u 100 :: u 101 :: u 102 :: u 103 :: u 104 :: u 105 :: u 106 :: u 107 :: u 108 :: u 109 :: u 110 :: u 111 :: u 112 :: u 113 :: u 114 :: u 115 :: u 116 :: u 117 :: u 118 :: u 119 :: u 120 :: u 121 :: u 122 :: u 123 :: u 124 :: u 125 :: u 126 :: u 127 :: u 128 :: u 129 :: u 130 :: u 131 :: u 132 :: u 133 :: u 134 :: u 135 :: u 136 :: u 137 :: u 138 :: u 139 :: u 140 :: u 141 :: u 142 :: u 143 :: u 144 :: u 145 :: u 146 :: u 147 :: u 148 :: u 149 :: u 150 :: u 151 :: u 152 :: u 153 :: u 154 :: u 155 :: u 156 :: u 157 :: u 158 :: u 159 :: u 160 :: u 161 :: u 162 :: u 163 :: u 164 :: u 165 :: u 166 :: u 167 :: u 168 :: u 169 :: u 170 :: u 171 :: u 172 :: u 173 :: u 174 :: u 175 :: u 176 :: u 177 :: u 178 :: u 179 :: u 180 :: u 181 :: u 182 :: u 183 :: u 184 :: u 185 :: u 186 :: u 187 :: u 188 :: u 189 :: u 190 :: u 191 :: u 192 :: u 193 :: u 194 :: u 195 :: u 196 :: u 197 :: u 198 :: u 199 :: u 200 :: u 201 :: u 202 :: u 203 :: u 204 :: u 205 :: u 206 :: u 207 :: u 208 :: u 209 :: u 210 :: u 211 :: u 212 :: u 213 :: u 214 :: u 215 :: u 216 :: u 217 :: u 218 :: u 219 :: u 220 :: u 221 :: u 222 :: u 223 :: u 224 :: u 225 :: u 226 :: u 227 :: u 228 :: u 229 :: u 230 :: u 231 :: u 232 :: u 233 :: u 234 :: u 235 :: u 236 :: u 237 :: u 238 :: u 239 :: u 240 :: u 241 :: u 242 :: u 243 :: u 244 :: u 245 :: u 246 :: u 247 :: u 248 :: u 249 :: u 250 :: u 251 :: u 252 :: u 253 :: u 254 :: u 255 :: u 256 :: u 257 :: u 258 :: u 259 :: u 260 :: u 261 :: u 262 :: u 263 :: u 264 :: u 265 :: u 266 :: u 267 :: []), []⟩) a W) ?_ ?_
  rotate_left
  · intro J K' hJ hK
    have q0_0 : W1.cell? ⟨w.heap.size, 0, none⟩ = some (.slice Ao s.offs.length co) := q0.cell 0
    have q0_1 : W1.cell? ⟨w.heap.size, 1, none⟩ = some (.int .i64 s.err) := q0.cell 1
    have q0_2 : W1.cell? ⟨w.heap.size, 2, none⟩ = some (.slice Ab s.baths.length cb) := q0.cell 2
    have q0_l := q0.lt
    go_wp2_with fail
    refine wp_region_ext_tq 8 (.quiet 1 (.quiet 2 (.quiet 4 (.quiet 5 (.fork 0 (.fork 3 (.quiet 6 (.loud 7 .done)) 7 (.loud 3 (.quiet 6 .done))) 7 (.loud 0 (.loud 3 (.quiet 6 .done)))))))) (by kernel_rfl) (by kernel_rfl) (by intro d _ _ _ _ h; cases d <;> exact h) ?_
    have X_D := (Below.refl W1.heap.size W1).drew
    repeat (refine tq_quiet rfl ?_; go_big_quiet_step (fail); refine wpQuiet_nil ?_)
    generalize W1.drew = D at *
    refine tq_fork rfl rfl ?_ ?_
    · go_wp2_with fail
      have X_D1 := ex_alloc X_D (.cells #[] 46)
      have qe : Blk (D.alloc (.cells #[] 46)) D.heap.size 46 #[] := Blk.new _ _ _
      obtain ⟨pe, hpe⟩ : ∃ p, D.heap.size = p := ⟨_, rfl⟩
      have gpe : W1.heap.size ≤ pe := by have := X_D.size; omega
      refine ⟨inEx X_D1, ?_⟩
      rw [hpe] at qe ⊢
      clear hpe
      generalize D.alloc (.cells #[] 46) = D1 at *
      repeat (refine tq_quiet rfl ?_; go_big_quiet_step (fail); refine wpQuiet_nil ?_)
      refine tq_fork rfl rfl ?_ ?_
      · have hA2 := (hs.offs.below (ex_trans B_W1 X_D1)).up (ex_trans B_W1 X_D1).size
        go_wp2_with (at_builtin; refine wpList_append_list (α := Rg) (f := cR) (F := fR) (sz := 2) (fun _ => rfl) cR_at cR_one rfl _ _ _ rfl W1.heap.size 46 i0 _ 16 Try.underlying22 HI.out hz0 hz1 hz2 rfl (by omega) (some ⟨pe, 0, none⟩) 0 [] rfl (own_empty qe gpe) Ao co s.offs rfl hA2 (by simp; unfold maxLen; omega) (by simp; omega) (by have := X_D1.size; omega) D1.heap.size rfl ?_; intro L B k1 D2 HL ow gr1 _)
        have hL : L = s.offs := HL.out
        clear HL
        subst hL
        have hqb : ∀ j, (Value.slice (some ⟨pe, 0, none⟩) 0 0).ownBlock = some j → pe = j := fun j hj => by simpa [Value.ownBlock] using hj
        have X_D2 : Below W1.heap.size W1 D2 := X_D1.grown gr1 X_D1.size (fun j hj => by have := hqb j hj; omega)
        refine ⟨inEx X_D2, ?_⟩
        clear gr1 hqb hA2 qe
        repeat (refine tq_quiet rfl ?_; go_big_quiet_step (fail); refine wpQuiet_nil ?_)
        refine tq_loud rfl ?_
        go_wp2_with fail
        have X_D3 := ex_alloc X_D2 (.cells #[.slice none 0 0, .int .i64 0, .slice none 0 0] 25)
        replace ow := own_below ow (ex_alloc (Below.refl D2.heap.size D2) (.cells #[.slice none 0 0, .int .i64 0, .slice none 0 0] 25))
        have q11 : Blk (D2.alloc (.cells #[.slice none 0 0, .int .i64 0, .slice none 0 0] 25)) D2.heap.size 25 #[.slice none 0 0, .int .i64 0, .slice none 0 0] := Blk.new _ _ _
        obtain ⟨p11, hp11⟩ : ∃ p, D2.heap.size = p := ⟨_, rfl⟩
        have gp11 : W1.heap.size ≤ p11 := by have := X_D2.size; omega
        refine ⟨inEx X_D3, ?_⟩
        rw [hp11] at q11 ⊢
        clear hp11
        generalize D2.alloc (.cells #[.slice none 0 0, .int .i64 0, .slice none 0 0] 25) = D3 at *
        repeat (refine tq_quiet rfl ?_; go_big_quiet_step (fail); refine wpQuiet_nil ?_)
        have z0 : D3.cell? ⟨p11, 0, none⟩ = some (.slice none 0 0) := q11.cell 0
        have z1 : D3.cell? ⟨p11, 1, none⟩ = some (.int .i64 0) := q11.cell 1
        have z2 : D3.cell? ⟨p11, 2, none⟩ = some (.slice none 0 0) := q11.cell 2
        have f11 := q11.frozen0
        have l11 := q11.lt
        refine tq_done (r := [_]) rfl ?_
        go_wp2_with fail
        have q9 := ((q11.set_ 0 (.slice B s.offs.length k1)).set_ 1 (.int .i64 s.err)).set_ 2 (.slice none 0 0)
        simp only [List.setIfInBounds_toArray, List.set_cons_zero, List.set_cons_succ] at q9
        have F9 : Fr (fun j => j = p11) D3 (((D3.setCell ⟨p11, 0, none⟩ (.slice B s.offs.length k1)).setCell ⟨p11, 1, none⟩ (.int .i64 s.err)).setCell ⟨p11, 2, none⟩ (.slice none 0 0)) := (((Fr.refl (fun j => j = p11) D3).andSet (b := p11) rfl).andSet (b := p11) rfl).andSet (b := p11) rfl
        refine Met.intro (hJ _ _ ⟨⟨p11, _, ⟨ex_set (ex_set (ex_set X_D3 (p := ⟨p11, 0, none⟩) gp11 _) (p := ⟨p11, 1, none⟩) gp11 _) (p := ⟨p11, 2, none⟩) gp11 _, gp11, q9, own_fr ow F9 (fun b hb e => own_blkne ow q11 (by decide) (e ▸ hb))⟩, exFrame (by kernel_rfl)⟩⟩)
      · go_wp2_with fail
        have X_D4 := ex_alloc X_D1 (.cells #[.slice none 0 0, .int .i64 0, .slice none 0 0] 25)
        replace qe := qe.alloc (.cells #[.slice none 0 0, .int .i64 0, .slice none 0 0] 25)
        have q11 : Blk (D1.alloc (.cells #[.slice none 0 0, .int .i64 0, .slice none 0 0] 25)) D1.heap.size 25 #[.slice none 0 0, .int .i64 0, .slice none 0 0] := Blk.new _ _ _
        obtain ⟨p11, hp11⟩ : ∃ p, D1.heap.size = p := ⟨_, rfl⟩
        have gp11 : W1.heap.size ≤ p11 := by have := X_D1.size; omega
        refine ⟨inEx X_D4, ?_⟩
        rw [hp11] at q11 ⊢
        clear hp11
        generalize D1.alloc (.cells #[.slice none 0 0, .int .i64 0, .slice none 0 0] 25) = D4 at *
        repeat (refine tq_quiet rfl ?_; go_big_quiet_step (fail); refine wpQuiet_nil ?_)
        refine tq_loud rfl ?_
        have hA2 := (hs.offs.below (ex_trans B_W1 X_D4)).up (ex_trans B_W1 X_D4).size
        go_wp2_with (at_builtin; refine wpList_append_list (α := Rg) (f := cR) (F := fR) (sz := 2) (fun _ => rfl) cR_at cR_one rfl _ _ _ rfl W1.heap.size 46 i0 _ 16 Try.underlying22 HI.out hz0 hz1 hz2 rfl (by omega) (some ⟨pe, 0, none⟩) 0 [] rfl (own_empty qe gpe) Ao co s.offs rfl hA2 (by simp; unfold maxLen; omega) (by simp; omega) (by have := X_D4.size; omega) D4.heap.size rfl ?_; intro L B k1 D5 HL ow gr1 _)
        have hL : L = s.offs := HL.out
        clear HL
        subst hL
        have hqb : ∀ j, (Value.slice (some ⟨pe, 0, none⟩) 0 0).ownBlock = some j → pe = j := fun j hj => by simpa [Value.ownBlock] using hj
        have X_D5 : Below W1.heap.size W1 D5 := X_D4.grown gr1 X_D4.size (fun j hj => by have := hqb j hj; omega)
        replace q11 := q11.grown gr1 (fun e => by have := hqb _ e.symm; exact blk_ne q11 qe (by decide) this.symm)
        refine ⟨inEx X_D5, ?_⟩
        clear gr1 hqb hA2 qe
        repeat (refine tq_quiet rfl ?_; go_big_quiet_step (fail); refine wpQuiet_nil ?_)
        have z0 : D5.cell? ⟨p11, 0, none⟩ = some (.slice none 0 0) := q11.cell 0
        have z1 : D5.cell? ⟨p11, 1, none⟩ = some (.int .i64 0) := q11.cell 1
        have z2 : D5.cell? ⟨p11, 2, none⟩ = some (.slice none 0 0) := q11.cell 2
        have f11 := q11.frozen0
        have l11 := q11.lt
        refine tq_done (r := [_]) rfl ?_
        go_wp2_with fail
        have q9 := ((q11.set_ 0 (.slice B s.offs.length k1)).set_ 1 (.int .i64 s.err)).set_ 2 (.slice none 0 0)
        simp only [List.setIfInBounds_toArray, List.set_cons_zero, List.set_cons_succ] at q9
        have F9 : Fr (fun j => j = p11) D5 (((D5.setCell ⟨p11, 0, none⟩ (.slice B s.offs.length k1)).setCell ⟨p11, 1, none⟩ (.int .i64 s.err)).setCell ⟨p11, 2, none⟩ (.slice none 0 0)) := (((Fr.refl (fun j => j = p11) D5).andSet (b := p11) rfl).andSet (b := p11) rfl).andSet (b := p11) rfl
        refine Met.intro (hJ _ _ ⟨⟨p11, _, ⟨ex_set (ex_set (ex_set X_D5 (p := ⟨p11, 0, none⟩) gp11 _) (p := ⟨p11, 1, none⟩) gp11 _) (p := ⟨p11, 2, none⟩) gp11 _, gp11, q9, own_fr ow F9 (fun b hb e => own_blkne ow q11 (by decide) (e ▸ hb))⟩, exFrame (by kernel_rfl)⟩⟩)
    · go_wp2_with fail
      have X_D6 := ex_alloc X_D (.cells #[.slice none 0 0, .int .i64 0, .slice none 0 0] 25)
      have q11 : Blk (D.alloc (.cells #[.slice none 0 0, .int .i64 0, .slice none 0 0] 25)) D.heap.size 25 #[.slice none 0 0, .int .i64 0, .slice none 0 0] := Blk.new _ _ _
      obtain ⟨p11, hp11⟩ : ∃ p, D.heap.size = p := ⟨_, rfl⟩
      have gp11 : W1.heap.size ≤ p11 := by have := X_D.size; omega
      refine ⟨inEx X_D6, ?_⟩
      rw [hp11] at q11 ⊢
      clear hp11
      generalize D.alloc (.cells #[.slice none 0 0, .int .i64 0, .slice none 0 0] 25) = D6 at *
      repeat (refine tq_quiet rfl ?_; go_big_quiet_step (fail); refine wpQuiet_nil ?_)
      refine tq_loud rfl ?_
      go_wp2_with fail
      have X_D7 := ex_alloc X_D6 (.cells #[] 46)
      replace q11 := q11.alloc (.cells #[] 46)
      have qe : Blk (D6.alloc (.cells #[] 46)) D6.heap.size 46 #[] := Blk.new _ _ _
      obtain ⟨pe, hpe⟩ : ∃ p, D6.heap.size = p := ⟨_, rfl⟩
      have gpe : W1.heap.size ≤ pe := by have := X_D6.size; omega
      refine ⟨inEx X_D7, ?_⟩
      rw [hpe] at qe ⊢
      clear hpe
      generalize D6.alloc (.cells #[] 46) = D7 at *
      repeat (refine tq_quiet rfl ?_; go_big_quiet_step (fail); refine wpQuiet_nil ?_)
      refine tq_loud rfl ?_
      have hA2 := (hs.offs.below (ex_trans B_W1 X_D7)).up (ex_trans B_W1 X_D7).size
      go_wp2_with (at_builtin; refine wpList_append_list (α := Rg) (f := cR) (F := fR) (sz := 2) (fun _ => rfl) cR_at cR_one rfl _ _ _ rfl W1.heap.size 46 i0 _ 16 Try.underlying22 HI.out hz0 hz1 hz2 rfl (by omega) (some ⟨pe, 0, none⟩) 0 [] rfl (own_empty qe gpe) Ao co s.offs rfl hA2 (by simp; unfold maxLen; omega) (by simp; omega) (by have := X_D7.size; omega) D7.heap.size rfl ?_; intro L B k1 D8 HL ow gr1 _)
      have hL : L = s.offs := HL.out
      clear HL
      subst hL
      have hqb : ∀ j, (Value.slice (some ⟨pe, 0, none⟩) 0 0).ownBlock = some j → pe = j := fun j hj => by simpa [Value.ownBlock] using hj
      have X_D8 : Below W1.heap.size W1 D8 := X_D7.grown gr1 X_D7.size (fun j hj => by have := hqb j hj; omega)
      replace q11 := q11.grown gr1 (fun e => by have := hqb _ e.symm; exact blk_ne q11 qe (by decide) this.symm)
      refine ⟨inEx X_D8, ?_⟩
      clear gr1 hqb hA2 qe
      repeat (refine tq_quiet rfl ?_; go_big_quiet_step (fail); refine wpQuiet_nil ?_)
      have z0 : D8.cell? ⟨p11, 0, none⟩ = some (.slice none 0 0) := q11.cell 0
      have z1 : D8.cell? ⟨p11, 1, none⟩ = some (.int .i64 0) := q11.cell 1
      have z2 : D8.cell? ⟨p11, 2, none⟩ = some (.slice none 0 0) := q11.cell 2
      have f11 := q11.frozen0
      have l11 := q11.lt
      refine tq_done (r := [_]) rfl ?_
      go_wp2_with fail
      have q9 := ((q11.set_ 0 (.slice B s.offs.length k1)).set_ 1 (.int .i64 s.err)).set_ 2 (.slice none 0 0)
      simp only [List.setIfInBounds_toArray, List.set_cons_zero, List.set_cons_succ] at q9
      have F9 : Fr (fun j => j = p11) D8 (((D8.setCell ⟨p11, 0, none⟩ (.slice B s.offs.length k1)).setCell ⟨p11, 1, none⟩ (.int .i64 s.err)).setCell ⟨p11, 2, none⟩ (.slice none 0 0)) := (((Fr.refl (fun j => j = p11) D8).andSet (b := p11) rfl).andSet (b := p11) rfl).andSet (b := p11) rfl
      refine Met.intro (hJ _ _ ⟨⟨p11, _, ⟨ex_set (ex_set (ex_set X_D8 (p := ⟨p11, 0, none⟩) gp11 _) (p := ⟨p11, 1, none⟩) gp11 _) (p := ⟨p11, 2, none⟩) gp11 _, gp11, q9, own_fr ow F9 (fun b hb e => own_blkne ow q11 (by decide) (e ▸ hb))⟩, exFrame (by kernel_rfl)⟩⟩)
  rintro a' W2 ⟨⟨p11, vo, ⟨hW2, gp11, q11, ow⟩, u, rfl⟩⟩
  obtain ⟨g, k1, rfl, hg, hgl, _, _, hf⟩ := rgs_cell ow (k := kk) lkk
  have hgn : g ≠ p11 := fun e => own_blkne ow q11 (by decide) (by rw [e]; rfl)
  have hgn' : p11 ≠ g := fun e => hgn e.symm
  replace q0 := q0.below hW2 q0.lt
  have B_W2 := ex_trans B_W1 hW2
  have q0_0 : W2.cell? ⟨w.heap.size, 0, none⟩ = some (.slice Ao s.offs.length co) := q0.cell 0
  have q0_1 : W2.cell? ⟨w.heap.size, 1, none⟩ = some (.int .i64 s.err) := q0.cell 1
  have q0_2 : W2.cell? ⟨w.heap.size, 2, none⟩ = some (.slice Ab s.baths.length cb) := q0.cell 2
  have q0_l := q0.lt
  obtain ⟨ba, oa, rfl, hba, r0, r1⟩ := IsRgs.at_ (hs.offs.below B_W2) lkk
  have lba : ba < W2.heap.size := by have := B_W2.size; omega
  have hob := HOK.out.offs kk lkk
  have kl : IntKind.i64.wrap ((gR s.offs kk).lo + nn) = (gR s.offs kk).lo + nn := IntWalk.i64_in _ (by omega)
  have kh : IntKind.i64.wrap ((gR s.offs kk).hi + nn) = (gR s.offs kk).hi + nn := IntWalk.i64_in _ (by omega)
  have b0 : W2.cell? ⟨p11, 0, none⟩ = some (.slice (some ⟨g, 0, none⟩) s.offs.length k1) := q11.cell 0
  have l11 := q11.lt
  have hB_2 := B_W2
  go_wp2_with fail
  refine wp_region_ext_mix 21 [(false, 0), (false, 1), (false, 2), (false, 3), (false, 4), (false, 5), (false, 6), (false, 7), (false, 8), (false, 9), (false, 10), (false, 11), (false, 12), (false, 13), (false, 14), (false, 15), (false, 16), (false, 17), (false, 18), (false, 19), (false, 20)] (by kernel_rfl) (by kernel_rfl) (by intro d _ _ _ _ h; cases d <;> exact h) ?_
  repeat (refine mix_quiet rfl ?_; go_big_quiet_step (fail); refine wpQuiet_nil ?_)
  refine mix_nil rfl ?_
  clear q0_0 q0_1 q0_2 q0_l
  clear b0 r0 r1 kl kh lba
  have o3 : W2.drew.ownsRow W1.heap.size 46 2 (.slice (some ⟨g, 0, none⟩) s.offs.length k1) s.offs.length (s.offs.flatMap cR) := ow
  have o5 := rgs_set (l := s.offs) (k := kk) o3 (show (Value.slice (some ⟨g, 0, none⟩) s.offs.length k1).ownBlock = some g from rfl) lkk ⟨((gR s.offs kk).lo + nn), ((gR s.offs kk).hi + nn)⟩
  go_wp2_with fail
  have q13 : Blk (((W2.setCell ⟨g, kk * 2, none⟩ (.int .i64 ((gR s.offs kk).lo + nn))).setCell ⟨g, kk * 2 + 1, none⟩ (.int .i64 ((gR s.offs kk).hi + nn))).drew) p11 25 #[(.slice (some ⟨g, 0, none⟩) s.offs.length k1), .int .i64 s.err, .slice none 0 0] := (q11.drew.far (p := ⟨g, kk * 2, none⟩) hgn' (.int .i64 ((gR s.offs kk).lo + nn))).far (p := ⟨g, kk * 2 + 1, none⟩) hgn' (.int .i64 ((gR s.offs kk).hi + nn))
  have B5 : Below W1.heap.size W1 (((W2.setCell ⟨g, kk * 2, none⟩ (.int .i64 ((gR s.offs kk).lo + nn))).setCell ⟨g, kk * 2 + 1, none⟩ (.int .i64 ((gR s.offs kk).hi + nn))).drew) := ex_set (ex_set hW2.drew (p := ⟨g, kk * 2, none⟩) hg (.int .i64 ((gR s.offs kk).lo + nn))) (p := ⟨g, kk * 2 + 1, none⟩) hg (.int .i64 ((gR s.offs kk).hi + nn))
  obtain ⟨A9, k9, hv9, hro⟩ := rgs_row (W := ((W2.setCell ⟨g, kk * 2, none⟩ (.int .i64 ((gR s.offs kk).lo + nn))).setCell ⟨g, kk * 2 + 1, none⟩ (.int .i64 ((gR s.offs kk).hi + nn))).drew) o5
  rw [List.length_set] at hv9
  injection hv9 with hv91 hv9l hv92
  clear hv9l
  subst hv91 hv92
  have HOF : Hid (s.offs.set kk ⟨((gR s.offs kk).lo + nn), ((gR s.offs kk).hi + nn)⟩ = (shS s kk nn).offs) := Lib.hid rfl
  have HOL : Hid ((s.offs.set kk ⟨((gR s.offs kk).lo + nn), ((gR s.offs kk).hi + nn)⟩).length = s.offs.length) := Lib.hid List.length_set
  generalize s.offs.set kk ⟨((gR s.offs kk).lo + nn), ((gR s.offs kk).hi + nn)⟩ = OL at *
  generalize ((W2.setCell ⟨g, kk * 2, none⟩ (.int .i64 ((gR s.offs kk).lo + nn))).setCell ⟨g, kk * 2 + 1, none⟩ (.int .i64 ((gR s.offs kk).hi + nn))).drew = V3 at *
  have hs3 : p11 + 1 ≤ V3.heap.size := q13.lt
  clear o3 o5 ow q11 hf hgn hgn' q0 hob l11 hgl hB_2 B_W2 hW2
  refine wp_loop (fun a W => Rel (fun a W => ∃ b : Nat, b ≤ s.baths.length ∧ Below W1.heap.size W1 W ∧ p11 + 1 ≤ W.heap.size ∧ RowAt W W1.heap.size 46 2 (some ⟨g, 0, none⟩) OL.length (fR OL) ∧ ∃ v, ∃ X : List Xb, Hid (X.map (·.1) = (List.range b).map (shB s kk nn)) ∧ Blk W p11 25 #[(.slice (some ⟨g, 0, none⟩) s.offs.length k1), .int .i64 s.err, v] ∧ ROwn W (p11 + 1) v X ∧ ∃ u : Nat → Value, a = ⟨List.toArray (u 0 :: u 1 :: u 2 :: .int .u8 m3 :: .pointer (some ⟨w.heap.size, 0, none⟩) :: u 5 :: u 6 :: u 7 :: .bool false :: .int .i64 (kk : Int) :: .int .i64 nn :: .pointer (some ⟨p11, 0, none⟩) :: .int .i64 (b : Int) :: u 13 :: u 14 :: u 15 :: u 16 :: u 17 :: u 18 :: u 19 :: u 20 :: u 21 :: u 22 :: u 23 :: u 24 :: u 25 :: u 26 :: u 27 :: u 28 :: u 29 :: u 30 :: u 31 :: u 32 :: u 33 :: u 34 :: u 35 :: u 36 :: u 37 :: u 38 :: u 39 :: u 40 :: u 41 :: u 42 :: u 43 :: u 44 :: u 45 :: u 46 :: u 47 :: u 48 :: u 49 :: u 50 :: u 51 :: u 52 :: u 53 :: u 54 :: u 55 :: u 56 :: u 57 :: u 58 :: u 59 :: u 60 :: u 61 :: u 62 :: u 63 :: u 64 :: u 65 :: u 66 :: u 67 :: u 68 :: u 69 :: u 70 :: u 71 :: u 72 :: u 73 :: u 74 :: u 75 :: u 76 :: u 77 :: u 78 :: u 79 :: u 80 :: u 81 :: u 82 :: u 83 :: u 84 :: u 85 :: u 86 :: u 87 :: u 88 :: u 89 :: u 90 :: u 91 :: u 92 :: u 93 :: u 94 :: u 95 :: u 96 :: u 97 :: u 98 :: u 99 :: u 100 :: u 101 :: u 102 :: u 103 :: u 104 :: u 105 :: u 106 :: u 107 :: u 108 :: u 109 :: u 110 :: u 111 :: u 112 :: u 113 :: u 114 :: u 115 :: u 116 :: u 117 :: u 118 :: u 119 :: u 120 :: u 121 :: u 122 :: u 123 :: u 124 :: u 125 :: u 126 :: u 127 :: u 128 :: u 129 :: u 130 :: u 131 :: u 132 :: u 133 :: u 134 :: u 135 :: u 136 :: u 137 :: u 138 :: u 139 :: u 140 :: u 141 :: u 142 :: u 143 :: u 144 :: u 145 :: u 146 :: u 147 :: u 148 :: u 149 :: u 150 :: u 151 :: u 152 :: u 153 :: u 154 :: u 155 :: u 156 :: u 157 :: u 158 :: u 159 :: u 160 :: u 161 :: u 162 :: u 163 :: u 164 :: u 165 :: u 166 :: u 167 :: u 168 :: u 169 :: u 170 :: u 171 :: u 172 :: u 173 :: u 174 :: u 175 :: u 176 :: u 177 :: u 178 :: u 179 :: u 180 :: u 181 :: u 182 :: u 183 :: u 184 :: u 185 :: u 186 :: u 187 :: u 188 :: u 189 :: u 190 :: u 191 :: u 192 :: u 193 :: u 194 :: u 195 :: u 196 :: u 197 :: u 198 :: u 199 :: u 200 :: u 201 :: u 202 :: u 203 :: u 204 :: u 205 :: u 206 :: u 207 :: u 208 :: u 209 :: u 210 :: u 211 :: u 212 :: u 213 :: u 214 :: u 215 :: u 216 :: u 217 :: u 218 :: u 219 :: u 220 :: u 221 :: u 222 :: u 223 :: u 224 :: u 225 :: u 226 :: u 227 :: u 228 :: u 229 :: u 230 :: u 231 :: u 232 :: u 233 :: u 234 :: u 235 :: u 236 :: u 237 :: u 238 :: u 239 :: u 240 :: u 241 :: u 242 :: u 243 :: u 244 :: u 245 :: u 246 :: u 247 :: u 248 :: u 249 :: u 250 :: u 251 :: u 252 :: u 253 :: u 254 :: u 255 :: u 256 :: u 257 :: u 258 :: u 259 :: u 260 :: u 261 :: u 262 :: u 263 :: u 264 :: u 265 :: u 266 :: u 267 :: []), []⟩) a W)
    (fun a _ => s.baths.length - (intOf (a.tmps.getD 12 undef)).toNat) ⟨⟨0, by omega, B5, hs3, hro, .slice none 0 0, [], Lib.hid rfl, q13, NOwn.nil, exFrame (by kernel_rfl)⟩⟩ ?_
  clear B5 hs3 hro q13 V3
  rintro a W ⟨⟨b, hb, hbl', hsz, hro, v, X, HL, q11, hN, u, rfl⟩⟩
  have BW := ex_trans B_W1 hbl'
  have q0 := q0a.below hbl' q0a.lt
  have l0 := q0.lt
  have a2 : W.cell? ⟨w.heap.size, 2, none⟩ = some (.slice Ab s.baths.length cb) := q0.cell 2
  by_cases hlt : b < s.baths.length
  rotate_left
  · obtain rfl : b = s.baths.length := by omega
    have hXB : X.map (·.1) = (shS s kk nn).baths := HL.out
    obtain ⟨Ab', cb', rA', rc', rfl, hsx⟩ := nown_se (s := shS s kk nn) hN hXB (by rw [← HOF.out]; exact hro.sl)
    have HTX : Hid (Thn (shS s kk nn)) := Lib.hid (shS_thn HT.out)
    have HSO : Hid (SeOk (shS s kk nn) → ∀ {l l' : List Rg} {ev ev' : Int}, RngV s s.offs.length (OffZ s) l ev → RngV (shS s kk nn) (shS s kk nn).offs.length (OffZ (shS s kk nn)) l' ev' → ev' = ev ∧ l'.length = l.length ∧ Hid (∀ j, j < l.length → gR l' j = ⟨(gR l j).lo + shV kk nn j, (gR l j).hi + shV kk nn j⟩)) := Lib.hid (fun h1 _ _ _ _ h2 h3 => shifted_off HOK.out h1 lkk h2 h3)
    have HSH : Hid (SeOk (shS s kk nn) → ∀ {l l' : List Rg} {ev ev' : Int}, RngV s s.baths.length (HeatZ s) l ev → RngV (shS s kk nn) (shS s kk nn).baths.length (HeatZ (shS s kk nn)) l' ev' → ev' = ev ∧ l' = l) := Lib.hid (fun h1 _ _ _ _ h2 h3 => shifted_heat HOK.out h1 lkk h2 h3)
    replace q11 : Blk W p11 25 #[.slice (some ⟨g, 0, none⟩) (shS s kk nn).offs.length k1, .int .i64 (shS s kk nn).err, .slice Ab' (shS s kk nn).baths.length cb'] := by rw [shS_lo]; exact q11
    clear hXB HL hN hro HOF HOL a2 l0 hsz
    generalize shS s kk nn = x at *
    have q0_0 : W.cell? ⟨w.heap.size, 0, none⟩ = some (.slice (some ⟨ba, oa, none⟩) s.offs.length co) := q0.cell 0
    have q0_1 : W.cell? ⟨w.heap.size, 1, none⟩ = some (.int .i64 s.err) := q0.cell 1
    have q0_2 : W.cell? ⟨w.heap.size, 2, none⟩ = some (.slice Ab s.baths.length cb) := q0.cell 2
    have q0_l := q0.lt
    have q11_0 : W.cell? ⟨p11, 0, none⟩ = some (.slice (some ⟨g, 0, none⟩) x.offs.length k1) := q11.cell 0
    have q11_1 : W.cell? ⟨p11, 1, none⟩ = some (.int .i64 x.err) := q11.cell 1
    have q11_2 : W.cell? ⟨p11, 2, none⟩ = some (.slice Ab' x.baths.length cb') := q11.cell 2
    have q11_l := q11.lt
    go_wp2_with fail
    refine (Series_law s (some ⟨ba, oa, none⟩) Ab co cb rA rc W ((hs.below BW).up BW.size) HT.out).mono ?_
    rintro e Y1 ⟨⟨Ao1, Ab1, co1, cb1, rA1, rc1, rfl, hs1⟩, hY1⟩
    replace q0 := q0.below hY1 q0.lt
    replace q11 := q11.below hY1 q11.lt
    replace hsx := hsx.go hY1
    have B_Y1 := ex_trans BW hY1
    clear q0_0 q0_1 q0_2 q0_l q11_0 q11_1 q11_2 q11_l
    have q0_0 : Y1.cell? ⟨w.heap.size, 0, none⟩ = some (.slice (some ⟨ba, oa, none⟩) s.offs.length co) := q0.cell 0
    have q0_1 : Y1.cell? ⟨w.heap.size, 1, none⟩ = some (.int .i64 s.err) := q0.cell 1
    have q0_2 : Y1.cell? ⟨w.heap.size, 2, none⟩ = some (.slice Ab s.baths.length cb) := q0.cell 2
    have q0_l := q0.lt
    have q11_0 : Y1.cell? ⟨p11, 0, none⟩ = some (.slice (some ⟨g, 0, none⟩) x.offs.length k1) := q11.cell 0
    have q11_1 : Y1.cell? ⟨p11, 1, none⟩ = some (.int .i64 x.err) := q11.cell 1
    have q11_2 : Y1.cell? ⟨p11, 2, none⟩ = some (.slice Ab' x.baths.length cb') := q11.cell 2
    have q11_l := q11.lt
    go_wp2_with fail
    refine (Offsets_any s Ao1 Ab1 co1 cb1 rA1 rc1 Y1 hs1 HT.out.sm).mono ?_
    rintro e Y2 ⟨⟨Aa, ca, la, ea, rfl, ha, sa⟩, hY2⟩
    replace q0 := q0.below hY2 q0.lt
    replace q11 := q11.below hY2 q11.lt
    replace hsx := hsx.go hY2
    replace hs1 := hs1.go hY2
    have B_Y2 := ex_trans B_Y1 hY2
    clear q0_0 q0_1 q0_2 q0_l q11_0 q11_1 q11_2 q11_l
    have q0_0 : Y2.cell? ⟨w.heap.size, 0, none⟩ = some (.slice (some ⟨ba, oa, none⟩) s.offs.length co) := q0.cell 0
    have q0_1 : Y2.cell? ⟨w.heap.size, 1, none⟩ = some (.int .i64 s.err) := q0.cell 1
    have q0_2 : Y2.cell? ⟨w.heap.size, 2, none⟩ = some (.slice Ab s.baths.length cb) := q0.cell 2
    have q0_l := q0.lt
    have q11_0 : Y2.cell? ⟨p11, 0, none⟩ = some (.slice (some ⟨g, 0, none⟩) x.offs.length k1) := q11.cell 0
    have q11_1 : Y2.cell? ⟨p11, 1, none⟩ = some (.int .i64 x.err) := q11.cell 1
    have q11_2 : Y2.cell? ⟨p11, 2, none⟩ = some (.slice Ab' x.baths.length cb') := q11.cell 2
    have q11_l := q11.lt
    clear hs1
    obtain ⟨hea, hla9, HBD⟩ := rng_bds HOK.out ha.out
    go_wp2_with fail
    refine (Series_law s (some ⟨ba, oa, none⟩) Ab co cb rA rc Y2 ((hs.below B_Y2).up B_Y2.size) HT.out).mono ?_
    rintro e Y3 ⟨⟨Ao2, Ab2, co2, cb2, rA2, rc2, rfl, hs2⟩, hY3⟩
    replace q0 := q0.below hY3 q0.lt
    replace q11 := q11.below hY3 q11.lt
    replace hsx := hsx.go hY3
    replace sa := (sa.below hY3).up hY3.size
    have B_Y3 := ex_trans B_Y2 hY3
    clear q0_0 q0_1 q0_2 q0_l q11_0 q11_1 q11_2 q11_l
    have q0_0 : Y3.cell? ⟨w.heap.size, 0, none⟩ = some (.slice (some ⟨ba, oa, none⟩) s.offs.length co) := q0.cell 0
    have q0_1 : Y3.cell? ⟨w.heap.size, 1, none⟩ = some (.int .i64 s.err) := q0.cell 1
    have q0_2 : Y3.cell? ⟨w.heap.size, 2, none⟩ = some (.slice Ab s.baths.length cb) := q0.cell 2
    have q0_l := q0.lt
    have q11_0 : Y3.cell? ⟨p11, 0, none⟩ = some (.slice (some ⟨g, 0, none⟩) x.offs.length k1) := q11.cell 0
    have q11_1 : Y3.cell? ⟨p11, 1, none⟩ = some (.int .i64 x.err) := q11.cell 1
    have q11_2 : Y3.cell? ⟨p11, 2, none⟩ = some (.slice Ab' x.baths.length cb') := q11.cell 2
    have q11_l := q11.lt
    go_wp2_with fail
    refine (Heats_any s Ao2 Ab2 co2 cb2 rA2 rc2 Y3 hs2 HT.out.sm).mono ?_
    rintro e Y4 ⟨⟨Ac, cc, lc, ec, rfl, hc, sc⟩, hY4⟩
    replace q0 := q0.below hY4 q0.lt
    replace q11 := q11.below hY4 q11.lt
    replace hsx := hsx.go hY4
    replace sa := (sa.below hY4).up hY4.size
    replace hs2 := hs2.go hY4
    have B_Y4 := ex_trans B_Y3 hY4
    clear q0_0 q0_1 q0_2 q0_l q11_0 q11_1 q11_2 q11_l
    have q0_0 : Y4.cell? ⟨w.heap.size, 0, none⟩ = some (.slice (some ⟨ba, oa, none⟩) s.offs.length co) := q0.cell 0
    have q0_1 : Y4.cell? ⟨w.heap.size, 1, none⟩ = some (.int .i64 s.err) := q0.cell 1
    have q0_2 : Y4.cell? ⟨w.heap.size, 2, none⟩ = some (.slice Ab s.baths.length cb) := q0.cell 2
    have q0_l := q0.lt
    have q11_0 : Y4.cell? ⟨p11, 0, none⟩ = some (.slice (some ⟨g, 0, none⟩) x.offs.length k1) := q11.cell 0
    have q11_1 : Y4.cell? ⟨p11, 1, none⟩ = some (.int .i64 x.err) := q11.cell 1
    have q11_2 : Y4.cell? ⟨p11, 2, none⟩ = some (.slice Ab' x.baths.length cb') := q11.cell 2
    have q11_l := q11.lt
    clear hs2
    obtain rfl := (same_err HOK.out ha.out hc.out).symm
    have hlc9 : lc.length ≤ 9 := by have := hc.out.len; omega
    go_upto_if 142 with fail
    clear q0_0 q0_1 q0_2 q0_l q11_0 q11_1 q11_2 q11_l
    refine wp_cut (fun a W' => Rel (fun a W' => Below Y4.heap.size Y4 W' ∧ ∃ u : Nat → Value, a = ⟨List.toArray (u 0 :: u 1 :: u 2 :: .int .u8 m3 :: .pointer (some ⟨w.heap.size, 0, none⟩) :: u 5 :: u 6 :: u 7 :: .bool false :: .int .i64 (kk : Int) :: .int .i64 nn :: .pointer (some ⟨p11, 0, none⟩) :: u 12 :: u 13 :: u 14 :: u 15 :: .slice Aa la.length ca :: .int .i64 ea :: .slice Ac lc.length cc :: .int .i64 ea :: u 20 :: u 21 :: u 22 :: u 23 :: u 24 :: u 25 :: u 26 :: u 27 :: u 28 :: u 29 :: u 30 :: u 31 :: u 32 :: u 33 :: u 34 :: u 35 :: u 36 :: u 37 :: u 38 :: u 39 :: u 40 :: u 41 :: u 42 :: u 43 :: u 44 :: u 45 :: u 46 :: u 47 :: u 48 :: u 49 :: u 50 :: u 51 :: u 52 :: u 53 :: u 54 :: u 55 :: u 56 :: u 57 :: u 58 :: u 59 :: u 60 :: u 61 :: u 62 :: u 63 :: u 64 :: u 65 :: u 66 :: u 67 :: u 68 :: u 69 :: u 70 :: u 71 :: u 72 :: u 73 :: u 74 :: u 75 :: u 76 :: u 77 :: u 78 :: u 79 :: u 80 :: u 81 :: u 82 :: u 83 :: u 84 :: u 85 :: u 86 :: u 87 :: u 88 :: u 89 :: u 90 :: u 91 :: u 92 :: u 93 :: u 94 :: u 95 :: u 96 :: u 97 :: u 98 :: u 99 :: u 100 :: u 101 :: u 102 :: u 103 :: u 104 :: u 105 :: u 106 :: u 107 :: u 108 :: u 109 :: u 110 :: u 111 :: u 112 :: u 113 :: u 114 :: u 115 :: u 116 :: u 117 :: u 118 :: u 119 :: u 120 :: u 121 :: u 122 :: u 123 :: u 124 :: u 125 :: u 126 :: u 127 :: u 128 :: u 129 :: u 130 :: u 131 :: u 132 :: u 133 :: u 134 :: u 135 :: u 136 :: u 137 :: u 138 :: u 139 :: u 140 :: u 141 :: u 142 :: u 143 :: u 144 :: u 145 :: u 146 :: u 147 :: u 148 :: u 149 :: u 150 :: u 151 :: u 152 :: u 153 :: u 154 :: u 155 :: u 156 :: u 157 :: u 158 :: u 159 :: u 160 :: u 161 :: u 162 :: u 163 :: u 164 :: u 165 :: u 166 :: u 167 :: u 168 :: u 169 :: u 170 :: u 171 :: u 172 :: u 173 :: u 174 :: u 175 :: u 176 :: u 177 :: u 178 :: u 179 :: u 180 :: u 181 :: u 182 :: u 183 :: u 184 :: u 185 :: u 186 :: u 187 :: u 188 :: u 189 :: u 190 :: u 191 :: u 192 :: u 193 :: u 194 :: u 195 :: u 196 :: u 197 :: u 198 :: u 199 :: u 200 :: u 201 :: u 202 :: u 203 :: u 204 :: u 205 :: u 206 :: u 207 :: u 208 :: u 209 :: u 210 :: u 211 :: u 212 :: u 213 :: u 214 :: u 215 :: u 216 :: u 217 :: u 218 :: u 219 :: u 220 :: u 221 :: u 222 :: u 223 :: u 224 :: u 225 :: u 226 :: u 227 :: u 228 :: u 229 :: u 230 :: u 231 :: u 232 :: u 233 :: u 234 :: u 235 :: u 236 :: u 237 :: u 238 :: u 239 :: u 240 :: u 241 :: u 242 :: u 243 :: u 244 :: u 245 :: u 246 :: u 247 :: u 248 :: u 249 :: u 250 :: u 251 :: u 252 :: u 253 :: u 254 :: u 255 :: u 256 :: u 257 :: u 258 :: u 259 :: u 260 :: u 261 :: u 262 :: u 263 :: u 264 :: u 265 :: u 266 :: u 267 :: []), []⟩) a W') ?_ ?_
    rotate_left
    · intro J K' hJ hK
      have q0_0 : Y4.cell? ⟨w.heap.size, 0, none⟩ = some (.slice (some ⟨ba, oa, none⟩) s.offs.length co) := q0.cell 0
      have q0_1 : Y4.cell? ⟨w.heap.size, 1, none⟩ = some (.int .i64 s.err) := q0.cell 1
      have q0_2 : Y4.cell? ⟨w.heap.size, 2, none⟩ = some (.slice Ab s.baths.length cb) := q0.cell 2
      have q0_l := q0.lt
      have q11_0 : Y4.cell? ⟨p11, 0, none⟩ = some (.slice (some ⟨g, 0, none⟩) x.offs.length k1) := q11.cell 0
      have q11_1 : Y4.cell? ⟨p11, 1, none⟩ = some (.int .i64 x.err) := q11.cell 1
      have q11_2 : Y4.cell? ⟨p11, 2, none⟩ = some (.slice Ab' x.baths.length cb') := q11.cell 2
      have q11_l := q11.lt
      by_cases hm0 : 0 < s.baths.length
      rotate_left
      · have d1 : decide ((0 : Int) < (s.baths.length : Int)) = false := decide_eq_false (by omega)
        have d2 : decide (0 < s.baths.length) = false := decide_eq_false hm0
        go_wp2_with fail
        refine Met.intro (hJ _ _ ⟨⟨Below.refl _ _, exFrame (by kernel_rfl)⟩⟩)
      have d1 : decide ((0 : Int) < (s.baths.length : Int)) = true := decide_eq_true (by omega)
      obtain ⟨bb, ob, rfl, hbb, _, _, _⟩ := IsBts.at_ hs.baths hm0
      obtain ⟨i, ei⟩ : ∃ n : Nat, m3.tmod (s.baths.length : Int) = (n : Int) := ⟨(m3.tmod (s.baths.length : Int)).toNat, by rw [Int.toNat_of_nonneg (Int.tmod_nonneg _ (by omega))]⟩
      have li : i < s.baths.length := by have := Int.tmod_lt_of_pos m3 (b := (s.baths.length : Int)) (by omega); omega
      have ti : IntKind.i64.wrap (m3.tmod (s.baths.length : Int)) = (i : Int) := by rw [ei]; exact IntWalk.i64_in _ (by omega)
      have nz : ¬ (s.baths.length : Int) = 0 := by omega
      have nz2 : ((s.baths.length : Int) == 0) = false := by rw [beq_eq_false_iff_ne]; exact nz
      go_upto_region 24 with fail
      clear nz nz2 d1 ei ti
      clear q0_0 q0_1 q0_2 q0_l q11_0 q11_1 q11_2 q11_l
      have N_Z' := ex_alloc (Below.refl Y4.heap.size Y4) (.cells #[.slice (some ⟨ba, oa, none⟩) s.offs.length co, .int .i64 s.err, .slice (some ⟨bb, ob, none⟩) s.baths.length cb] 25)
      have sa4 := sa
      have N_Z := ex_alloc (Below.refl Y4.heap.size Y4) (.cells #[.slice (some ⟨ba, oa, none⟩) s.offs.length co, .int .i64 s.err, .slice (some ⟨bb, ob, none⟩) s.baths.length cb] 25)
      have q21 : Blk (Y4.alloc (.cells #[.slice (some ⟨ba, oa, none⟩) s.offs.length co, .int .i64 s.err, .slice (some ⟨bb, ob, none⟩) s.baths.length cb] 25)) Y4.heap.size 25 #[.slice (some ⟨ba, oa, none⟩) s.offs.length co, .int .i64 s.err, .slice (some ⟨bb, ob, none⟩) s.baths.length cb] := Blk.new _ _ _
      replace q0 := q0.below N_Z q0.lt
      replace q11 := q11.below N_Z q11.lt
      replace hsx := hsx.go N_Z
      replace sa := (sa.below N_Z).up N_Z.size
      replace sc := (sc.below N_Z).up N_Z.size
      have B_Z := ex_trans B_Y4 N_Z
      clear N_Z
      generalize Y4.alloc (.cells #[.slice (some ⟨ba, oa, none⟩) s.offs.length co, .int .i64 s.err, .slice (some ⟨bb, ob, none⟩) s.baths.length cb] 25) = Z at *
      obtain ⟨p21, hp21⟩ : ∃ p, Y4.heap.size = p := ⟨_, rfl⟩
      have HP21 := Lib.hid hp21
      rw [hp21] at q21 ⊢
      clear hp21
      have q0_0 : Z.cell? ⟨w.heap.size, 0, none⟩ = some (.slice (some ⟨ba, oa, none⟩) s.offs.length co) := q0.cell 0
      have q0_1 : Z.cell? ⟨w.heap.size, 1, none⟩ = some (.int .i64 s.err) := q0.cell 1
      have q0_2 : Z.cell? ⟨w.heap.size, 2, none⟩ = some (.slice (some ⟨bb, ob, none⟩) s.baths.length cb) := q0.cell 2
      have q0_l := q0.lt
      have q11_0 : Z.cell? ⟨p11, 0, none⟩ = some (.slice (some ⟨g, 0, none⟩) x.offs.length k1) := q11.cell 0
      have q11_1 : Z.cell? ⟨p11, 1, none⟩ = some (.int .i64 x.err) := q11.cell 1
      have q11_2 : Z.cell? ⟨p11, 2, none⟩ = some (.slice Ab' x.baths.length cb') := q11.cell 2
      have q11_l := q11.lt
      have lic : i ≤ s.baths.length := by omega
      have lcc := hcb.1
      have li2 : (i : Int) ≤ (s.baths.length : Int) := by omega
      have li3 : (s.baths.length : Int) ≤ (cb : Int) := by omega
      have li4 : (i : Int) ≤ (cb : Int) := by omega
      go_wp2_with fail
      refine wp_region_ext_mix 12 [(false, 1), (false, 2), (false, 3), (false, 4), (false, 6), (false, 7), (false, 8), (false, 9), (true, 0), (true, 5), (true, 10), (false, 11)] (by kernel_rfl) (by kernel_rfl) (by intro d _ _ _ _ h; cases d <;> exact h) ?_
      have X_D := (Below.refl Z.heap.size Z).drew
      repeat (refine mix_quiet rfl ?_; go_big_quiet_step (fail); refine wpQuiet_nil ?_)
      clear q0_0 q0_1 q0_2 q0_l q11_0 q11_1 q11_2 q11_l
      have hxl : (xbL s rA rc).length = s.baths.length := xbL_len
      have hdl : ((xbL s rA rc).drop i).length = s.baths.length - i := by rw [List.length_drop, hxl]
      have htl : ((xbL s rA rc).take i).length = i := by rw [List.length_take, hxl]; omega
      have HDL := Lib.hid hdl
      have HTL := Lib.hid htl
      have HXL := Lib.hid hxl
      clear hdl htl hxl li2 li3 li4 lcc
      have BD := ex_trans B_Z X_D
      generalize Z.drew = D at *
      have X_E := ex_alloc X_D (.cells #[] 82)
      have qe : Blk (D.alloc (.cells #[] 82)) D.heap.size 82 #[] := Blk.new _ _ _
      refine mix_loud rfl ?_
      go_wp2_with fail
      obtain ⟨pe, hpe⟩ : ∃ p, D.heap.size = p := ⟨_, rfl⟩
      have gpe : Z.heap.size ≤ pe := by have := X_D.size; omega
      refine ⟨inEx X_E, ?_⟩
      rw [hpe] at qe ⊢
      clear hpe
      generalize D.alloc (.cells #[] 82) = E at *
      have BE := ex_trans B_Z X_E
      have hsl := xbL_sl (rc := rc) (rA := rA) ((hs.baths.below BE).up BE.size)
      repeat (refine mix_quiet rfl ?_; go_big_quiet_step (fail); refine wpQuiet_nil ?_)
      refine mix_loud rfl ?_
      go_wp2_with (at_builtin; refine wpList_append_list (α := Xb) (f := cB) (F := fB) (sz := 3) (fun _ => rfl) cB_at cB_one rfl _ _ _ rfl Z.heap.size 82 i2 _ 40 Try.underlying23 HK.out hu0 hu1 hu2 rfl (by omega) (some ⟨pe, 0, none⟩) 0 [] rfl (own_empty qe gpe) (some ⟨bb, ob + i * 3, none⟩) (cb - i) ((xbL s rA rc).drop i) (by rw [HDL.out]; rfl) (sl_drop hsl) (by rw [HDL.out]; simp; unfold maxLen; omega) (by rw [HDL.out]; simp; omega) (by have := X_E.size; omega) E.heap.size rfl ?_; intro L B9 k9 E1 HL ow gr1 _)
      have hL : L = (xbL s rA rc).drop i := HL.out
      clear HL hsl
      subst hL
      have hqb : ∀ j, (Value.slice (some ⟨pe, 0, none⟩) 0 0).ownBlock = some j → pe = j := fun j hj => by simpa [Value.ownBlock] using hj
      have X_E1 : Below Z.heap.size Z E1 := X_E.grown gr1 X_E.size (fun j hj => by have := hqb j hj; omega)
      clear hqb gr1 qe
      refine ⟨inEx X_E1, ?_⟩
      have BE1 := ex_trans B_Z X_E1
      have hsl := sl_take3 (i := i) (by rw [HXL.out]; exact lic) (xbL_sl (rc := rc) (rA := rA) ((hs.baths.below BE1).up BE1.size))
      repeat (refine mix_quiet rfl ?_; go_big_quiet_step (fail); refine wpQuiet_nil ?_)
      refine mix_loud rfl ?_
      go_wp2_with (at_builtin; refine wpList_append_list (α := Xb) (f := cB) (F := fB) (sz := 3) (fun _ => rfl) cB_at cB_one rfl _ _ _ rfl Z.heap.size 82 i2 _ 40 Try.underlying23 HK.out hu0 hu1 hu2 rfl (by omega) B9 k9 ((xbL s rA rc).drop i) rfl ow (some ⟨bb, ob, none⟩) cb ((xbL s rA rc).take i) (by rw [HTL.out]; rfl) hsl (by rw [HDL.out, HTL.out]; unfold maxLen; omega) (by rw [HDL.out, HTL.out]; omega) X_E1.size E1.heap.size rfl ?_; intro L2 B8 k8 E2 HL2 ow2 gr2 _)
      have X_E2 : Below Z.heap.size Z E2 := X_E1.grown gr2 X_E1.size (fun j hj => own_ge ow hj)
      clear gr2 ow hsl
      refine ⟨inEx X_E2, ?_⟩
      repeat (refine mix_quiet rfl ?_; go_big_quiet_step (fail); refine wpQuiet_nil ?_)
      refine mix_nil rfl ?_
      have BE2 := ex_trans B_Z X_E2
      have hp21 := HP21.out
      have hp21w : w.heap.size ≤ p21 := by have := B_Y4.size; omega
      have q22 := q21.below X_E2 q21.lt
      have l22 := q22.lt
      have hp21z := q21.lt
      have BV5 := ex_set BE2 (p := ⟨p21, 2, none⟩) hp21w (.slice B8 L2.length k8)
      have ow3 := own_far ow2 (p := ⟨p21, 2, none⟩) hp21z (.slice B8 L2.length k8)
      obtain ⟨At, ct, hv, hst⟩ := tuS_in (rA := rA) (rc := rc) lic (by rw [← HL2.out]; exact ow3) ((hs.offs.below BV5).up BV5.size) (fun b hb => ((hs.reads b hb).below BV5).up BV5.size)
      rw [hv] at hst ⊢
      have q5 := q22.set_ 2 (.slice At (tuS s i).baths.length ct)
      simp only [List.setIfInBounds_toArray, List.set_cons_zero, List.set_cons_succ] at q5
      have X5 : Below Y4.heap.size Y4 (E2.setCell ⟨p21, 2, none⟩ (.slice At (tuS s i).baths.length ct)) := (ex_trans N_Z' X_E2).setCell (by show Y4.heap.size ≤ p21; omega) (.slice At (tuS s i).baths.length ct)
      have t0 : E2.cell? ⟨p21, 0, none⟩ = some (.slice (some ⟨ba, oa, none⟩) s.offs.length co) := q22.cell 0
      have t1 : E2.cell? ⟨p21, 1, none⟩ = some (.int .i64 s.err) := q22.cell 1
      have t2 : E2.cell? ⟨p21, 2, none⟩ = some (.slice (some ⟨bb, ob, none⟩) s.baths.length cb) := q22.cell 2
      have f22 := q22.frozen0
      clear hv ow2 ow3 BV5 HL2
      go_wp2_with fail
      clear t0 t1 t2 f22 l22
      generalize (E2.setCell ⟨p21, 2, none⟩ (.slice At (tuS s i).baths.length ct)) = V5 at *
      have B_V5 := ex_trans B_Y4 X5
      have hcx := Series_law (tuS s i) (some ⟨ba, oa, none⟩) At co ct (fun j => rA (tuI s i j)) (fun j => rc (tuI s i j)) V5 hst (tuS_thn HT.out lic)
      rw [show (tuS s i).offs.length = s.offs.length from rfl, show (tuS s i).err = s.err from rfl] at hcx
      refine hcx.mono ?_
      clear hcx hst
      rintro e V6 ⟨⟨Ao5, Ab5, co5, cb5, rA5, rc5, rfl, hs5⟩, hV6⟩
      have X6 := ex_trans X5 hV6
      clear q5
      go_wp2_with fail
      have hcx := Offsets_any (tuS s i) Ao5 Ab5 co5 cb5 rA5 rc5 V6 hs5 (tuS_thn HT.out lic).sm
      rw [show (tuS s i).offs.length = s.offs.length from rfl, show (tuS s i).err = s.err from rfl] at hcx
      refine hcx.mono ?_
      clear hcx
      rintro e V7 ⟨⟨A7, c7, lt, et, rfl, htv, st⟩, hV7⟩
      have X7 := ex_trans X6 hV7
      have ht9 := turned HOK.out lic ha.out htv.out
      obtain rfl := ht9.1.symm
      obtain rfl := ht9.2.symm
      clear ht9 htv hs5
      replace sa := (sa4.below X7).up X7.size
      go_wp2_with fail
      refine (wider_law Aa A7 ca c7 la la V7 (by omega) sa st (by omega)).mono ?_
      rintro e V8 ⟨rfl, hV8⟩
      rw [widB_self]
      have X8 := ex_trans X7 hV8
      replace sa := (sa.below hV8).up hV8.size
      replace st := (st.below hV8).up hV8.size
      go_wp2_with fail
      refine (wider_law A7 Aa c7 ca la la V8 (by omega) st sa (by omega)).mono ?_
      rintro e V9 ⟨rfl, hV9⟩
      rw [widB_self]
      have X9 := ex_trans X8 hV9
      go_wp2_with fail
      refine Met.intro (hJ _ _ ⟨⟨X9, exFrame (by kernel_rfl)⟩⟩)
    rintro a' W9 ⟨⟨hW9, u, rfl⟩⟩
    replace q0 := q0.below hW9 q0.lt
    replace q11 := q11.below hW9 q11.lt
    replace hsx := hsx.go hW9
    replace sa := (sa.below hW9).up hW9.size
    replace sc := (sc.below hW9).up hW9.size
    have B_W9 := ex_trans B_Y4 hW9
    have q0_0 : W9.cell? ⟨w.heap.size, 0, none⟩ = some (.slice (some ⟨ba, oa, none⟩) s.offs.length co) := q0.cell 0
    have q0_1 : W9.cell? ⟨w.heap.size, 1, none⟩ = some (.int .i64 s.err) := q0.cell 1
    have q0_2 : W9.cell? ⟨w.heap.size, 2, none⟩ = some (.slice Ab s.baths.length cb) := q0.cell 2
    have q0_l := q0.lt
    have q11_0 : W9.cell? ⟨p11, 0, none⟩ = some (.slice (some ⟨g, 0, none⟩) x.offs.length k1) := q11.cell 0
    have q11_1 : W9.cell? ⟨p11, 1, none⟩ = some (.int .i64 x.err) := q11.cell 1
    have q11_2 : W9.cell? ⟨p11, 2, none⟩ = some (.slice Ab' x.baths.length cb') := q11.cell 2
    have q11_l := q11.lt
    go_wp2_with fail
    refine (fault_law x (some ⟨g, 0, none⟩) Ab' k1 cb' rA' rc' W9 hsx HTX.out.sm).mono ?_
    rintro e Y5 ⟨rfl, hY5⟩
    replace q0 := q0.below hY5 q0.lt
    replace q11 := q11.below hY5 q11.lt
    replace hsx := hsx.go hY5
    replace sa := (sa.below hY5).up hY5.size
    replace sc := (sc.below hY5).up hY5.size
    have B_Y5 := ex_trans B_W9 hY5
    clear q0_0 q0_1 q0_2 q0_l q11_0 q11_1 q11_2 q11_l
    have q0_0 : Y5.cell? ⟨w.heap.size, 0, none⟩ = some (.slice (some ⟨ba, oa, none⟩) s.offs.length co) := q0.cell 0
    have q0_1 : Y5.cell? ⟨w.heap.size, 1, none⟩ = some (.int .i64 s.err) := q0.cell 1
    have q0_2 : Y5.cell? ⟨w.heap.size, 2, none⟩ = some (.slice Ab s.baths.length cb) := q0.cell 2
    have q0_l := q0.lt
    have q11_0 : Y5.cell? ⟨p11, 0, none⟩ = some (.slice (some ⟨g, 0, none⟩) x.offs.length k1) := q11.cell 0
    have q11_1 : Y5.cell? ⟨p11, 1, none⟩ = some (.int .i64 x.err) := q11.cell 1
    have q11_2 : Y5.cell? ⟨p11, 2, none⟩ = some (.slice Ab' x.baths.length cb') := q11.cell 2
    have q11_l := q11.lt
    by_cases e0 : ckSe x = 0
    rotate_left
    · generalize ckSe x = ck at *
      have e2 : (ck != 0) = true := by simp [e0]
      clear e0
      go_wp2_with fail
      refine (wakes_any _).mono ?_
      rintro e Wz ⟨rfl, hz⟩
      go_wp2
      go_ret
      exact ⟨rfl, ex_trans B_Y5 hz⟩
    rw [e0]
    have HOX := Lib.hid (seOk_iff.1 e0)
    clear e0
    go_wp2_with fail
    refine (Series_law x (some ⟨g, 0, none⟩) Ab' k1 cb' rA' rc' Y5 hsx HTX.out).mono ?_
    rintro e Y6 ⟨⟨Ao3, Ab3, co3, cb3, rA3, rc3, rfl, hs3⟩, hY6⟩
    replace q0 := q0.below hY6 q0.lt
    replace q11 := q11.below hY6 q11.lt
    replace hsx := hsx.go hY6
    replace sa := (sa.below hY6).up hY6.size
    replace sc := (sc.below hY6).up hY6.size
    have B_Y6 := ex_trans B_Y5 hY6
    clear q0_0 q0_1 q0_2 q0_l q11_0 q11_1 q11_2 q11_l
    have q0_0 : Y6.cell? ⟨w.heap.size, 0, none⟩ = some (.slice (some ⟨ba, oa, none⟩) s.offs.length co) := q0.cell 0
    have q0_1 : Y6.cell? ⟨w.heap.size, 1, none⟩ = some (.int .i64 s.err) := q0.cell 1
    have q0_2 : Y6.cell? ⟨w.heap.size, 2, none⟩ = some (.slice Ab s.baths.length cb) := q0.cell 2
    have q0_l := q0.lt
    have q11_0 : Y6.cell? ⟨p11, 0, none⟩ = some (.slice (some ⟨g, 0, none⟩) x.offs.length k1) := q11.cell 0
    have q11_1 : Y6.cell? ⟨p11, 1, none⟩ = some (.int .i64 x.err) := q11.cell 1
    have q11_2 : Y6.cell? ⟨p11, 2, none⟩ = some (.slice Ab' x.baths.length cb') := q11.cell 2
    have q11_l := q11.lt
    go_wp2_with fail
    refine (Offsets_any x Ao3 Ab3 co3 cb3 rA3 rc3 Y6 hs3 HTX.out.sm).mono ?_
    rintro e Y7 ⟨⟨Ap, cp, lp, ep, rfl, hp, sp⟩, hY7⟩
    replace q0 := q0.below hY7 q0.lt
    replace q11 := q11.below hY7 q11.lt
    replace hsx := hsx.go hY7
    replace sa := (sa.below hY7).up hY7.size
    replace sc := (sc.below hY7).up hY7.size
    replace hs3 := hs3.go hY7
    have B_Y7 := ex_trans B_Y6 hY7
    clear q0_0 q0_1 q0_2 q0_l q11_0 q11_1 q11_2 q11_l
    have q0_0 : Y7.cell? ⟨w.heap.size, 0, none⟩ = some (.slice (some ⟨ba, oa, none⟩) s.offs.length co) := q0.cell 0
    have q0_1 : Y7.cell? ⟨w.heap.size, 1, none⟩ = some (.int .i64 s.err) := q0.cell 1
    have q0_2 : Y7.cell? ⟨w.heap.size, 2, none⟩ = some (.slice Ab s.baths.length cb) := q0.cell 2
    have q0_l := q0.lt
    have q11_0 : Y7.cell? ⟨p11, 0, none⟩ = some (.slice (some ⟨g, 0, none⟩) x.offs.length k1) := q11.cell 0
    have q11_1 : Y7.cell? ⟨p11, 1, none⟩ = some (.int .i64 x.err) := q11.cell 1
    have q11_2 : Y7.cell? ⟨p11, 2, none⟩ = some (.slice Ab' x.baths.length cb') := q11.cell 2
    have q11_l := q11.lt
    clear hs3
    go_wp2_with fail
    refine (Series_law x (some ⟨g, 0, none⟩) Ab' k1 cb' rA' rc' Y7 hsx HTX.out).mono ?_
    rintro e Y8 ⟨⟨Ao4, Ab4, co4, cb4, rA4, rc4, rfl, hs4⟩, hY8⟩
    replace q0 := q0.below hY8 q0.lt
    replace q11 := q11.below hY8 q11.lt
    replace hsx := hsx.go hY8
    replace sa := (sa.below hY8).up hY8.size
    replace sc := (sc.below hY8).up hY8.size
    replace sp := (sp.below hY8).up hY8.size
    have B_Y8 := ex_trans B_Y7 hY8
    clear q0_0 q0_1 q0_2 q0_l q11_0 q11_1 q11_2 q11_l
    have q0_0 : Y8.cell? ⟨w.heap.size, 0, none⟩ = some (.slice (some ⟨ba, oa, none⟩) s.offs.length co) := q0.cell 0
    have q0_1 : Y8.cell? ⟨w.heap.size, 1, none⟩ = some (.int .i64 s.err) := q0.cell 1
    have q0_2 : Y8.cell? ⟨w.heap.size, 2, none⟩ = some (.slice Ab s.baths.length cb) := q0.cell 2
    have q0_l := q0.lt
    have q11_0 : Y8.cell? ⟨p11, 0, none⟩ = some (.slice (some ⟨g, 0, none⟩) x.offs.length k1) := q11.cell 0
    have q11_1 : Y8.cell? ⟨p11, 1, none⟩ = some (.int .i64 x.err) := q11.cell 1
    have q11_2 : Y8.cell? ⟨p11, 2, none⟩ = some (.slice Ab' x.baths.length cb') := q11.cell 2
    have q11_l := q11.lt
    go_wp2_with fail
    refine (Heats_any x Ao4 Ab4 co4 cb4 rA4 rc4 Y8 hs4 HTX.out.sm).mono ?_
    rintro e Y9 ⟨⟨Aq, cq, lq, eq, rfl, hq, sq⟩, hY9⟩
    replace q0 := q0.below hY9 q0.lt
    replace q11 := q11.below hY9 q11.lt
    replace hsx := hsx.go hY9
    replace sa := (sa.below hY9).up hY9.size
    replace sc := (sc.below hY9).up hY9.size
    replace sp := (sp.below hY9).up hY9.size
    replace hs4 := hs4.go hY9
    have B_Y9 := ex_trans B_Y8 hY9
    clear q0_0 q0_1 q0_2 q0_l q11_0 q11_1 q11_2 q11_l
    have q0_0 : Y9.cell? ⟨w.heap.size, 0, none⟩ = some (.slice (some ⟨ba, oa, none⟩) s.offs.length co) := q0.cell 0
    have q0_1 : Y9.cell? ⟨w.heap.size, 1, none⟩ = some (.int .i64 s.err) := q0.cell 1
    have q0_2 : Y9.cell? ⟨w.heap.size, 2, none⟩ = some (.slice Ab s.baths.length cb) := q0.cell 2
    have q0_l := q0.lt
    have q11_0 : Y9.cell? ⟨p11, 0, none⟩ = some (.slice (some ⟨g, 0, none⟩) x.offs.length k1) := q11.cell 0
    have q11_1 : Y9.cell? ⟨p11, 1, none⟩ = some (.int .i64 x.err) := q11.cell 1
    have q11_2 : Y9.cell? ⟨p11, 2, none⟩ = some (.slice Ab' x.baths.length cb') := q11.cell 2
    have q11_l := q11.lt
    clear hs4
    obtain ⟨he9, hlp, HPL⟩ := HSO.out HOX.out ha.out hp.out
    obtain rfl := he9.symm
    obtain ⟨he9, hlq⟩ := HSH.out HOX.out hc.out hq.out
    obtain rfl := he9.symm
    obtain rfl := hlq.symm
    rw [hlp] at sp ⊢
    clear hlp hp hq ha hc HSO HSH he9
    go_wp2_with fail
    refine (wider_law Ac Aq cc cq lc lc Y9 (by omega) sc sq (by omega)).mono ?_
    rintro e Y10 ⟨rfl, hY10⟩
    replace q0 := q0.below hY10 q0.lt
    replace q11 := q11.below hY10 q11.lt
    replace hsx := hsx.go hY10
    replace sa := (sa.below hY10).up hY10.size
    replace sc := (sc.below hY10).up hY10.size
    replace sp := (sp.below hY10).up hY10.size
    replace sq := (sq.below hY10).up hY10.size
    have B_Y10 := ex_trans B_Y9 hY10
    clear q0_0 q0_1 q0_2 q0_l q11_0 q11_1 q11_2 q11_l
    have q0_0 : Y10.cell? ⟨w.heap.size, 0, none⟩ = some (.slice (some ⟨ba, oa, none⟩) s.offs.length co) := q0.cell 0
    have q0_1 : Y10.cell? ⟨w.heap.size, 1, none⟩ = some (.int .i64 s.err) := q0.cell 1
    have q0_2 : Y10.cell? ⟨w.heap.size, 2, none⟩ = some (.slice Ab s.baths.length cb) := q0.cell 2
    have q0_l := q0.lt
    have q11_0 : Y10.cell? ⟨p11, 0, none⟩ = some (.slice (some ⟨g, 0, none⟩) x.offs.length k1) := q11.cell 0
    have q11_1 : Y10.cell? ⟨p11, 1, none⟩ = some (.int .i64 x.err) := q11.cell 1
    have q11_2 : Y10.cell? ⟨p11, 2, none⟩ = some (.slice Ab' x.baths.length cb') := q11.cell 2
    have q11_l := q11.lt
    rw [widB_self]
    go_wp2_with fail
    refine (wider_law Aq Ac cq cc lc lc Y10 (by omega) sq sc (by omega)).mono ?_
    rintro e Y11 ⟨rfl, hY11⟩
    replace q0 := q0.below hY11 q0.lt
    replace q11 := q11.below hY11 q11.lt
    replace hsx := hsx.go hY11
    replace sa := (sa.below hY11).up hY11.size
    replace sc := (sc.below hY11).up hY11.size
    replace sp := (sp.below hY11).up hY11.size
    replace sq := (sq.below hY11).up hY11.size
    have B_Y11 := ex_trans B_Y10 hY11
    clear q0_0 q0_1 q0_2 q0_l q11_0 q11_1 q11_2 q11_l
    have q0_0 : Y11.cell? ⟨w.heap.size, 0, none⟩ = some (.slice (some ⟨ba, oa, none⟩) s.offs.length co) := q0.cell 0
    have q0_1 : Y11.cell? ⟨w.heap.size, 1, none⟩ = some (.int .i64 s.err) := q0.cell 1
    have q0_2 : Y11.cell? ⟨w.heap.size, 2, none⟩ = some (.slice Ab s.baths.length cb) := q0.cell 2
    have q0_l := q0.lt
    have q11_0 : Y11.cell? ⟨p11, 0, none⟩ = some (.slice (some ⟨g, 0, none⟩) x.offs.length k1) := q11.cell 0
    have q11_1 : Y11.cell? ⟨p11, 1, none⟩ = some (.int .i64 x.err) := q11.cell 1
    have q11_2 : Y11.cell? ⟨p11, 2, none⟩ = some (.slice Ab' x.baths.length cb') := q11.cell 2
    have q11_l := q11.lt
    rw [widB_self]
    go_wp2_with fail
    clear q0_0 q0_1 q0_2 q0_l q11_0 q11_1 q11_2 q11_l
    refine wp_loop (fun a W => Rel (fun a W => ∃ j : Nat, j ≤ la.length ∧ Below Y11.heap.size Y11 W ∧ ∃ u : Nat → Value, a = ⟨List.toArray (u 0 :: u 1 :: u 2 :: u 3 :: u 4 :: u 5 :: u 6 :: u 7 :: .bool false :: .int .i64 (kk : Int) :: .int .i64 nn :: u 11 :: u 12 :: u 13 :: u 14 :: u 15 :: .slice Aa la.length ca :: .int .i64 ea :: u 18 :: u 19 :: u 20 :: u 21 :: u 22 :: u 23 :: u 24 :: .slice Ap la.length cp :: u 26 :: u 27 :: u 28 :: .int .i64 (j : Int) :: u 30 :: u 31 :: u 32 :: u 33 :: u 34 :: u 35 :: u 36 :: u 37 :: u 38 :: u 39 :: u 40 :: u 41 :: u 42 :: u 43 :: u 44 :: u 45 :: u 46 :: u 47 :: u 48 :: u 49 :: u 50 :: u 51 :: u 52 :: u 53 :: u 54 :: u 55 :: u 56 :: u 57 :: u 58 :: u 59 :: u 60 :: u 61 :: u 62 :: u 63 :: u 64 :: u 65 :: u 66 :: u 67 :: u 68 :: u 69 :: u 70 :: u 71 :: u 72 :: u 73 :: u 74 :: u 75 :: u 76 :: u 77 :: u 78 :: u 79 :: u 80 :: u 81 :: u 82 :: u 83 :: u 84 :: u 85 :: u 86 :: u 87 :: u 88 :: u 89 :: u 90 :: u 91 :: u 92 :: u 93 :: u 94 :: u 95 :: u 96 :: u 97 :: u 98 :: u 99 :: u 100 :: u 101 :: u 102 :: u 103 :: u 104 :: u 105 :: u 106 :: u 107 :: u 108 :: u 109 :: u 110 :: u 111 :: u 112 :: u 113 :: u 114 :: u 115 :: u 116 :: u 117 :: u 118 :: u 119 :: u 120 :: u 121 :: u 122 :: u 123 :: u 124 :: u 125 :: u 126 :: u 127 :: u 128 :: u 129 :: u 130 :: u 131 :: u 132 :: u 133 :: u 134 :: u 135 :: u 136 :: u 137 :: u 138 :: u 139 :: u 140 :: u 141 :: u 142 :: u 143 :: u 144 :: u 145 :: u 146 :: u 147 :: u 148 :: u 149 :: u 150 :: u 151 :: u 152 :: u 153 :: u 154 :: u 155 :: u 156 :: u 157 :: u 158 :: u 159 :: u 160 :: u 161 :: u 162 :: u 163 :: u 164 :: u 165 :: u 166 :: u 167 :: u 168 :: u 169 :: u 170 :: u 171 :: u 172 :: u 173 :: u 174 :: u 175 :: u 176 :: u 177 :: u 178 :: u 179 :: u 180 :: u 181 :: u 182 :: u 183 :: u 184 :: u 185 :: u 186 :: u 187 :: u 188 :: u 189 :: u 190 :: u 191 :: u 192 :: u 193 :: u 194 :: u 195 :: u 196 :: u 197 :: u 198 :: u 199 :: u 200 :: u 201 :: u 202 :: u 203 :: u 204 :: u 205 :: u 206 :: u 207 :: u 208 :: u 209 :: u 210 :: u 211 :: u 212 :: u 213 :: u 214 :: u 215 :: u 216 :: u 217 :: u 218 :: u 219 :: u 220 :: u 221 :: u 222 :: u 223 :: u 224 :: u 225 :: u 226 :: u 227 :: u 228 :: u 229 :: u 230 :: u 231 :: u 232 :: u 233 :: u 234 :: u 235 :: u 236 :: u 237 :: u 238 :: u 239 :: u 240 :: u 241 :: u 242 :: u 243 :: u 244 :: u 245 :: u 246 :: u 247 :: u 248 :: u 249 :: u 250 :: u 251 :: u 252 :: u 253 :: u 254 :: u 255 :: u 256 :: u 257 :: u 258 :: u 259 :: u 260 :: u 261 :: u 262 :: u 263 :: u 264 :: u 265 :: u 266 :: u 267 :: []), []⟩) a W)
      (fun a _ => la.length - (intOf (a.tmps.getD 29 undef)).toNat) ⟨⟨0, by omega, Below.refl _ _, exFrame (by kernel_rfl)⟩⟩ ?_
    rintro a Z ⟨⟨j, hj, hbz, u, rfl⟩⟩
    have B_Z := ex_trans B_Y11 hbz
    by_cases hlj : j < la.length
    rotate_left
    · rcases hea with rfl | rfl
      · go_wp2_with fail
        refine (wakes_any _).mono ?_
        rintro e Wz ⟨rfl, hz⟩
        go_wp2
        go_ret
        exact ⟨rfl, ex_trans B_Z hz⟩
      · go_wp2_with fail
        refine (wakes_any _).mono ?_
        rintro e Wz ⟨rfl, hz⟩
        go_wp2
        go_ret
        exact ⟨rfl, ex_trans B_Z hz⟩
    obtain ⟨br, orr, rfl, hbr, r0, r1⟩ := IsRgs.at_ (sa.below hbz) hlj
    obtain ⟨bp, op, rfl, hbp, s0, s1⟩ := IsRgs.at_ (sp.below hbz) hlj
    have lbr : br < Z.heap.size := by have := hbz.size; omega
    have lbp : bp < Z.heap.size := by have := hbz.size; omega
    rw [HPL.out j hlj] at s0 s1
    simp only at s0 s1
    have hbd := HBD.out j hlj
    obtain ⟨ll, hll⟩ : ∃ n, (gR la j).lo = n := ⟨_, rfl⟩
    obtain ⟨hh, hhh⟩ : ∃ n, (gR la j).hi = n := ⟨_, rfl⟩
    rw [hll] at r0 s0 hbd
    rw [hhh] at r1 s1 hbd
    clear hll hhh
    by_cases hjk : j = kk
    · have hsv : shV kk nn j = nn := by unfold shV; rw [if_pos hjk]
      rw [hsv] at s0 s1
      subst hjk
      clear hsv
      have kl : IntKind.i64.wrap (ll + nn) = ll + nn := IntWalk.i64_in _ (by omega)
      have kh : IntKind.i64.wrap (hh + nn) = hh + nn := IntWalk.i64_in _ (by omega)
      go_wp2_with fail
      refine wp_region_ext_mix 19 [(false, 0), (false, 1), (false, 2), (false, 3), (false, 4), (false, 5), (false, 6), (false, 7), (false, 8), (false, 9), (false, 10), (false, 11), (false, 12), (false, 13), (false, 14), (false, 15), (false, 16), (false, 17), (true, 18)] (by kernel_rfl) (by kernel_rfl) (by intro d _ _ _ _ h; cases d <;> exact h) ?_
      have X_D := (Below.refl Z.heap.size Z).drew
      repeat (refine mix_quiet rfl ?_; go_big_quiet_step (fail); refine wpQuiet_nil ?_)
      refine mix_loud rfl ?_
      go_wp2_with fail
      refine (between_law (ll + nn) (hh + nn) Z.drew).mono ?_
      rintro e Z1 ⟨rfl, hZ1⟩
      have X_1 := ex_trans X_D hZ1
      go_wp2_with fail
      refine ⟨inEx X_1, ?_⟩
      repeat (refine mix_quiet rfl ?_; go_big_quiet_step (fail); refine wpQuiet_nil ?_)
      refine mix_nil rfl ?_
      go_wp2_with fail
      refine ⟨⟨j + 1, by omega, ex_trans hbz X_1, exFrame (by kernel_rfl)⟩, ?_⟩
      show la.length - (intOf (.int .i64 ((j : Int) + 1))).toNat < la.length - (intOf (.int .i64 (j : Int))).toNat
      simp [intOf]
      omega
    · have hsv : shV kk nn j = 0 := by unfold shV; rw [if_neg hjk]
      rw [hsv] at s0 s1
      have d1 : ((j : Int) == (kk : Int)) = false := beq_eq_false_iff_ne.2 (by omega)
      have d2 : ¬ (j : Int) = (kk : Int) := by omega
      clear hsv
      have kl : IntKind.i64.wrap (ll + 0) = ll + 0 := IntWalk.i64_in _ (by omega)
      have kh : IntKind.i64.wrap (hh + 0) = hh + 0 := IntWalk.i64_in _ (by omega)
      have kl0 : IntKind.i64.wrap ll = ll := IntWalk.i64_in _ (by omega)
      have kh0 : IntKind.i64.wrap hh = hh := IntWalk.i64_in _ (by omega)
      rw [Int.add_zero] at s0 s1 kl kh
      go_wp2_with fail
      refine wp_region_ext_mix 19 [(false, 0), (false, 1), (false, 2), (false, 3), (false, 4), (false, 5), (false, 6), (false, 7), (false, 8), (false, 9), (false, 10), (false, 11), (false, 12), (false, 13), (false, 14), (false, 15), (false, 16), (false, 17), (true, 18)] (by kernel_rfl) (by kernel_rfl) (by intro d _ _ _ _ h; cases d <;> exact h) ?_
      have X_D := (Below.refl Z.heap.size Z).drew
      repeat (refine mix_quiet rfl ?_; go_big_quiet_step (fail); refine wpQuiet_nil ?_)
      refine mix_loud rfl ?_
      go_wp2_with fail
      refine (between_law ll hh Z.drew).mono ?_
      rintro e Z1 ⟨rfl, hZ1⟩
      have X_1 := ex_trans X_D hZ1
      go_wp2_with fail
      refine ⟨inEx X_1, ?_⟩
      repeat (refine mix_quiet rfl ?_; go_big_quiet_step (fail); refine wpQuiet_nil ?_)
      refine mix_nil rfl ?_
      go_wp2_with fail
      refine ⟨⟨j + 1, by omega, ex_trans hbz X_1, exFrame (by kernel_rfl)⟩, ?_⟩
      show la.length - (intOf (.int .i64 ((j : Int) + 1))).toNat < la.length - (intOf (.int .i64 (j : Int))).toNat
      simp [intOf]
      omega
  obtain ⟨bb, ob, rfl, hbb, g0, g1, g2⟩ := IsBts.at_ (hs.baths.below BW) hlt
  have hrd := hs.reads b hlt
  have hrl := HT.out.nr b hlt
  have hvl := HOK.out.val b hlt
  have hlen : X.length = b := by
    have := congrArg List.length HL.out
    rwa [List.length_map, List.length_map, List.length_range] at this
  obtain ⟨lo, hlo⟩ : ∃ lo, (gBt s.baths b).heat.lo = lo := ⟨_, rfl⟩
  obtain ⟨hi, hhi⟩ : ∃ hi, (gBt s.baths b).heat.hi = hi := ⟨_, rfl⟩
  obtain ⟨rd, hrdE⟩ : ∃ rd, (gBt s.baths b).reads = rd := ⟨_, rfl⟩
  obtain ⟨Ar, hAr⟩ : ∃ Ar, rA b = Ar := ⟨_, rfl⟩
  obtain ⟨cr, hcr⟩ : ∃ cr, rc b = cr := ⟨_, rfl⟩
  have HGB : Hid (∀ Y, Below w.heap.size w Y → Y.cell? ⟨bb, ob + b * 3 + 2, none⟩ = some (.slice Ar rd.length cr)) := Lib.hid (fun Y hY => by
    obtain ⟨b', o', e, _, _, _, h⟩ := IsBts.at_ (hs.baths.below hY) hlt
    injection e with e
    injection e with e1 e2
    subst e1 e2
    rw [h, hAr, hcr, hrdE])
  have HBK : Hid (shB s kk nn b = ⟨⟨lo, hi⟩, rd.map (shR kk nn)⟩) := Lib.hid (by unfold shB; rw [← hlo, ← hhi, ← hrdE])
  rw [hlo] at g0
  rw [hhi] at g1
  rw [hrdE, hAr] at hrd
  rw [hrdE] at hrl hvl
  have HVL := Lib.hid hvl
  clear hlo hhi hrdE hAr hcr g2 hvl
  have hxl : X.length ≤ 1000 := by omega
  clear hlen
  have lbb : bb < W.heap.size := by have := BW.size; omega
  have HX0 := Blk.new W 82 #[.int .i64 lo, .int .i64 hi, .slice none 0 0]
  have hX2 := ex_alloc (Below.refl W.heap.size W) (.cells #[.int .i64 lo, .int .i64 hi, .slice none 0 0] 82)
  have hX2s : W.heap.size + 1 ≤ (W.alloc (.cells #[.int .i64 lo, .int .i64 hi, .slice none 0 0] 82)).heap.size := by simp
  go_wp2_with fail
  obtain ⟨px, hpx⟩ : ∃ px, W.heap.size = px := ⟨_, rfl⟩
  have HPX := Lib.hid hpx
  generalize W.alloc (.cells #[.int .i64 lo, .int .i64 hi, .slice none 0 0] 82) = X2 at *
  rw [hpx] at HX0 hX2s ⊢
  clear hpx a2 g0 g1 l0
  refine wp_loop (fun a Y => Rel (fun a Y => ∃ i : Nat, i ≤ rd.length ∧ Below W.heap.size W Y ∧ px + 1 ≤ Y.heap.size ∧ ∃ A3 c3, ∃ L3 : List Rd, Hid (L3 = (rd.take i).map (shR kk nn)) ∧ Blk Y px 82 #[.int .i64 lo, .int .i64 hi, .slice A3 L3.length c3] ∧ Y.ownsRow (px + 1) 89 2 (.slice A3 L3.length c3) L3.length (L3.flatMap cRd) ∧ ∃ u : Nat → Value, a = ⟨List.toArray (u 0 :: u 1 :: u 2 :: .int .u8 m3 :: .pointer (some ⟨w.heap.size, 0, none⟩) :: u 5 :: u 6 :: u 7 :: .bool false :: .int .i64 (kk : Int) :: .int .i64 nn :: .pointer (some ⟨p11, 0, none⟩) :: .int .i64 (b : Int) :: .pointer (some ⟨px, 0, none⟩) :: .int .i64 (i : Int) :: u 15 :: u 16 :: u 17 :: u 18 :: u 19 :: u 20 :: u 21 :: u 22 :: u 23 :: u 24 :: u 25 :: u 26 :: u 27 :: u 28 :: u 29 :: u 30 :: u 31 :: u 32 :: u 33 :: u 34 :: u 35 :: u 36 :: u 37 :: u 38 :: u 39 :: u 40 :: u 41 :: u 42 :: u 43 :: u 44 :: u 45 :: u 46 :: u 47 :: u 48 :: u 49 :: u 50 :: u 51 :: u 52 :: u 53 :: u 54 :: u 55 :: u 56 :: u 57 :: u 58 :: u 59 :: u 60 :: u 61 :: u 62 :: u 63 :: u 64 :: u 65 :: u 66 :: u 67 :: u 68 :: u 69 :: u 70 :: u 71 :: u 72 :: u 73 :: u 74 :: u 75 :: u 76 :: u 77 :: u 78 :: u 79 :: u 80 :: u 81 :: u 82 :: u 83 :: u 84 :: u 85 :: u 86 :: u 87 :: u 88 :: u 89 :: u 90 :: u 91 :: u 92 :: u 93 :: u 94 :: u 95 :: u 96 :: u 97 :: u 98 :: u 99 :: u 100 :: u 101 :: u 102 :: u 103 :: u 104 :: u 105 :: u 106 :: u 107 :: u 108 :: u 109 :: u 110 :: u 111 :: u 112 :: u 113 :: u 114 :: u 115 :: u 116 :: u 117 :: u 118 :: u 119 :: u 120 :: u 121 :: u 122 :: u 123 :: u 124 :: u 125 :: u 126 :: u 127 :: u 128 :: u 129 :: u 130 :: u 131 :: u 132 :: u 133 :: u 134 :: u 135 :: u 136 :: u 137 :: u 138 :: u 139 :: u 140 :: u 141 :: u 142 :: u 143 :: u 144 :: u 145 :: u 146 :: u 147 :: u 148 :: u 149 :: u 150 :: u 151 :: u 152 :: u 153 :: u 154 :: u 155 :: u 156 :: u 157 :: u 158 :: u 159 :: u 160 :: u 161 :: u 162 :: u 163 :: u 164 :: u 165 :: u 166 :: u 167 :: u 168 :: u 169 :: u 170 :: u 171 :: u 172 :: u 173 :: u 174 :: u 175 :: u 176 :: u 177 :: u 178 :: u 179 :: u 180 :: u 181 :: u 182 :: u 183 :: u 184 :: u 185 :: u 186 :: u 187 :: u 188 :: u 189 :: u 190 :: u 191 :: u 192 :: u 193 :: u 194 :: u 195 :: u 196 :: u 197 :: u 198 :: u 199 :: u 200 :: u 201 :: u 202 :: u 203 :: u 204 :: u 205 :: u 206 :: u 207 :: u 208 :: u 209 :: u 210 :: u 211 :: u 212 :: u 213 :: u 214 :: u 215 :: u 216 :: u 217 :: u 218 :: u 219 :: u 220 :: u 221 :: u 222 :: u 223 :: u 224 :: u 225 :: u 226 :: u 227 :: u 228 :: u 229 :: u 230 :: u 231 :: u 232 :: u 233 :: u 234 :: u 235 :: u 236 :: u 237 :: u 238 :: u 239 :: u 240 :: u 241 :: u 242 :: u 243 :: u 244 :: u 245 :: u 246 :: u 247 :: u 248 :: u 249 :: u 250 :: u 251 :: u 252 :: u 253 :: u 254 :: u 255 :: u 256 :: u 257 :: u 258 :: u 259 :: u 260 :: u 261 :: u 262 :: u 263 :: u 264 :: u 265 :: u 266 :: u 267 :: []), []⟩) a Y)
    (fun a _ => rd.length - (intOf (a.tmps.getD 14 undef)).toNat) ⟨⟨0, by omega, hX2, hX2s, none, 0, [], Lib.hid rfl, HX0, ⟨rfl, .inl ⟨rfl, rfl⟩⟩, exFrame (by kernel_rfl)⟩⟩ ?_
  clear HX0 hX2 hX2s X2
  rintro a Y ⟨⟨i, hi', hbX, hsY, A3, c3, L3, HL3, qx, own3, u, rfl⟩⟩
  have BY := ex_trans BW hbX
  have q0Y := q0.below hbX q0.lt
  have l0 := q0Y.lt
  have lx := qx.lt
  have a2 : Y.cell? ⟨w.heap.size, 2, none⟩ = some (.slice (some ⟨bb, ob, none⟩) s.baths.length cb) := q0Y.cell 2
  have g2 := HGB.out Y BY
  have lbY : bb < Y.heap.size := by have := hbX.size; omega
  have hpX := HPX.out
  by_cases hli : i < rd.length
  · --BEGIN o3
    obtain ⟨br, orr, rfl, hbr, r0, r1⟩ := IsRds.at_ (hrd.below BY) hli
    have lbr : br < Y.heap.size := by have := BY.size; omega
    have hlen3 : L3.length ≤ 1000 := by rw [HL3.out]; simp; omega
    have hvv0 := HVL.out i hli
    obtain ⟨iv, hiv⟩ : ∃ iv, (gRd rd i).inst = iv := ⟨_, rfl⟩
    obtain ⟨vv, hvv⟩ : ∃ vv, (gRd rd i).val = vv := ⟨_, rfl⟩
    have hrd0 : gRd rd i = ⟨iv, vv⟩ := by rw [← hiv, ← hvv]
    rw [hiv] at r0
    rw [hvv] at r1 hvv0
    clear hiv hvv
    by_cases hik : iv = (kk : Int)
    · subst hik
      have hsw : shR kk nn ⟨(kk : Int), vv⟩ = ⟨(kk : Int), vv + nn⟩ := by unfold shR; rw [if_pos rfl]
      have HN3 : Hid (L3 ++ [⟨(kk : Int), (vv + nn)⟩] = (rd.take (i + 1)).map (shR kk nn)) := Lib.hid (by rw [← hsw]; exact shR_snoc hli HL3.out hrd0)
      clear hrd0 hsw
      have kv : IntKind.i64.wrap (vv + nn) = vv + nn := IntWalk.i64_in _ (by omega)
      go_upto_region 16 with fail
      have hY1 := ex_alloc (Below.refl Y.heap.size Y) (.cells #[.int .i64 (kk : Int), .int .i64 (vv + nn)] 89)
      have q15 : Blk (Y.alloc (.cells #[.int .i64 (kk : Int), .int .i64 (vv + nn)] 89)) Y.heap.size 89 #[.int .i64 (kk : Int), .int .i64 (vv + nn)] := Blk.new _ _ _
      obtain ⟨p15, hp15⟩ : ∃ p, Y.heap.size = p := ⟨_, rfl⟩
      have hp150 : Y.heap.size ≤ p15 := by omega
      rw [hp15] at q15 ⊢
      clear hp15
      generalize Y.alloc (.cells #[.int .i64 (kk : Int), .int .i64 (vv + nn)] 89) = Y1 at *
      have hbX1 := ex_trans hbX hY1
      have qx1 := qx.below hY1 lx
      have own31 := own_below own3 hY1
      have z0 : Y1.cell? ⟨p15, 0, none⟩ = some (.int .i64 (kk : Int)) := q15.cell 0
      have z1 : Y1.cell? ⟨p15, 1, none⟩ = some (.int .i64 (vv + nn)) := q15.cell 1
      have zl := q15.lt
      have x2 : Y1.cell? ⟨px, 2, none⟩ = some (.slice A3 L3.length c3) := qx1.cell 2
      have lx1 := qx1.lt
      have hY1s := hY1.size
      clear a2 g2 r0 r1 lbY lbr l0 lx qx own3
      have hZ := ex_alloc (Below.refl Y1.heap.size Y1) (.cells #[.int .i64 (kk : Int), .int .i64 (vv + nn)] 89)
      have y4 := own31.alloc (.cells #[.int .i64 (kk : Int), .int .i64 (vv + nn)] 89)
      have c63 : L3.length + 1 ≤ maxLen := by unfold maxLen; omega
      have cby : (L3.length + 1) * 16 ≤ 140737488355328 := by omega
      have hbase : px + 1 ≤ (Y1.alloc (.cells #[.int .i64 (kk : Int), .int .i64 (vv + nn)] 89)).heap.size := by have := hZ.size; omega
      have hge := fun (j : Nat) (hj : (Value.slice A3 L3.length c3).ownBlock = some j) => own_ge own31 hj
      have hnx : some px ≠ (Value.slice A3 L3.length c3).ownBlock := fun e => by have := hge _ e.symm; omega
      have qxZ := qx1.below hZ lx1
      go_wp2_with (refine pause_at 118 rfl ?_)
      refine Paused.mk ?_
      refine wpList_append_lies _ rfl _ _ _ rfl (px + 1) 89 i1 _ 2 16 Try.underlying80 HJ.out hy0 hy1 hy2 rfl (by omega) (.slice A3 L3.length c3) _ _ rfl y4 ⟨Y1.heap.size, 0, none⟩ 1 1 [.int .i64 (kk : Int), .int .i64 (vv + nn)] rfl rfl (World.news_of_block (heap_alloc_new Y1 _)) (by simp [Value.oneCell']) (by omega) c63 cby hbase (Y1.heap.size + 1) (by simp) ?_
      intro gg cap w1 hown' hgrow hat hlt'
      have hX1 := (ex_trans hbX1 hZ).grown hgrow (by have := hbX1.size; have := hZ.size; omega) (fun j hj => by have := hge j hj; omega)
      have qx3 := qxZ.grown hgrow hnx
      have x13 : w1.cell? ⟨px, 2, none⟩ = some (.slice A3 L3.length c3) := qx3.cell 2
      have lx3 := qx3.lt
      have fx3 := qx3.frozen0
      have qx4 := qx3.set_ 2 (.slice (some ⟨gg, 0, none⟩) (L3.length + 1) cap)
      simp only [List.setIfInBounds_toArray, List.set_cons_zero, List.set_cons_succ] at qx4
      have own4 := own_far (own_push (f := cRd) (x := ⟨(kk : Int), (vv + nn)⟩) rfl hown') (p := ⟨px, 2, none⟩) (by show px < px + 1; omega) (.slice (some ⟨gg, 0, none⟩) (L3.length + 1) cap)
      have hB5 := ex_set hX1 (p := ⟨px, 2, none⟩) (by show W.heap.size ≤ px; omega) (.slice (some ⟨gg, 0, none⟩) (L3.length + 1) cap)
      have hs5 : px + 1 ≤ (w1.setCell ⟨px, 2, none⟩ (.slice (some ⟨gg, 0, none⟩) (L3.length + 1) cap)).heap.size := by have := hgrow.size; simp; omega
      generalize hL4 : L3 ++ [(⟨(kk : Int), (vv + nn)⟩ : Rd)] = L4 at *
      have hl4 : L3.length + 1 = L4.length := by rw [← hL4]; simp
      have HL5 := Lib.hid hl4
      clear hL4 hl4
      rw [HL5.out] at qx4 own4 hB5 hs5
      clear hown' hgrow y4 hX1 x2 hnx z0 z1 zl qxZ hge hat
      go_wp2_with fail
      rw [HL5.out]
      refine ⟨⟨⟨i + 1, by omega, hB5, hs5, _, _, L4, HN3, qx4, own4, exFrame (by kernel_rfl)⟩⟩, ?_⟩
      show rd.length - (intOf (.int .i64 ((i : Int) + 1))).toNat < rd.length - (intOf (.int .i64 (i : Int))).toNat
      simp [intOf]
      omega
    · have hsw : shR kk nn ⟨iv, vv⟩ = ⟨iv, vv⟩ := by unfold shR; rw [if_neg hik]
      have hd1 : (iv == (kk : Int)) = false := beq_eq_false_iff_ne.2 hik
      have hd2 : ((kk : Int) == iv) = false := beq_eq_false_iff_ne.2 (fun e => hik e.symm)
      have HN3 : Hid (L3 ++ [⟨iv, vv⟩] = (rd.take (i + 1)).map (shR kk nn)) := Lib.hid (by rw [← hsw]; exact shR_snoc hli HL3.out hrd0)
      clear hrd0 hsw
      go_upto_region 16 with fail
      have hY1 := ex_alloc (Below.refl Y.heap.size Y) (.cells #[.int .i64 iv, .int .i64 vv] 89)
      have q15 : Blk (Y.alloc (.cells #[.int .i64 iv, .int .i64 vv] 89)) Y.heap.size 89 #[.int .i64 iv, .int .i64 vv] := Blk.new _ _ _
      obtain ⟨p15, hp15⟩ : ∃ p, Y.heap.size = p := ⟨_, rfl⟩
      have hp150 : Y.heap.size ≤ p15 := by omega
      rw [hp15] at q15 ⊢
      clear hp15
      generalize Y.alloc (.cells #[.int .i64 iv, .int .i64 vv] 89) = Y1 at *
      have hbX1 := ex_trans hbX hY1
      have qx1 := qx.below hY1 lx
      have own31 := own_below own3 hY1
      have z0 : Y1.cell? ⟨p15, 0, none⟩ = some (.int .i64 iv) := q15.cell 0
      have z1 : Y1.cell? ⟨p15, 1, none⟩ = some (.int .i64 vv) := q15.cell 1
      have zl := q15.lt
      have x2 : Y1.cell? ⟨px, 2, none⟩ = some (.slice A3 L3.length c3) := qx1.cell 2
      have lx1 := qx1.lt
      have hY1s := hY1.size
      clear a2 g2 r0 r1 lbY lbr l0 lx qx own3
      have hZ := ex_alloc (Below.refl Y1.heap.size Y1) (.cells #[.int .i64 iv, .int .i64 vv] 89)
      have y4 := own31.alloc (.cells #[.int .i64 iv, .int .i64 vv] 89)
      have c63 : L3.length + 1 ≤ maxLen := by unfold maxLen; omega
      have cby : (L3.length + 1) * 16 ≤ 140737488355328 := by omega
      have hbase : px + 1 ≤ (Y1.alloc (.cells #[.int .i64 iv, .int .i64 vv] 89)).heap.size := by have := hZ.size; omega
      have hge := fun (j : Nat) (hj : (Value.slice A3 L3.length c3).ownBlock = some j) => own_ge own31 hj
      have hnx : some px ≠ (Value.slice A3 L3.length c3).ownBlock := fun e => by have := hge _ e.symm; omega
      have qxZ := qx1.below hZ lx1
      go_wp2_with (refine pause_at 118 rfl ?_)
      refine Paused.mk ?_
      refine wpList_append_lies _ rfl _ _ _ rfl (px + 1) 89 i1 _ 2 16 Try.underlying80 HJ.out hy0 hy1 hy2 rfl (by omega) (.slice A3 L3.length c3) _ _ rfl y4 ⟨Y1.heap.size, 0, none⟩ 1 1 [.int .i64 iv, .int .i64 vv] rfl rfl (World.news_of_block (heap_alloc_new Y1 _)) (by simp [Value.oneCell']) (by omega) c63 cby hbase (Y1.heap.size + 1) (by simp) ?_
      intro gg cap w1 hown' hgrow hat hlt'
      have hX1 := (ex_trans hbX1 hZ).grown hgrow (by have := hbX1.size; have := hZ.size; omega) (fun j hj => by have := hge j hj; omega)
      have qx3 := qxZ.grown hgrow hnx
      have x13 : w1.cell? ⟨px, 2, none⟩ = some (.slice A3 L3.length c3) := qx3.cell 2
      have lx3 := qx3.lt
      have fx3 := qx3.frozen0
      have qx4 := qx3.set_ 2 (.slice (some ⟨gg, 0, none⟩) (L3.length + 1) cap)
      simp only [List.setIfInBounds_toArray, List.set_cons_zero, List.set_cons_succ] at qx4
      have own4 := own_far (own_push (f := cRd) (x := ⟨iv, vv⟩) rfl hown') (p := ⟨px, 2, none⟩) (by show px < px + 1; omega) (.slice (some ⟨gg, 0, none⟩) (L3.length + 1) cap)
      have hB5 := ex_set hX1 (p := ⟨px, 2, none⟩) (by show W.heap.size ≤ px; omega) (.slice (some ⟨gg, 0, none⟩) (L3.length + 1) cap)
      have hs5 : px + 1 ≤ (w1.setCell ⟨px, 2, none⟩ (.slice (some ⟨gg, 0, none⟩) (L3.length + 1) cap)).heap.size := by have := hgrow.size; simp; omega
      generalize hL4 : L3 ++ [(⟨iv, vv⟩ : Rd)] = L4 at *
      have hl4 : L3.length + 1 = L4.length := by rw [← hL4]; simp
      have HL5 := Lib.hid hl4
      clear hL4 hl4
      rw [HL5.out] at qx4 own4 hB5 hs5
      clear hown' hgrow y4 hX1 x2 hnx z0 z1 zl qxZ hge hat
      go_wp2_with fail
      rw [HL5.out]
      refine ⟨⟨⟨i + 1, by omega, hB5, hs5, _, _, L4, HN3, qx4, own4, exFrame (by kernel_rfl)⟩⟩, ?_⟩
      show rd.length - (intOf (.int .i64 ((i : Int) + 1))).toNat < rd.length - (intOf (.int .i64 (i : Int))).toNat
      simp [intOf]
      omega
  obtain rfl : i = rd.length := by omega
  obtain ⟨A5, c5, e5, _, _, hr5⟩ := own_row (c := cRd) (sz := 2) (fun _ => rfl) (f := fRd L3) (fun k hk j hj => by
    have e := gRd_at hk
    match j, hj with
    | 0, _ => simp [cRd, fRd, e]
    | 1, _ => simp [cRd, fRd, e]) own3
  injection e5 with e5 _ e52
  subst e5 e52
  have hNY := hN.below hbX
  have hroY := hro.below hbX
  have q2Y := q11.below hbX q11.lt
  have l2 := q2Y.lt
  clear own3
  have x0 : Y.cell? ⟨px, 0, none⟩ = some (.int .i64 lo) := qx.cell 0
  have x1 : Y.cell? ⟨px, 1, none⟩ = some (.int .i64 hi) := qx.cell 1
  have x2 : Y.cell? ⟨px, 2, none⟩ = some (.slice A3 L3.length c3) := qx.cell 2
  have b2 : Y.cell? ⟨p11, 2, none⟩ = some v := q2Y.cell 2
  have c63 : X.length + 1 ≤ maxLen := by unfold maxLen; omega
  have cby : (X.length + 1) * 40 ≤ 140737488355328 := by omega
  have hZ := ex_alloc (Below.refl Y.heap.size Y) (.cells #[.int .i64 lo, .int .i64 hi, .slice A3 L3.length c3] 82)
  have y4 := hNY.own.alloc (.cells #[.int .i64 lo, .int .i64 hi, .slice A3 L3.length c3] 82)
  have hws := hbl'.size
  have hbase : p11 + 1 ≤ (Y.alloc (.cells #[.int .i64 lo, .int .i64 hi, .slice A3 L3.length c3] 82)).heap.size := by have := hZ.size; have := hbX.size; omega
  have hge := fun (j : Nat) (hj : v.ownBlock = some j) => own_ge hNY.own hj
  have hn2 : some p11 ≠ v.ownBlock := fun e => by have := hge _ e.symm; omega
  have q2Z := q2Y.below hZ l2
  go_wp2_with (refine pause_at 124 rfl ?_)
  refine Paused.mk ?_
  refine wpList_append_lies _ rfl _ _ _ rfl (p11 + 1) 82 i2 _ 3 40 Try.underlying23 HK.out hu0 hu1 hu2 rfl (by omega) v _ _ rfl y4 ⟨Y.heap.size, 0, none⟩ 1 1 [.int .i64 lo, .int .i64 hi, .slice A3 L3.length c3] rfl rfl (World.news_of_block (heap_alloc_new Y _)) (by simp [Value.oneCell']) (by omega) c63 cby hbase (Y.heap.size + 1) (by simp) ?_
  intro gg cap w1 hown' hgrow hat hlt'
  have q23 := q2Z.grown hgrow hn2
  have b23 : w1.cell? ⟨p11, 2, none⟩ = some v := q23.cell 2
  have l23 := q23.lt
  have f23 := q23.frozen0
  have hro3 := ((hroY.below hZ).grown hgrow (hNY.below hZ).own (by decide)).set q23 (by decide) 2 (.slice (some ⟨gg, 0, none⟩) (X.length + 1) cap)
  clear a2 g2 l0 lbY
  go_wp2_with fail
  have hN3 : ROwn w1 (p11 + 1) (.slice (some ⟨gg, 0, none⟩) (X.length + 1) cap) (X ++ [((⟨⟨lo, hi⟩, L3⟩ : Bt), A3, c3)]) :=
    NOwn.push (hNY.below hZ) hgrow (by decide) rfl (own_push (f := cB) (x := ((⟨⟨lo, hi⟩, L3⟩ : Bt), A3, c3)) rfl hown') (fun y hy => by
      obtain rfl := List.mem_singleton.1 hy
      exact (hr5.below hZ).base (by omega))
  have HN : Hid ((X ++ [((⟨⟨lo, hi⟩, L3⟩ : Bt), A3, c3)]).map (·.1) = (List.range (b + 1)).map (shB s kk nn)) := Lib.hid (by
    rw [List.map_append, HL.out, List.range_succ, List.map_append, List.map_singleton, List.map_singleton, HBK.out, HL3.out, List.take_length])
  generalize X ++ [((⟨⟨lo, hi⟩, L3⟩ : Bt), A3, c3)] = X' at *
  have B3 : Below W1.heap.size W1 w1 := (ex_trans (ex_trans hbl' hbX) hZ).grown hgrow (by have := hbX.size; have := hZ.size; omega) (fun j hj => by have := hge j hj; omega)
  have B4 := ex_set B3 (p := ⟨p11, 2, none⟩) (by show W1.heap.size ≤ p11; omega) (.slice (some ⟨gg, 0, none⟩) (X.length + 1) cap)
  have q24 := q23.set_ 2 (.slice (some ⟨gg, 0, none⟩) (X.length + 1) cap)
  simp only [List.setIfInBounds_toArray, List.set_cons_zero, List.set_cons_succ] at q24
  have hN4 := hN3.set q23 (by decide) (by decide) 2 (.slice (some ⟨gg, 0, none⟩) (X.length + 1) cap)
  have hs4 : p11 + 1 ≤ (w1.setCell ⟨p11, 2, none⟩ (.slice (some ⟨gg, 0, none⟩) (X.length + 1) cap)).heap.size := by have := hgrow.size; simp; omega
  refine ⟨⟨⟨b + 1, by omega, B4, hs4, hro3, _, X', HN, q24, hN4, exFrame (by kernel_rfl)⟩⟩, ?_⟩
  show s.baths.length - (intOf (.int .i64 ((b : Int) + 1))).toNat < s.baths.length - (intOf (.int .i64 (b : Int))).toNat
  simp [intOf]
  omega
end Go.Proofs.Ytnplefhigbkbbaa
end
