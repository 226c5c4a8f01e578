/- Stem (plain): what Same tells, by the map. · Stem: Same (walk). · Stem's law: awake (the chapter's example). · The law StemNames (plain): all that the examples show. -/
import Derived.Test.YtkaogjhnogkcdaaK19
import Derived.Test.YtkaogjhnogkcdaaK13
import Derived.Test.YtkaogjhnogkcdaaK18
import Derived.Test.YtkaogjhnogkcdaaK20
import Derived.Test.YtkaogjhnogkcdaaK10
import Derived.Test.YtkaogjhnogkcdaaK14
set_option linter.unusedVariables false
set_option linter.unusedSimpArgs false
set_option linter.unusedSectionVars false
section
namespace Go.Proofs.Ytkaogjhnogkcdaa
theorem mnTo_bd {xs : List Int} : ∀ {n : Nat}, 0 < n → (∃ i, i < n ∧ mnTo xs n = gI xs i) ∧ ∀ i, i < n → mnTo xs n ≤ gI xs i
 | 0, h => by omega
 | n + 1, _ => by
  rcases Nat.eq_zero_or_pos n with h0 | h0
  ·
   subst h0
   refine ⟨⟨0, by omega, by simp [mnTo]⟩, fun i hi => ?_⟩
   have e : i = 0 := by omega
   subst e
   simp [mnTo]
  ·
   obtain ⟨⟨i, hi, e⟩, h2⟩ := mnTo_bd (xs := xs) h0
   rw [mnTo]
   refine ⟨?_, fun j hj => ?_⟩
   ·
    rcases Int.le_total (mnTo xs n) (gI xs n) with h | h
    ·
     exact ⟨i, by omega, by omega⟩
    ·
     exact ⟨n, by omega, by omega⟩
   ·
    rcases Nat.lt_succ_iff_lt_or_eq.1 hj with h | h
    ·
     have := h2 j h; omega
    ·
     subst h; omega
theorem mxTo_bd {xs : List Int} : ∀ {n : Nat}, 0 < n → (∃ i, i < n ∧ mxTo xs n = gI xs i) ∧ ∀ i, i < n → gI xs i ≤ mxTo xs n
 | 0, h => by omega
 | n + 1, _ => by
  rcases Nat.eq_zero_or_pos n with h0 | h0
  ·
   subst h0
   refine ⟨⟨0, by omega, by simp [mxTo]⟩, fun i hi => ?_⟩
   have e : i = 0 := by omega
   subst e
   simp [mxTo]
  ·
   obtain ⟨⟨i, hi, e⟩, h2⟩ := mxTo_bd (xs := xs) h0
   rw [mxTo]
   refine ⟨?_, fun j hj => ?_⟩
   ·
    rcases Int.le_total (mxTo xs n) (gI xs n) with h | h
    ·
     exact ⟨n, by omega, by omega⟩
    ·
     exact ⟨i, by omega, by omega⟩
   ·
    rcases Nat.lt_succ_iff_lt_or_eq.1 hj with h | h
    ·
     have := h2 j h; omega
    ·
     subst h; omega
def gK (L : List (Ki × Rg)) (i : Nat) : Rg := ((L.map (·.2))[i]?).getD ⟨0, 0⟩
def losK (L : List (Ki × Rg)) (sn : List Nat) : List Int := sn.map fun i => (gK L i).lo
def hisK (L : List (Ki × Rg)) (sn : List Nat) : List Int := sn.map fun i => (gK L i).hi
theorem gK_at {L : List (Ki × Rg)} {i : Nat} (hi : i < L.length) : gK L i = L[i].2 := by simp [gK, hi]
theorem same_none {t : Tb} {rs : List Rd} {L : List (Ki × Rg)} {F : Ki → Option Rg} {W : World} {m : Nat} (ht : TbBd t) (hR : RdsBd rs) (h0 : 0 < rs.length) (hm : MpN keyK cRg W m L F) (hF : LeftF t rs F) (hL : L = []) : ¬ ∃ n, SameK t rs n := by
 rintro ⟨n, q, hq, hs⟩
 have hb := sayAll_bnd ht hR hq hs h0
 have := (hF q).1 hq
 cases hf : F q with
 | none => rw [hf] at this; have := this n hb.1 (by omega); rw [hs] at this; cases this
 | some R => have := hm.mem.2 hf; rw [hL] at this; cases this
theorem same_some {t : Tb} {rs : List Rd} {L : List (Ki × Rg)} {F : Ki → Option Rg} {W : World} {m : Nat} (ht : TbBd t) (hR : RdsBd rs) (h0 : 0 < rs.length) (hm : MpN keyK cRg W m L F) (hF : LeftF t rs F) {sn : List Nat} (hsn : ∀ i ∈ sn, i < L.length) (hall : ∀ i, i < L.length → i ∈ sn) (hL : 0 < sn.length) :
  EndsOf (SameK t rs) (mnTo (losK L sn) sn.length) (mxTo (hisK L sn) sn.length) := by
 have hin : ∀ i (hi : i < L.length), KiIn t L[i].1 := fun i hi => Classical.byContradiction fun hc => by
  have h1 : (L[i].1, L[i].2) ∈ L := List.getElem_mem hi
  have h2 := hm.mem.1 h1
  rw [(hF _).2 hc] at h2; cases h2
 have hends : ∀ i (hi : i < L.length), EndsOf (fun n => ((bndP t (gE rs 0)).lo ≤ n ∧ n < (bndP t (gE rs 0)).hi + 1) ∧ sayAll rs L[i].1 n = true) (gK L i).lo (gK L i).hi := fun i hi => by
  have h1 : (L[i].1, L[i].2) ∈ L := List.getElem_mem hi
  have h2 := hm.mem.1 h1
  have h3 := (hF _).1 (hin i hi)
  rw [h2] at h3
  rw [gK_at hi]
  exact h3
 have hat : ∀ j, j < sn.length → ∃ i, i < L.length ∧ gI (losK L sn) j = (gK L i).lo ∧ gI (hisK L sn) j = (gK L i).hi := fun j hj => ⟨sn[j], hsn _ (List.getElem_mem hj), by simp [gI, losK, hj], by simp [gI, hisK, hj]⟩
 obtain ⟨⟨j1, hj1, e1⟩, b1⟩ := mnTo_bd (xs := losK L sn) hL
 obtain ⟨⟨j2, hj2, e2⟩, b2⟩ := mxTo_bd (xs := hisK L sn) hL
 refine ⟨?_, ?_, fun n ⟨q, hq, hs⟩ => ?_⟩
 ·
  obtain ⟨i, hi, e3, _⟩ := hat j1 hj1
  rw [e1, e3]
  exact ⟨_, hin i hi, (hends i hi).1.2⟩
 ·
  obtain ⟨i, hi, _, e3⟩ := hat j2 hj2
  rw [e2, e3]
  exact ⟨_, hin i hi, (hends i hi).2.1.2⟩
 ·
  have hb := sayAll_bnd ht hR hq hs h0
  have h3 := (hF q).1 hq
  cases hf : F q with
  | none => rw [hf] at h3; have := h3 n hb.1 (by omega); rw [hs] at this; cases this
  | some R =>
   rw [hf] at h3
   have h3' : EndsOf (fun n => ((bndP t (gE rs 0)).lo ≤ n ∧ n < (bndP t (gE rs 0)).hi + 1) ∧ sayAll rs q n = true) R.lo R.hi := h3
   have h4 := h3'.2.2 n ⟨⟨hb.1, by omega⟩, hs⟩
   obtain ⟨i, hi, hLi⟩ := List.getElem_of_mem (hm.mem.2 hf)
   obtain ⟨j, hj, hsj⟩ := List.getElem_of_mem (hall i hi)
   have c1 := b1 j hj
   have c2 := b2 j hj
   have g1 : gI (losK L sn) j = R.lo := by simp [gI, losK, hj, hsj, gK_at hi, hLi]
   have g2 : gI (hisK L sn) j = R.hi := by simp [gI, hisK, hj, hsj, gK_at hi, hLi]
   omega
def SamV (t : Tb) (h : List Rg) (l : List Ic) (rs : List Rd) (R : Rg) (ev : Int) : Prop :=
 (useE t h l ≠ 0 ∧ ev = useE t h l ∧ R = ⟨0, 0⟩) ∨ (useE t h l = 0 ∧ bathE t l h.length rs (agreeB t.g h l off0) ≠ 0 ∧ ev = bathE t l h.length rs (agreeB t.g h l off0) ∧ R = ⟨0, 0⟩) ∨
 (useE t h l = 0 ∧ bathE t l h.length rs (agreeB t.g h l off0) = 0 ∧ ∃ zs, ZsOf t.g h l zs ∧ (((¬ ∃ n, SameK t rs n) ∧ ev = 9 ∧ R = ⟨0, 0⟩) ∨ ∃ a b, EndsOf (SameK t rs) a b ∧ ev = 0 ∧ R = ⟨a - (gR zs (gE rs 0).day.toNat).hi, b - (gR zs (gE rs 0).day.toNat).lo⟩))
end Go.Proofs.Ytkaogjhnogkcdaa
end

section
namespace Go.Proofs.Ytkaogjhnogkcdaa
open Go.RowKit Go.Shelf
attribute [local go_sem] Ex.cell? Ex.frozen? Fx.cell?
section
variable {t : Tb} {l : List Ic} {nh : Int} {rs : List Rd} {ag : Bool}
theorem bath_0 (h : bathE t l nh rs ag = 0) : ¬ 5 < rs.length ∧ 0 < rs.length ∧ allTo (fun k => dayB nh (gE rs 0).day (gE rs k)) rs.length = true ∧ refE t l (gE rs 0) ag = 0 := by
  unfold bathE at h
  split at h
  · cases h
  · rename_i h1
    split at h
    · cases h
    · rename_i h2
      split at h
      · cases h
      · refine ⟨h1, Nat.pos_of_ne_zero (fun e => h2 (.inl e)), ?_, h⟩
        cases hc : allTo (fun k => dayB nh (gE rs 0).day (gE rs k)) rs.length
        · exact absurd (.inr hc) h2
        · rfl
theorem bath_rds (h : bathE t l nh rs ag = 0) : RdsBd rs ∧ 0 ≤ (gE rs 0).day ∧ (gE rs 0).day ≤ nh - 1 := by
  obtain ⟨_, h0, h1, _⟩ := bath_0 h
  have := fun k hk => (rdOk_iff.1 (dayB_iff.1 (allTo_iff.1 h1 k hk)).1)
  exact ⟨fun k hk => (this k hk).2, (this 0 h0).1⟩
end
def codeK (q : Ki) : Nat := (q.k * 24 + q.lag * 4 + q.sq).toNat
theorem codeK_lt {t : Tb} (ht : TbBd t) {q : Ki} (h : KiIn t q) : codeK q < 504 ∧ (0 ≤ q.k ∧ q.k ≤ 20) ∧ (0 ≤ q.lag ∧ q.lag ≤ 5) ∧ 0 ≤ q.sq ∧ q.sq ≤ 3 := by
  obtain ⟨a, b, c⟩ := h
  have := ht.k; have := ht.lag; have := ht.sq
  have e : 0 ≤ q.k ∧ q.k ≤ 20 ∧ 0 ≤ q.lag ∧ q.lag ≤ 5 ∧ 0 ≤ q.sq ∧ q.sq ≤ 3 := by omega
  unfold codeK
  refine ⟨by omega, by omega, by omega, by omega⟩
theorem codeK_inj {t : Tb} (ht : TbBd t) {q q' : Ki} (h : KiIn t q) (h' : KiIn t q') (e : codeK q = codeK q') : q = q' := by
  have a := (codeK_lt ht h).2; have b := (codeK_lt ht h').2
  unfold codeK at e
  obtain ⟨k, g, s⟩ := q; obtain ⟨k', g', s'⟩ := q'
  simp only at e a b
  have : s = s' := by omega
  subst this
  have : g = g' := by omega
  subst this
  have : k = k' := by omega
  subst this
  rfl
theorem leftM_le (n : Nat) (sn : List Nat) : leftM n sn ≤ n := Nat.le_trans (List.length_filter_le ..) (by simp)
theorem few_keys {t : Tb} (ht : TbBd t) : ∀ (xs : List Ki), (∀ q ∈ xs, KiIn t q) → xs.Nodup → ∃ sn : List Nat, xs.length + leftM 504 sn ≤ 504 ∧ ∀ c, c ∈ sn ↔ c ∈ xs.map codeK
  | [], _, _ => ⟨[], by have := leftM_le 504 []; simp only [List.length_nil]; omega, fun _ => by simp⟩
  | q :: xs, hin, hnd => by
    rw [List.nodup_cons] at hnd
    obtain ⟨sn, h1, h2⟩ := few_keys ht xs (fun y hy => hin y (List.mem_cons_of_mem _ hy)) hnd.2
    have hn : codeK q ∉ sn := fun hc => by
      obtain ⟨y, hy, e⟩ := List.mem_map.1 ((h2 _).1 hc)
      exact hnd.1 (codeK_inj ht (hin y (List.mem_cons_of_mem _ hy)) (hin q (List.mem_cons_self ..)) e ▸ hy)
    have := leftM_lt (codeK_lt ht (hin q (List.mem_cons_self ..))).1 hn
    refine ⟨sn ++ [codeK q], by simp only [List.length_cons]; omega, fun c => ?_⟩
    rw [List.mem_append, h2, List.map_cons, List.mem_cons, List.mem_cons]
    simp [or_comm]
theorem map_few {t : Tb} {rs : List Rd} {L : List (Ki × Rg)} {F : Ki → Option Rg} {W : World} {m : Nat} (ht : TbBd t) (hm : MpN keyK cRg W m L F) (hF : LeftF t rs F) : L.length ≤ 504 := by
  obtain ⟨sn, h, _⟩ := few_keys ht (L.map (·.1)) (fun q hq => Classical.byContradiction fun hc => by
    obtain ⟨x, hx, rfl⟩ := List.mem_map.1 hq
    have := hm.mem.1 (show (x.1, x.2) ∈ L from hx)
    rw [(hF _).2 hc] at this; cases this) hm.2.1
  rw [List.length_map] at h
  omega
theorem losK_snoc {L : List (Ki × Rg)} {sn : List Nat} {i : Nat} (hi : i < L.length) : losK L (sn ++ [i]) = losK L sn ++ [L[i].2.lo] := by simp [losK, gK, hi]
theorem hisK_snoc {L : List (Ki × Rg)} {sn : List Nat} {i : Nat} (hi : i < L.length) : hisK L (sn ++ [i]) = hisK L sn ++ [L[i].2.hi] := by simp [hisK, gK, hi]
theorem own_nil (W : World) (b : Nat) (e : TypeId) : W.ownsRow b e 1 (.slice none 0 0) 0 [] := ⟨rfl, .inl ⟨rfl, rfl⟩⟩
structure SmR (W0 : World) (m r : Nat) (L : List (Ki × Rg)) (v1 v2 : Value) (sn : List Nat) (W : World) : Prop where
  fr : Fr (fun k => k = r) W0 W
  it : IterM W r m L.length sn
  len : sn.length + leftM L.length sn ≤ L.length
  o1 : W.ownsRow W0.heap.size 3 1 v1 (losK L sn).length ((losK L sn).map (Value.int .i64))
  o2 : W.ownsRow W0.heap.size 3 1 v2 (hisK L sn).length ((hisK L sn).map (Value.int .i64))
  ne : ∀ x, v1.ownBlock = some x → v2.ownBlock ≠ some x
def smM (n r : Nat) (_ : Act) (V : World) : Nat := match V.heap[r]? with | some (.mapIter _ _ s _) => leftM n s.toList | _ => 0
theorem smM_eq {n r b : Nat} {sn : List Nat} {V : World} {a : Act} (h : IterM V r b n sn) : smM n r a V = leftM n sn := by unfold smM; rw [h.1]
theorem len_losK {L : List (Ki × Rg)} {sn : List Nat} : (losK L sn).length = sn.length := by simp [losK]
theorem len_hisK {L : List (Ki × Rg)} {sn : List Nat} : (hisK L sn).length = sn.length := by simp [hisK]
theorem EN.drew {b : Nat} {W0 : World} {R : Nat → Prop} {u1 u2 u3 : Value} {m1 m2 m3 : List Int} {W : World} (h : EN b W0 R u1 u2 u3 m1 m2 m3 W) : EN b W0 R u1 u2 u3 m1 m2 m3 W.drew := ⟨h.fr.drew, h.o1, h.o2, h.o3, h.n12, h.n13, h.n23, h.r1, h.r2, h.r3⟩
theorem sm_least3 (A : Option Addr) (c B n : Nat) (xs : List Int) (v : Int) (w : World) (h1 : 1 ≤ n) (hl : n ≤ 1000000) (hA : SlAt w B 1 A n (fI xs)) (hv : mnTo xs n = v) :
    Calls Try.prog 22 #[.slice A n c] w fun e w' => e = .returned (.int .i64 v) ∧ Below w.heap.size w w' := by
  subst hv
  refine (sm_least A c B n xs w h1 hl hA).mono ?_
  rintro e w' ⟨rfl, rfl⟩
  exact ⟨rfl, Below.refl _ _⟩
theorem sm_greatest3 (A : Option Addr) (c B n : Nat) (xs : List Int) (v : Int) (w : World) (h1 : 1 ≤ n) (hl : n ≤ 1000000) (hA : SlAt w B 1 A n (fI xs)) (hv : mxTo xs n = v) :
    Calls Try.prog 21 #[.slice A n c] w fun e w' => e = .returned (.int .i64 v) ∧ Below w.heap.size w w' := by
  subst hv
  refine (sm_greatest A c B n xs w h1 hl hA).mono ?_
  rintro e w' ⟨rfl, rfl⟩
  exact ⟨rfl, Below.refl _ _⟩
set_option maxRecDepth 100000 in
set_option maxHeartbeats 6400000 in
theorem Same_v (t : Tb) (Ab Ad : Option Addr) (cb cd : Nat) (Ah Ai Ar : Option Addr) (ch ci cr : Nat) (h : List Rg) (l : List Ic) (rs : List Rd) (w : World) (hg : GlIn w w.heap.size t.g Ab Ad) (hh : SlAt w w.heap.size 2 Ah h.length (fR h)) (hi : SlAt w w.heap.size 3 Ai l.length (fC l)) (hs : SlAt w w.heap.size 10 Ar rs.length (fE rs)) (hhl : h.length ≤ 1000000) (hrl : rs.length ≤ 1000000) :
    Calls Try.prog 12 #[.agg #[.int .i64 t.g.base, .slice Ab t.g.bands.length cb, .slice Ad t.g.depths.length cd, .int .i64 t.g.blo, .int .i64 t.g.bhi, .int .i64 t.k.lo, .int .i64 t.k.hi, .int .i64 t.lag.lo, .int .i64 t.lag.hi, .int .i64 t.sq.lo, .int .i64 t.sq.hi, .int .i64 t.term], .slice Ah h.length ch, .slice Ai l.length ci, .slice Ar rs.length cr] w fun e w' => (∃ R ev, e = .returned (.tuple #[.agg #[.int .i64 (R : Rg).lo, .int .i64 R.hi], .int .i64 ev]) ∧ Hid (SamV t h l rs R ev)) ∧ Below w.heap.size w w' := by
  by_cases hu : useE t h l = 0
  rotate_left
  · have HR : Hid (SamV t h l rs ⟨0, 0⟩ (useE t h l)) := Lib.hid (.inl ⟨hu, rfl, rfl⟩)
    have HU := Lib.hid hu
    have e1 : (useE t h l == 0) = false := by simpa using hu
    have e2 : (useE t h l != 0) = true := by simp [hu]
    clear hu
    go_enter Try.func12, Try.ntmps12
    go_upto_region 1 with fail
    show Code.wp _ _ _ _ _
    refine box2 (K := fun V => Code.wp _ _ _ _ V) ?_
    intro V hb1 q1 q3
    replace hg := hg.go hb1
    replace hh := (hh.below hb1).up hb1.size
    replace hi := (hi.below hb1).up hb1.size
    replace hs := (hs.below hb1).up hb1.size
    obtain ⟨pq1, hpq1⟩ : ∃ p, w.heap.size = p := ⟨_, rfl⟩
    obtain ⟨pq3, hpq3⟩ : ∃ p, w.heap.size + 1 = p := ⟨_, rfl⟩
    rw [hpq3] at q3 ⊢
    rw [hpq1] at q1 ⊢
    have hp1 : w.heap.size ≤ pq1 := by omega
    have hp3 : w.heap.size ≤ pq3 := by omega
    clear hpq1 hpq3
    go_wp2_with (refine pause_at 19 rfl ?_)
    refine Paused.mk ?_
    refine wpList_load_row rfl 32 _ rfl _ rfl 32 _ (0, 0) _ (q1) Try.underlying32 rfl (by kernel_rfl) ?_
    go_wp2_with fail
    refine (sm_use_bad t _ _ _ _ _ _ _ _ h l _ hg hh hi HU.out).mono ?_
    rintro e V1 ⟨rfl, hV1⟩
    replace q1 := q1.below hV1 q1.lt
    replace q3 := q3.below hV1 q3.lt
    replace hg := hg.go hV1
    replace hh := (hh.below hV1).up hV1.size
    replace hi := (hi.below hV1).up hV1.size
    replace hs := (hs.below hV1).up hV1.size
    have B_V1 := ex_trans hb1 hV1
    have NA := ex_alloc (Below.refl V1.heap.size V1) (.cells #[.int .i64 0, .slice none 0 0, .slice none 0 0, .int .i64 0, .int .i64 0, .int .i64 0, .int .i64 0, .int .i64 0, .int .i64 0, .int .i64 0, .int .i64 0, .int .i64 0, .slice none 0 0, .slice none 0 0, .slice none 0 0] 56)
    have q4 : Blk (V1.alloc (.cells #[.int .i64 0, .slice none 0 0, .slice none 0 0, .int .i64 0, .int .i64 0, .int .i64 0, .int .i64 0, .int .i64 0, .int .i64 0, .int .i64 0, .int .i64 0, .int .i64 0, .slice none 0 0, .slice none 0 0, .slice none 0 0] 56)) V1.heap.size 56 #[.int .i64 0, .slice none 0 0, .slice none 0 0, .int .i64 0, .int .i64 0, .int .i64 0, .int .i64 0, .int .i64 0, .int .i64 0, .int .i64 0, .int .i64 0, .int .i64 0, .slice none 0 0, .slice none 0 0, .slice none 0 0] := Blk.new _ _ _
    obtain ⟨p4, hp4'⟩ : ∃ p, V1.heap.size = p := ⟨_, rfl⟩
    rw [hp4'] at q4
    go_wp2_with (refine pause_store 56 rfl ?_)
    refine Paused.mk ?_
    refine wpList_store_row rfl 56 _ _ rfl _ #[.int .i64 0, .slice none 0 0, .slice none 0 0, .int .i64 0, .int .i64 0, .int .i64 0, .int .i64 0, .int .i64 0, .int .i64 0, .int .i64 0, .int .i64 0, .int .i64 0, .slice none 0 0, .slice none 0 0, .slice none 0 0] (by kernel_rfl) (by kernel_rfl) 56 _ q4 (by kernel_rfl) (by kernel_rfl) (by kernel_rfl) ?_
    replace q4 := q4.setRow #[.int .i64 0, .slice none 0 0, .slice none 0 0, .int .i64 0, .int .i64 0, .int .i64 0, .int .i64 0, .int .i64 0, .int .i64 0, .int .i64 0, .int .i64 0, .int .i64 0, .slice none 0 0, .slice none 0 0, .slice none 0 0]
    have XZ : Below V1.heap.size V1 ((V1.alloc (.cells #[.int .i64 0, .slice none 0 0, .slice none 0 0, .int .i64 0, .int .i64 0, .int .i64 0, .int .i64 0, .int .i64 0, .int .i64 0, .int .i64 0, .int .i64 0, .int .i64 0, .slice none 0 0, .slice none 0 0, .slice none 0 0] 56)).setRow p4 #[.int .i64 0, .slice none 0 0, .slice none 0 0, .int .i64 0, .int .i64 0, .int .i64 0, .int .i64 0, .int .i64 0, .int .i64 0, .int .i64 0, .int .i64 0, .int .i64 0, .slice none 0 0, .slice none 0 0, .slice none 0 0]) := ex_row NA (Nat.le_of_eq hp4') #[.int .i64 0, .slice none 0 0, .slice none 0 0, .int .i64 0, .int .i64 0, .int .i64 0, .int .i64 0, .int .i64 0, .int .i64 0, .int .i64 0, .int .i64 0, .int .i64 0, .slice none 0 0, .slice none 0 0, .slice none 0 0]
    have hp4 : w.heap.size ≤ p4 := by have := B_V1.size; omega
    clear NA hp4'
    replace q1 := q1.below XZ q1.lt
    replace q3 := q3.below XZ q3.lt
    replace hg := hg.go XZ
    replace hh := (hh.below XZ).up XZ.size
    replace hi := (hi.below XZ).up XZ.size
    replace hs := (hs.below XZ).up XZ.size
    have B_V2 := ex_trans B_V1 XZ
    clear XZ
    generalize (V1.alloc (.cells #[.int .i64 0, .slice none 0 0, .slice none 0 0, .int .i64 0, .int .i64 0, .int .i64 0, .int .i64 0, .int .i64 0, .int .i64 0, .int .i64 0, .int .i64 0, .int .i64 0, .slice none 0 0, .slice none 0 0, .slice none 0 0] 56)).setRow p4 #[.int .i64 0, .slice none 0 0, .slice none 0 0, .int .i64 0, .int .i64 0, .int .i64 0, .int .i64 0, .int .i64 0, .int .i64 0, .int .i64 0, .int .i64 0, .int .i64 0, .slice none 0 0, .slice none 0 0, .slice none 0 0] = V2 at *
    have r0 := q3.cell 0
    have r1 := q3.cell 1
    have fr := q3.frozen0
    have lr := q3.lt
    simp at r0 r1
    have m3 := (q3.set_ 0 (.int .i64 (0))).set_ 1 (.int .i64 (0))
    simp only [List.setIfInBounds_toArray, List.set_cons_zero, List.set_cons_succ] at m3
    go_wp2
    refine bodyPost_ret (results_ct_row rfl _ _ _ 23 #[.int .i64 (0), .int .i64 (0)] (0, 0) _ rfl m3 rfl rfl rfl) rfl ?_
    exact ⟨⟨⟨0, 0⟩, _, rfl, HR⟩, ex_set (p := ⟨pq3, 1, none⟩) (ex_set (p := ⟨pq3, 0, none⟩) B_V2 hp3 _) hp3 _⟩
  · have HU := Lib.hid hu
    have HO := Lib.hid (ok_of_iced (useE_0 hu).2)
    have HT := Lib.hid (ck_bd (useE_0 hu).1)
    have h8 := iced_len (useE_0 hu).2
    have hp0 := HO.out.nh.1
    have hp0 := HO.out.nh.1
    clear hu
    go_enter Try.func12, Try.ntmps12
    go_upto_region 1 with fail
    show Code.wp _ _ _ _ _
    refine box2 (K := fun V => Code.wp _ _ _ _ V) ?_
    intro V hb1 q1 q3
    replace hg := hg.go hb1
    replace hh := (hh.below hb1).up hb1.size
    replace hi := (hi.below hb1).up hb1.size
    replace hs := (hs.below hb1).up hb1.size
    obtain ⟨pq1, hpq1⟩ : ∃ p, w.heap.size = p := ⟨_, rfl⟩
    obtain ⟨pq3, hpq3⟩ : ∃ p, w.heap.size + 1 = p := ⟨_, rfl⟩
    rw [hpq3] at q3 ⊢
    rw [hpq1] at q1 ⊢
    have hp1 : w.heap.size ≤ pq1 := by omega
    have hp3 : w.heap.size ≤ pq3 := by omega
    clear hpq1 hpq3
    go_wp2_with (refine pause_at 19 rfl ?_)
    refine Paused.mk ?_
    refine wpList_load_row rfl 32 _ rfl _ rfl 32 _ (0, 0) _ (q1) Try.underlying32 rfl (by kernel_rfl) ?_
    go_wp2_with fail
    refine (sm_use_ok t _ _ _ _ _ _ _ _ h l _ hg hh hi HU.out).mono ?_
    rintro e V3 ⟨⟨Az, nz, zs, rfl, hz, hyo, hsz⟩, hV3⟩
    replace q1 := q1.below hV3 q1.lt
    replace q3 := q3.below hV3 q3.lt
    replace hg := hg.go hV3
    replace hh := (hh.below hV3).up hV3.size
    replace hi := (hi.below hV3).up hV3.size
    replace hs := (hs.below hV3).up hV3.size
    have B_V3 := ex_trans hb1 hV3
    have NA := ex_alloc (Below.refl V3.heap.size V3) (.cells #[.int .i64 0, .slice none 0 0, .slice none 0 0, .int .i64 0, .int .i64 0, .int .i64 0, .int .i64 0, .int .i64 0, .int .i64 0, .int .i64 0, .int .i64 0, .int .i64 0, .slice none 0 0, .slice none 0 0, .slice none 0 0] 56)
    have q4 : Blk (V3.alloc (.cells #[.int .i64 0, .slice none 0 0, .slice none 0 0, .int .i64 0, .int .i64 0, .int .i64 0, .int .i64 0, .int .i64 0, .int .i64 0, .int .i64 0, .int .i64 0, .int .i64 0, .slice none 0 0, .slice none 0 0, .slice none 0 0] 56)) V3.heap.size 56 #[.int .i64 0, .slice none 0 0, .slice none 0 0, .int .i64 0, .int .i64 0, .int .i64 0, .int .i64 0, .int .i64 0, .int .i64 0, .int .i64 0, .int .i64 0, .int .i64 0, .slice none 0 0, .slice none 0 0, .slice none 0 0] := Blk.new _ _ _
    obtain ⟨p4, hp4'⟩ : ∃ p, V3.heap.size = p := ⟨_, rfl⟩
    rw [hp4'] at q4
    go_wp2_with (refine pause_store 56 rfl ?_)
    refine Paused.mk ?_
    refine wpList_store_row rfl 56 _ _ rfl _ #[.int .i64 t.g.base, .slice Ab t.g.bands.length cb, .slice Ad t.g.depths.length cd, .int .i64 t.g.blo, .int .i64 t.g.bhi, .int .i64 t.k.lo, .int .i64 t.k.hi, .int .i64 t.lag.lo, .int .i64 t.lag.hi, .int .i64 t.sq.lo, .int .i64 t.sq.hi, .int .i64 t.term, .slice Ah h.length ch, .slice Ai l.length ci, .slice Az nz nz] (by kernel_rfl) (by kernel_rfl) 56 _ q4 (by kernel_rfl) (by kernel_rfl) (by kernel_rfl) ?_
    replace q4 := q4.setRow #[.int .i64 t.g.base, .slice Ab t.g.bands.length cb, .slice Ad t.g.depths.length cd, .int .i64 t.g.blo, .int .i64 t.g.bhi, .int .i64 t.k.lo, .int .i64 t.k.hi, .int .i64 t.lag.lo, .int .i64 t.lag.hi, .int .i64 t.sq.lo, .int .i64 t.sq.hi, .int .i64 t.term, .slice Ah h.length ch, .slice Ai l.length ci, .slice Az nz nz]
    have XZ : Below V3.heap.size V3 ((V3.alloc (.cells #[.int .i64 0, .slice none 0 0, .slice none 0 0, .int .i64 0, .int .i64 0, .int .i64 0, .int .i64 0, .int .i64 0, .int .i64 0, .int .i64 0, .int .i64 0, .int .i64 0, .slice none 0 0, .slice none 0 0, .slice none 0 0] 56)).setRow p4 #[.int .i64 t.g.base, .slice Ab t.g.bands.length cb, .slice Ad t.g.depths.length cd, .int .i64 t.g.blo, .int .i64 t.g.bhi, .int .i64 t.k.lo, .int .i64 t.k.hi, .int .i64 t.lag.lo, .int .i64 t.lag.hi, .int .i64 t.sq.lo, .int .i64 t.sq.hi, .int .i64 t.term, .slice Ah h.length ch, .slice Ai l.length ci, .slice Az nz nz]) := ex_row NA (Nat.le_of_eq hp4') #[.int .i64 t.g.base, .slice Ab t.g.bands.length cb, .slice Ad t.g.depths.length cd, .int .i64 t.g.blo, .int .i64 t.g.bhi, .int .i64 t.k.lo, .int .i64 t.k.hi, .int .i64 t.lag.lo, .int .i64 t.lag.hi, .int .i64 t.sq.lo, .int .i64 t.sq.hi, .int .i64 t.term, .slice Ah h.length ch, .slice Ai l.length ci, .slice Az nz nz]
    have hp4 : w.heap.size ≤ p4 := by have := B_V3.size; omega
    clear NA hp4'
    replace q1 := q1.below XZ q1.lt
    replace q3 := q3.below XZ q3.lt
    replace hg := hg.go XZ
    replace hh := (hh.below XZ).up XZ.size
    replace hi := (hi.below XZ).up XZ.size
    replace hs := (hs.below XZ).up XZ.size
    replace hsz := (hsz.below XZ).up XZ.size
    have B_V4 := ex_trans B_V3 XZ
    clear XZ
    generalize (V3.alloc (.cells #[.int .i64 0, .slice none 0 0, .slice none 0 0, .int .i64 0, .int .i64 0, .int .i64 0, .int .i64 0, .int .i64 0, .int .i64 0, .int .i64 0, .int .i64 0, .int .i64 0, .slice none 0 0, .slice none 0 0, .slice none 0 0] 56)).setRow p4 #[.int .i64 t.g.base, .slice Ab t.g.bands.length cb, .slice Ad t.g.depths.length cd, .int .i64 t.g.blo, .int .i64 t.g.bhi, .int .i64 t.k.lo, .int .i64 t.k.hi, .int .i64 t.lag.lo, .int .i64 t.lag.hi, .int .i64 t.sq.lo, .int .i64 t.sq.hi, .int .i64 t.term, .slice Ah h.length ch, .slice Ai l.length ci, .slice Az nz nz] = V4 at *
    have hnz := use_le hz.out
    go_wp2_with (refine pause_at 27 rfl ?_)
    refine Paused.mk ?_
    refine wpList_load_row rfl 56 _ rfl _ rfl 56 _ (0, 0) _ (q4) Try.underlying56 rfl (by kernel_rfl) ?_
    go_wp2_with fail
    refine (sm_bath t Ab Ad Ah Ai Az cb cd ch ci nz nz h l rs Ar cr _ hi hs (by omega) hhl (by omega) hrl).mono ?_
    rintro e V5 ⟨rfl, hV5⟩
    replace q1 := q1.below hV5 q1.lt
    replace q3 := q3.below hV5 q3.lt
    replace hg := hg.go hV5
    replace hh := (hh.below hV5).up hV5.size
    replace hi := (hi.below hV5).up hV5.size
    replace hs := (hs.below hV5).up hV5.size
    replace hsz := (hsz.below hV5).up hV5.size
    replace q4 := q4.below hV5 q4.lt
    have B_V5 := ex_trans B_V4 hV5
    have HG := Lib.hid (use_ag hz.out hp0)
    rw [HG.out]
    by_cases hb : bathE t l h.length rs (agreeB t.g h l off0) = 0
    rotate_left
    · have HR : Hid (SamV t h l rs ⟨0, 0⟩ (bathE t l h.length rs (agreeB t.g h l off0))) := Lib.hid (.inr (.inl ⟨HU.out, hb, rfl, rfl⟩))
      obtain ⟨E, hE⟩ : ∃ E, bathE t l h.length rs (agreeB t.g h l off0) = E := ⟨_, rfl⟩
      rw [hE] at hb HR ⊢
      have e1 : (E != 0) = true := by simp [hb]
      clear hE hb
      have r0 := q3.cell 0
      have r1 := q3.cell 1
      have fr := q3.frozen0
      have lr := q3.lt
      simp at r0 r1
      have m3 := (q3.set_ 0 (.int .i64 (0))).set_ 1 (.int .i64 (0))
      simp only [List.setIfInBounds_toArray, List.set_cons_zero, List.set_cons_succ] at m3
      go_wp2
      refine bodyPost_ret (results_ct_row rfl _ _ _ 23 #[.int .i64 (0), .int .i64 (0)] (0, 0) _ rfl m3 rfl rfl rfl) rfl ?_
      exact ⟨⟨⟨0, 0⟩, _, rfl, HR⟩, ex_set (p := ⟨pq3, 1, none⟩) (ex_set (p := ⟨pq3, 0, none⟩) B_V5 hp3 _) hp3 _⟩
    · obtain ⟨_, h0, _, hrf⟩ := bath_0 hb
      obtain ⟨hRb, hd⟩ := bath_rds hb
      have HB := Lib.hid hb
      have HAG := Lib.hid (ref_ag hrf)
      have HZ : Hid (nz = h.length ∧ ZsOf t.g h l zs) := Lib.hid (by
        rcases hz.out with ⟨a, _⟩ | ⟨_, b, c⟩
        · rw [HAG.out] at a; cases a
        · exact ⟨b, c⟩)
      have HRB := Lib.hid hRb
      obtain ⟨k, hk, hkl⟩ : ∃ k : Nat, (gE rs 0).day = (k : Int) ∧ k < nz := ⟨(gE rs 0).day.toNat, by omega, by have := HZ.out.1; omega⟩
      have HK := Lib.hid hk
      rw [hb]
      clear hb hk hrf hRb hd
      go_wp2_with (refine pause_at 34 rfl ?_)
      refine Paused.mk ?_
      refine wpList_load_row rfl 56 _ rfl _ rfl 56 _ (0, 0) _ (q4) Try.underlying56 rfl (by kernel_rfl) ?_
      go_wp2_with fail
      refine (sm_left t Ab Ad Ah Ai Az cb cd ch ci nz nz h l rs Ar cr _ hs HT.out HRB.out h0 hrl).mono ?_
      rintro e V6 ⟨⟨m, L, F, rfl, hm, hF⟩, hV6⟩
      replace q1 := q1.below hV6 q1.lt
      replace q3 := q3.below hV6 q3.lt
      replace hg := hg.go hV6
      replace hh := (hh.below hV6).up hV6.size
      replace hi := (hi.below hV6).up hV6.size
      replace hs := (hs.below hV6).up hV6.size
      replace hsz := (hsz.below hV6).up hV6.size
      replace q4 := q4.below hV6 q4.lt
      have B_V6 := ex_trans B_V5 hV6
      obtain ⟨zb, zo, hAz, hzb, z0, z1⟩ := IsRgs.at_ hsz hkl
      have HAZ := Lib.hid hAz
      clear hAz
      obtain ⟨bi, oi, hAr, hbi, g0, _, _, _, _, _, _, _, _, _⟩ := IsRds.at10 hs h0
      rw [Nat.zero_mul, Nat.add_zero] at g0
      have HAR := Lib.hid hAr
      clear hAr
      have hL5 := map_few HT.out hm hF.out
      have hrg := run_range_mp Try.underlying77 hm.1
      go_wp2_with fail
      have NA := ex_alloc (Below.refl V6.heap.size V6) (.mapIter (some m) L.length #[] L.length)
      have hit := IterM.new V6 m L.length (r := V6.heap.size) rfl
      have hmr : m < V6.heap.size := hm.1.lt
      obtain ⟨r, hr⟩ : ∃ p, V6.heap.size = p := ⟨_, rfl⟩
      have hrw : w.heap.size ≤ r := by have := B_V6.size; omega
      have hr3 : pq3 < r := by have := q3.lt; omega
      have hr4 : p4 < r := by have := q4.lt; omega
      have hrs : r < (V6.alloc (.mapIter (some m) L.length #[] L.length)).heap.size := by simp [hr]
      have z0 := (World.cell?_of_block (NA.block zb hzb)).trans z0
      have z1 := (World.cell?_of_block (NA.block zb hzb)).trans z1
      have g0 := (World.cell?_of_block (NA.block bi hbi)).trans g0
      rw [hr] at hit ⊢ hmr hzb hbi
      have hm0 : MpN keyK cRg (V6.alloc (.mapIter (some m) L.length #[] L.length)) m L F := hm.go NA
      clear hrg
      replace q1 := q1.below NA q1.lt
      replace q3 := q3.below NA q3.lt
      replace hs := hs.go NA
      replace hsz := hsz.go NA
      replace q4 := q4.below NA q4.lt
      have HB0 := ex_trans B_V6 NA
      clear NA hr hm
      generalize V6.alloc (.mapIter (some m) L.length #[] L.length) = V7 at *
      refine wp_loop (fun a V => Rel (fun a V => ∃ sn v1 v2, SmR V7 m r L v1 v2 sn V ∧ ∃ u : Nat → Value, a = ⟨List.toArray (.agg #[.int .i64 t.g.base, .slice Ab t.g.bands.length cb, .slice Ad t.g.depths.length cd, .int .i64 t.g.blo, .int .i64 t.g.bhi, .int .i64 t.k.lo, .int .i64 t.k.hi, .int .i64 t.lag.lo, .int .i64 t.lag.hi, .int .i64 t.sq.lo, .int .i64 t.sq.hi, .int .i64 t.term] :: .slice Ah h.length ch :: .slice Ai l.length ci :: .slice Ar rs.length cr :: .pointer (some ⟨pq1, 0, none⟩) :: u 5 :: u 6 :: u 7 :: .pointer (some ⟨pq3, 0, none⟩) :: u 9 :: .pointer (some ⟨p4, 0, none⟩) :: u 11 :: v1 :: v2 :: u 14 :: u 15 :: u 16 :: u 17 :: u 18 :: u 19 :: u 20 :: u 21 :: u 22 :: u 23 :: u 24 :: u 25 :: u 26 :: u 27 :: u 28 :: u 29 :: u 30 :: u 31 :: u 32 :: u 33 :: u 34 :: u 35 :: u 36 :: .pointer (some ⟨r, 0, none⟩) :: u 38 :: u 39 :: u 40 :: u 41 :: u 42 :: u 43 :: u 44 :: u 45 :: u 46 :: u 47 :: u 48 :: u 49 :: u 50 :: u 51 :: u 52 :: u 53 :: u 54 :: u 55 :: u 56 :: u 57 :: u 58 :: u 59 :: u 60 :: u 61 :: u 62 :: u 63 :: u 64 :: u 65 :: u 66 :: u 67 :: u 68 :: u 69 :: u 70 :: u 71 :: u 72 :: u 73 :: u 74 :: u 75 :: []), []⟩) a V)
        (fun a V => smM L.length r a V) ⟨⟨[], .slice none 0 0, .slice none 0 0, ⟨Fr.refl _ _, hit, by have := leftM_le L.length []; simp only [List.length_nil]; omega, own_nil _ _ _, own_nil _ _ _, fun x e => by simp [Value.ownBlock] at e⟩, exFrame (by kernel_rfl)⟩⟩ ?_
      clear hit
      rintro a V ⟨⟨sn, v1, v2, T, u, rfl⟩⟩
      have HM0 := Lib.hid (smM_eq (a := (⟨List.toArray (.agg #[.int .i64 t.g.base, .slice Ab t.g.bands.length cb, .slice Ad t.g.depths.length cd, .int .i64 t.g.blo, .int .i64 t.g.bhi, .int .i64 t.k.lo, .int .i64 t.k.hi, .int .i64 t.lag.lo, .int .i64 t.lag.hi, .int .i64 t.sq.lo, .int .i64 t.sq.hi, .int .i64 t.term] :: .slice Ah h.length ch :: .slice Ai l.length ci :: .slice Ar rs.length cr :: .pointer (some ⟨pq1, 0, none⟩) :: u 5 :: u 6 :: u 7 :: .pointer (some ⟨pq3, 0, none⟩) :: u 9 :: .pointer (some ⟨p4, 0, none⟩) :: u 11 :: v1 :: v2 :: u 14 :: u 15 :: u 16 :: u 17 :: u 18 :: u 19 :: u 20 :: u 21 :: u 22 :: u 23 :: u 24 :: u 25 :: u 26 :: u 27 :: u 28 :: u 29 :: u 30 :: u 31 :: u 32 :: u 33 :: u 34 :: u 35 :: u 36 :: .pointer (some ⟨r, 0, none⟩) :: u 38 :: u 39 :: u 40 :: u 41 :: u 42 :: u 43 :: u 44 :: u 45 :: u 46 :: u 47 :: u 48 :: u 49 :: u 50 :: u 51 :: u 52 :: u 53 :: u 54 :: u 55 :: u 56 :: u 57 :: u 58 :: u 59 :: u 60 :: u 61 :: u 62 :: u 63 :: u 64 :: u 65 :: u 66 :: u 67 :: u 68 :: u 69 :: u 70 :: u 71 :: u 72 :: u 73 :: u 74 :: u 75 :: []), []⟩ : Act)) T.it)
      have hmV : MpN keyK cRg V m L F := hm0.of_block (T.fr.block m hm0.1.lt (by omega))
      rcases next_mp hmV.1 T.it 0 with ⟨hall, hrun⟩ | ⟨i, hiL, hni, W2, hit2, hg2, hsz2, hrun, hent⟩
      rotate_left
      · have hlL := leftM_lt hiL hni
        have hF2 : Fr (fun k => k = r) V W2 := Fr.grown hg2 (fun b e => .inl (by injection e with e; exact e.symm))
        have hl1 := T.len
        unfold keyK cRg at hrun hent
        try simp only at hrun hent
        obtain ⟨⟨xl, xh⟩, hX⟩ : ∃ R, L[i].2 = R := ⟨_, rfl⟩
        rw [hX] at hrun hent
        have HX := Lib.hid hX
        clear hX
        try dsimp only at hrun hent
        obtain ⟨q0, hq0⟩ : ∃ q, L[i].1 = q := ⟨_, rfl⟩
        rw [hq0] at hrun hent
        clear hq0
        have hF3 := T.fr.trans hF2 (fun _ _ e => e)
        have hr2 : r < W2.heap.size := hit2.lt
        have k1 := own_fr T.o1 hF2 (fun b e => by rintro rfl; have := own_lt T.o1 e; omega)
        have k2 := own_fr T.o2 hF2 (fun b e => by rintro rfl; have := own_lt T.o2 e; omega)
        have hne := T.ne
        have hfs := hF3.size
        have HT1 := Lib.hid T
        clear T hsz2
        have qx : Blk (W2.alloc (.cells #[.int .i64 xl, .int .i64 xh] 23)) W2.heap.size 23 #[.int .i64 xl, .int .i64 xh] := Blk.new _ _ _
        have NX := ex_alloc (Below.refl W2.heap.size W2) (.cells #[.int .i64 xl, .int .i64 xh] 23)
        go_wp2_with fail
        obtain ⟨px, hpx⟩ : ∃ p, W2.heap.size = p := ⟨_, rfl⟩
        have l1 := own_below k1 NX
        have l2 := own_below k2 NX
        have it2 := hit2.of_block (NX.block r hr2)
        have hF4 : Fr (fun k => k = r) V7 (W2.alloc (.cells #[.int .i64 xl, .int .i64 xh] 23)) := hF3.trans (Fr.below (R := fun _ => False) NX) (fun _ _ e => e.elim)
        have hx1 : ∀ b, v1.ownBlock = some b → b < W2.heap.size := fun b e => (own_lt k1 e).2
        have hx2 : ∀ b, v2.ownBlock = some b → b < W2.heap.size := fun b e => (own_lt k2 e).2
        rw [hpx] at qx NX hx1 hx2 hr2 hfs ⊢
        clear NX hF3 hF2 hg2 hrun hent k1 k2 hit2 hpx
        generalize W2.alloc (.cells #[.int .i64 xl, .int .i64 xh] 23) = V2 at *
        obtain ⟨R, hR⟩ : ∃ R : Nat → Prop, R = fun y => v1.ownBlock = some y ∨ v2.ownBlock = some y := ⟨_, rfl⟩
        have EN0 : EN V7.heap.size V2 R v1 v2 (.slice none 0 0) (losK L sn) (hisK L sn) [] V2 := ⟨Fr.refl _ _, l1, l2, own_nil _ _ _, hne, fun _ _ e => by simp [Value.ownBlock] at e, fun _ _ e => by simp [Value.ownBlock] at e, fun x e => by rw [hR]; exact .inl (.inl e), fun x e => by rw [hR]; exact .inl (.inr e), fun _ e => by simp [Value.ownBlock] at e⟩
        have hRx : ¬ R px := fun e => by rw [hR] at e; rcases e with e | e; exact Nat.lt_irrefl _ (hx1 _ e); exact Nat.lt_irrefl _ (hx2 _ e)
        have hRr : ¬ R r := fun e => by rw [hR] at e; rcases e with e | e; have := own_lt l1 e; omega; have := own_lt l2 e; omega
        have hRW : ∀ y, R y → V7.heap.size ≤ y := fun y e => by rw [hR] at e; rcases e with e | e; exact (own_lt l1 e).1; exact (own_lt l2 e).1
        have z1 : ∀ b, v1.ownBlock = some b → b < V2.heap.size := fun b e => (own_lt l1 e).2
        have z2 : ∀ b, v2.ownBlock = some b → b < V2.heap.size := fun b e => (own_lt l2 e).2
        clear hR l1 l2 hx1 hx2 hne
        have x0 : V2.cell? ⟨px, 0, none⟩ = some (.int .i64 xl) := qx.cell 0
        have x1 : V2.cell? ⟨px, 1, none⟩ = some (.int .i64 xh) := qx.cell 1
        have lx := qx.lt
        have HI : ∃ i0, Try.prog.info? 3 = some i0 ∧ i0.zero = some (.int .i64 0) ∧ i0.size = 1 ∧ i0.bytes = 8 := ⟨_, rfl, rfl, rfl, rfl⟩
        obtain ⟨i0, HI, hz0', hz1', hz2'⟩ := HI
        have HI := Lib.hid HI
        have hlo := len_losK (L := L) (sn := sn)
        have hhi := len_hisK (L := L) (sn := sn)
        obtain ⟨N1, hN1⟩ : ∃ N, (losK L sn).length = N := ⟨_, rfl⟩
        obtain ⟨N2, hN2⟩ : ∃ N, (hisK L sn).length = N := ⟨_, rfl⟩
        have HN1 := Lib.hid hN1
        have HN2 := Lib.hid hN2
        have b1 : N1 ≤ 504 := by omega
        have b2 : N2 ≤ 504 := by omega
        have HLEN : Hid ((losK L sn).length + 1 ≤ 600 ∧ (hisK L sn).length + 1 ≤ 600) := Lib.hid (by omega)
        clear hlo hhi hN1 hN2
        refine wp_region_fx_tq R 11 (.quiet 0 (.quiet 1 (.quiet 2 (.quiet 5 (.quiet 6 (.quiet 7 (.fork 3 (.fork 4 (.loud 8 (.loud 9 (.quiet 10 .done))) 8 (.loud 4 (.loud 9 (.quiet 10 .done)))) 8 (.loud 3 (.loud 4 (.loud 9 (.quiet 10 .done))))))))))) (by kernel_rfl) (by kernel_rfl) (by intro d _ _ _ _ h; cases d <;> exact h) ?_
        repeat (refine tq_quiet rfl ?_; go_big_quiet_step (fail); refine wpQuiet_nil ?_)
        have hV0 : V2.heap.size = V2.drew.heap.size := rfl
        have EN1 : EN V7.heap.size V2 R v1 v2 (.slice none 0 0) (losK L sn) (hisK L sn) [] V2.drew := EN0.drew
        generalize V2.drew = D at *
        clear x0 x1
        refine tq_fork rfl rfl ?_ ?_
        · have E1 := EN1.alloc (.cells #[.int .i64 xl] 3)
          have q1_0 : Blk (D.alloc (.cells #[.int .i64 xl] 3)) D.heap.size 3 #[.int .i64 xl] := Blk.new _ _ _
          have g1 : V2.heap.size ≤ D.heap.size := EN1.fr.size
          go_wp2_with fail
          refine ⟨inFx E1.fr, ?_⟩
          generalize D.alloc (.cells #[.int .i64 xl] 3) = D1 at *
          repeat (refine tq_quiet rfl ?_; go_big_quiet_step (fail); refine wpQuiet_nil ?_)
          refine tq_fork rfl rfl ?_ ?_
          · go_wp2_with (at_builtin; refine wpList_append_lies _ rfl _ _ _ rfl V7.heap.size 3 i0 _ 1 8 Try.underlying76 HI.out hz0' hz1' hz2' rfl (by omega) v1 _ _ rfl E1.o1 ⟨D.heap.size, 0, none⟩ 1 1 [.int .i64 xl] rfl rfl (World.news_of_block q1_0) (by simp [Value.oneCell']) (by omega) (by have := HLEN.out; unfold maxLen; omega) (by have := HLEN.out; omega) (by have := E1.fr.size; omega) D1.heap.size rfl ?_; intro gg2 cap2 D2 ho2 hg2 hat2 _)
            have E2 := E1.app1 hg2 ho2 (hat2.imp id (fun e => by omega))
            refine ⟨inFx E2.fr, ?_⟩
            repeat (refine tq_quiet rfl ?_; go_big_quiet_step (fail); refine wpQuiet_nil ?_)
            refine tq_loud rfl ?_
            have E3 := E2.alloc (.cells #[.int .i64 xh] 3)
            have q3_1 : Blk (D2.alloc (.cells #[.int .i64 xh] 3)) D2.heap.size 3 #[.int .i64 xh] := Blk.new _ _ _
            have g3 : V2.heap.size ≤ D2.heap.size := E2.fr.size
            go_wp2_with fail
            refine ⟨inFx E3.fr, ?_⟩
            generalize D2.alloc (.cells #[.int .i64 xh] 3) = D3 at *
            repeat (refine tq_quiet rfl ?_; go_big_quiet_step (fail); refine wpQuiet_nil ?_)
            refine tq_loud rfl ?_
            go_wp2_with (at_builtin; refine wpList_append_lies _ rfl _ _ _ rfl V7.heap.size 3 i0 _ 1 8 Try.underlying76 HI.out hz0' hz1' hz2' rfl (by omega) v2 _ _ rfl E3.o2 ⟨D2.heap.size, 0, none⟩ 1 1 [.int .i64 xh] rfl rfl (World.news_of_block q3_1) (by simp [Value.oneCell']) (by omega) (by have := HLEN.out; unfold maxLen; omega) (by have := HLEN.out; omega) (by have := E3.fr.size; omega) D3.heap.size rfl ?_; intro gg4 cap4 D4 ho4 hg4 hat4 _)
            have E4 := E3.app2 hg4 ho4 (hat4.imp id (fun e => by omega))
            refine ⟨inFx E4.fr, ?_⟩
            repeat (refine tq_quiet rfl ?_; go_big_quiet_step (fail); refine wpQuiet_nil ?_)
            refine tq_done (r := [_]) rfl ?_
            go_wp2_with fail
            have hF9 := hF4.trans (Fr.trans (R := R) (R' := R) (Fr.refl _ _) E4.fr (fun _ _ e => e)) (fun z hz e => absurd (hRW z e) (by omega))
            refine ⟨⟨sn ++ [i], _, _, ⟨hF9, it2.of_block (E4.fr.block r (by omega) hRr), by rw [List.length_append, List.length_singleton]; omega, by rw [losK_snoc hiL, HX.out]; exact E4.o1, by rw [hisK_snoc hiL, HX.out]; exact E4.o2, E4.n12⟩, exFrame (by kernel_rfl)⟩, ?_⟩
            rw [HM0.out, smM_eq (sn := sn ++ [i]) (it2.of_block (E4.fr.block r (by omega) hRr))]
            exact hlL
          · have E5 := E1.alloc (.cells #[.int .i64 xh] 3)
            have q5_0 := q1_0.alloc (.cells #[.int .i64 xh] 3)
            have q5_1 : Blk (D1.alloc (.cells #[.int .i64 xh] 3)) D1.heap.size 3 #[.int .i64 xh] := Blk.new _ _ _
            have g5 : V2.heap.size ≤ D1.heap.size := E1.fr.size
            go_wp2_with fail
            refine ⟨inFx E5.fr, ?_⟩
            generalize D1.alloc (.cells #[.int .i64 xh] 3) = D5 at *
            repeat (refine tq_quiet rfl ?_; go_big_quiet_step (fail); refine wpQuiet_nil ?_)
            refine tq_loud rfl ?_
            go_wp2_with (at_builtin; refine wpList_append_lies _ rfl _ _ _ rfl V7.heap.size 3 i0 _ 1 8 Try.underlying76 HI.out hz0' hz1' hz2' rfl (by omega) v1 _ _ rfl E5.o1 ⟨D.heap.size, 0, none⟩ 1 1 [.int .i64 xl] rfl rfl (World.news_of_block q5_0) (by simp [Value.oneCell']) (by omega) (by have := HLEN.out; unfold maxLen; omega) (by have := HLEN.out; omega) (by have := E5.fr.size; omega) D5.heap.size rfl ?_; intro gg6 cap6 D6 ho6 hg6 hat6 _)
            have E6 := E5.app1 hg6 ho6 (hat6.imp id (fun e => by omega))
            have q6_1 := q5_1.grown hg6 (fun e => by have := z1 _ e.symm; omega)
            refine ⟨inFx E6.fr, ?_⟩
            repeat (refine tq_quiet rfl ?_; go_big_quiet_step (fail); refine wpQuiet_nil ?_)
            refine tq_loud rfl ?_
            go_wp2_with (at_builtin; refine wpList_append_lies _ rfl _ _ _ rfl V7.heap.size 3 i0 _ 1 8 Try.underlying76 HI.out hz0' hz1' hz2' rfl (by omega) v2 _ _ rfl E6.o2 ⟨D1.heap.size, 0, none⟩ 1 1 [.int .i64 xh] rfl rfl (World.news_of_block q6_1) (by simp [Value.oneCell']) (by omega) (by have := HLEN.out; unfold maxLen; omega) (by have := HLEN.out; omega) (by have := E6.fr.size; omega) D6.heap.size rfl ?_; intro gg7 cap7 D7 ho7 hg7 hat7 _)
            have E7 := E6.app2 hg7 ho7 (hat7.imp id (fun e => by omega))
            refine ⟨inFx E7.fr, ?_⟩
            repeat (refine tq_quiet rfl ?_; go_big_quiet_step (fail); refine wpQuiet_nil ?_)
            refine tq_done (r := [_]) rfl ?_
            go_wp2_with fail
            have hF9 := hF4.trans (Fr.trans (R := R) (R' := R) (Fr.refl _ _) E7.fr (fun _ _ e => e)) (fun z hz e => absurd (hRW z e) (by omega))
            refine ⟨⟨sn ++ [i], _, _, ⟨hF9, it2.of_block (E7.fr.block r (by omega) hRr), by rw [List.length_append, List.length_singleton]; omega, by rw [losK_snoc hiL, HX.out]; exact E7.o1, by rw [hisK_snoc hiL, HX.out]; exact E7.o2, E7.n12⟩, exFrame (by kernel_rfl)⟩, ?_⟩
            rw [HM0.out, smM_eq (sn := sn ++ [i]) (it2.of_block (E7.fr.block r (by omega) hRr))]
            exact hlL
        · have E8 := EN1.alloc (.cells #[.int .i64 xh] 3)
          have q8_1 : Blk (D.alloc (.cells #[.int .i64 xh] 3)) D.heap.size 3 #[.int .i64 xh] := Blk.new _ _ _
          have g8 : V2.heap.size ≤ D.heap.size := EN1.fr.size
          go_wp2_with fail
          refine ⟨inFx E8.fr, ?_⟩
          generalize D.alloc (.cells #[.int .i64 xh] 3) = D8 at *
          repeat (refine tq_quiet rfl ?_; go_big_quiet_step (fail); refine wpQuiet_nil ?_)
          refine tq_loud rfl ?_
          have E9 := E8.alloc (.cells #[.int .i64 xl] 3)
          have q9_1 := q8_1.alloc (.cells #[.int .i64 xl] 3)
          have q9_0 : Blk (D8.alloc (.cells #[.int .i64 xl] 3)) D8.heap.size 3 #[.int .i64 xl] := Blk.new _ _ _
          have g9 : V2.heap.size ≤ D8.heap.size := E8.fr.size
          go_wp2_with fail
          refine ⟨inFx E9.fr, ?_⟩
          generalize D8.alloc (.cells #[.int .i64 xl] 3) = D9 at *
          repeat (refine tq_quiet rfl ?_; go_big_quiet_step (fail); refine wpQuiet_nil ?_)
          refine tq_loud rfl ?_
          go_wp2_with (at_builtin; refine wpList_append_lies _ rfl _ _ _ rfl V7.heap.size 3 i0 _ 1 8 Try.underlying76 HI.out hz0' hz1' hz2' rfl (by omega) v1 _ _ rfl E9.o1 ⟨D8.heap.size, 0, none⟩ 1 1 [.int .i64 xl] rfl rfl (World.news_of_block q9_0) (by simp [Value.oneCell']) (by omega) (by have := HLEN.out; unfold maxLen; omega) (by have := HLEN.out; omega) (by have := E9.fr.size; omega) D9.heap.size rfl ?_; intro gg10 cap10 D10 ho10 hg10 hat10 _)
          have E10 := E9.app1 hg10 ho10 (hat10.imp id (fun e => by omega))
          have q10_1 := q9_1.grown hg10 (fun e => by have := z1 _ e.symm; omega)
          refine ⟨inFx E10.fr, ?_⟩
          repeat (refine tq_quiet rfl ?_; go_big_quiet_step (fail); refine wpQuiet_nil ?_)
          refine tq_loud rfl ?_
          go_wp2_with (at_builtin; refine wpList_append_lies _ rfl _ _ _ rfl V7.heap.size 3 i0 _ 1 8 Try.underlying76 HI.out hz0' hz1' hz2' rfl (by omega) v2 _ _ rfl E10.o2 ⟨D.heap.size, 0, none⟩ 1 1 [.int .i64 xh] rfl rfl (World.news_of_block q10_1) (by simp [Value.oneCell']) (by omega) (by have := HLEN.out; unfold maxLen; omega) (by have := HLEN.out; omega) (by have := E10.fr.size; omega) D10.heap.size rfl ?_; intro gg11 cap11 D11 ho11 hg11 hat11 _)
          have E11 := E10.app2 hg11 ho11 (hat11.imp id (fun e => by omega))
          refine ⟨inFx E11.fr, ?_⟩
          repeat (refine tq_quiet rfl ?_; go_big_quiet_step (fail); refine wpQuiet_nil ?_)
          refine tq_done (r := [_]) rfl ?_
          go_wp2_with fail
          have hF9 := hF4.trans (Fr.trans (R := R) (R' := R) (Fr.refl _ _) E11.fr (fun _ _ e => e)) (fun z hz e => absurd (hRW z e) (by omega))
          refine ⟨⟨sn ++ [i], _, _, ⟨hF9, it2.of_block (E11.fr.block r (by omega) hRr), by rw [List.length_append, List.length_singleton]; omega, by rw [losK_snoc hiL, HX.out]; exact E11.o1, by rw [hisK_snoc hiL, HX.out]; exact E11.o2, E11.n12⟩, exFrame (by kernel_rfl)⟩, ?_⟩
          rw [HM0.out, smM_eq (sn := sn ++ [i]) (it2.of_block (E11.fr.block r (by omega) hRr))]
          exact hlL
      · have HBV := T.fr.toBelow HB0 HB0.size (fun x hx => by rw [hx]; exact hrw)
        replace q3 := q3.fr T.fr (by omega)
        replace q4 := q4.fr T.fr (by omega)
        replace z0 := (World.cell?_of_block (T.fr.block zb (by omega) (by omega))).trans z0
        replace z1 := (World.cell?_of_block (T.fr.block zb (by omega) (by omega))).trans z1
        replace g0 := (World.cell?_of_block (T.fr.block bi (by omega) (by omega))).trans g0
        have hsz0 := T.fr.size
        have hzV : zb < V.heap.size := by omega
        have hbV : bi < V.heap.size := by omega
        obtain ⟨A1, c1, e1, _, s1⟩ := own_sl T.o1
        obtain ⟨A2, c2, e2, _, s2⟩ := own_sl T.o2
        rw [len_losK] at e1 s1
        rw [len_hisK] at e2 s2
        have hsl : sn.length ≤ 504 := by have := T.len; omega
        have hin := T.it.2
        clear T HM0 hs hsz hm0
        subst e1 e2
        have HALL := Lib.hid hall
        clear hall
        by_cases hz0 : sn.length = 0
        · have hL0 : L = [] := by
            cases L with
            | nil => rfl
            | cons _ _ => have := HALL.out 0 (by simp); rw [List.length_eq_zero_iff.1 hz0] at this; cases this
          have HR : Hid (SamV t h l rs ⟨0, 0⟩ 9) := Lib.hid (.inr (.inr ⟨HU.out, HB.out, zs, HZ.out.2, .inl ⟨same_none HT.out HRB.out h0 hmV hF.out hL0, rfl, rfl⟩⟩))
          have e3 : ((sn.length : Int) == 0) = true := by simp [hz0]
          clear hz0 hL0
          have r0 := q3.cell 0
          have r1 := q3.cell 1
          have fr := q3.frozen0
          have lr := q3.lt
          simp at r0 r1
          have m3 := (q3.set_ 0 (.int .i64 (0))).set_ 1 (.int .i64 (0))
          simp only [List.setIfInBounds_toArray, List.set_cons_zero, List.set_cons_succ] at m3
          go_wp2
          refine bodyPost_ret (results_ct_row rfl _ _ _ 23 #[.int .i64 (0), .int .i64 (0)] (0, 0) _ rfl m3 rfl rfl rfl) rfl ?_
          exact ⟨⟨⟨0, 0⟩, _, rfl, HR⟩, ex_set (p := ⟨pq3, 1, none⟩) (ex_set (p := ⟨pq3, 0, none⟩) HBV hp3 _) hp3 _⟩
        · have hE := same_some HT.out HRB.out h0 hmV hF.out hin HALL.out (by omega)
          obtain ⟨⟨qa, hqa, ha1⟩, ⟨qc, hqc, ha2⟩, _⟩ := hE
          have hba := sayAll_bnd HT.out HRB.out hqa ha1 h0
          have hbc := sayAll_bnd HT.out HRB.out hqc ha2 h0
          have hbb := bnd_bd HT.out (HRB.out 0 h0)
          have hE := Lib.hid (same_some HT.out HRB.out h0 hmV hF.out hin HALL.out (by omega))
          clear ha1 ha2 hqa hqc
          have e3 : ((sn.length : Int) == 0) = false := by rw [beq_eq_false_iff_ne]; omega
          have hn1 : 1 ≤ sn.length := by omega
          clear hz0
          obtain ⟨⟨zl, zh⟩, hzk⟩ : ∃ x, gR zs k = x := ⟨_, rfl⟩
          have hbk := zs_bd HO.out HZ.out.2 k (by have := HZ.out.1; omega)
          have HZK := Lib.hid hzk
          rw [hzk] at z0 z1 hbk
          clear hzk
          dsimp only at z0 z1 hbk
          rw [HK.out] at g0
          have hkz : (k : Int) < (nz : Int) := by omega
          have hr0 : (0 : Int) < (rs.length : Int) := by omega
          have eAz := HAZ.out
          have eAr := HAR.out
          clear HAZ HAR
          subst eAz eAr
          have d14 := q4.cell 14
          have l4 := q4.lt
          simp at d14
          obtain ⟨mn, hmn⟩ : ∃ x, mnTo (losK L sn) sn.length = x := ⟨_, rfl⟩
          obtain ⟨mx, hmx⟩ : ∃ x, mxTo (hisK L sn) sn.length = x := ⟨_, rfl⟩
          have HMN := Lib.hid hmn
          have HMX := Lib.hid hmx
          rw [hmn] at hba hE
          rw [hmx] at hbc hE
          clear hmn hmx
          have hm1 : -6000 ≤ mn ∧ mn ≤ 6000 := by omega
          have hm2 : -6000 ≤ mx ∧ mx ≤ 6000 := by omega
          clear hba hbc hbb
          go_wp2_with fail
          refine wp_region_ext_tq 9 (.quiet 0 (.quiet 1 (.quiet 2 (.quiet 3 (.quiet 4 (.quiet 5 (.quiet 6 (.quiet 7 (.loud 8 .done))))))))) (by kernel_rfl) (by kernel_rfl) (by intro d _ _ _ _ h; cases d <;> exact h) ?_
          have D0 := (Below.refl V.heap.size V).drew
          repeat (refine tq_quiet rfl ?_; go_big_quiet_step (fail); refine wpQuiet_nil ?_)
          refine tq_loud rfl ?_
          go_wp2_with fail
          have sz := ((Below.refl V.heap.size V)).size
          try simp at sz
          have N8 := ex_alloc (Below.refl V.heap.size V) (.cells #[.int .i64 0, .int .i64 0] 23)
          have bz : Blk (V.alloc (.cells #[.int .i64 0, .int .i64 0] 23)) (V.heap.size) 23 #[.int .i64 0, .int .i64 0] := Blk.new' _ _ _ (by first | rfl | (simp; done) | (simp; omega))
          obtain ⟨pz, hpz⟩ : ∃ p, V.heap.size = p := ⟨_, rfl⟩
          rw [hpz] at bz
          try rw [hpz]
          have yz : V.heap.size ≤ pz := by omega
          clear sz
          refine ⟨inEx (N8).drew, ?_⟩
          refine tq_done (r := [_]) rfl ?_
          replace bz := Blk.drew bz
          have XA99 := (N8).drew
          generalize (V.alloc (.cells #[.int .i64 0, .int .i64 0] 23)).drew = V61 at *
          have sc0 : V61.cell? ⟨pz, 0, none⟩ = some (.int .i64 0) := bz.cell 0
          have sc1 : V61.cell? ⟨pz, 1, none⟩ = some (.int .i64 0) := bz.cell 1
          have sf := bz.frozen0
          have sl := bz.lt
          go_wp2_with fail
          replace bz := bz.set_ 0 (.int .i64 zl)
          replace XA99 := ex_set (p := ⟨pz, 0, none⟩) XA99 yz (.int .i64 zl)
          replace bz := bz.set_ 1 (.int .i64 zh)
          replace XA99 := ex_set (p := ⟨pz, 1, none⟩) XA99 yz (.int .i64 zh)
          simp only [List.setIfInBounds_toArray, List.set_cons_zero, List.set_cons_succ] at bz
          clear sf sl sc0 sc1
          generalize ((V61.setCell ⟨pz, 0, none⟩ (.int .i64 zl)).setCell ⟨pz, 1, none⟩ (.int .i64 zh)) = V62 at *
          have XX := XA99
          have XS := XX.size
          replace q3 := q3.below XX q3.lt
          replace q4 := q4.below XX q4.lt
          replace s1 := s1.go XX
          replace s2 := s2.go XX
          have B_V63 := ex_trans HBV XX
          clear D0 XX XS XA99 N8 hpz
          generalize V62 = V63 at *
          have y0 := bz.cell 0
          have y1 := bz.cell 1
          have lz := bz.lt
          simp at y0 y1
          clear d14 l4 z0 z1 g0
          go_wp2_with fail
          refine wp_region_ext_tq 12 (.quiet 0 (.quiet 2 (.quiet 3 (.quiet 5 (.quiet 7 (.quiet 8 (.fork 1 (.quiet 4 (.fork 6 (.quiet 9 (.quiet 10 (.loud 11 .done))) 11 (.loud 6 (.quiet 9 (.quiet 10 .done))))) 11 (.loud 1 (.quiet 4 (.loud 6 (.quiet 9 (.quiet 10 .done)))))))))))) (by kernel_rfl) (by kernel_rfl) (by intro d _ _ _ _ h; cases d <;> exact h) ?_
          have D0 := (Below.refl V63.heap.size V63).drew
          repeat (refine tq_quiet rfl ?_; go_big_quiet_step (fail); refine wpQuiet_nil ?_)
          refine tq_fork rfl rfl ?_ ?_
          · go_wp2_with fail
            refine (sm_least3 A1 c1 _ sn.length (losK L sn) mn _ hn1 (by omega) (s1.go (((Below.refl V63.heap.size V63)).drew)) HMN.out).mono ?_
            rintro e V64 ⟨rfl, hV64⟩
            have N1 := ex_trans ((Below.refl V63.heap.size V63)).drew hV64
            go_wp2_with fail
            refine ⟨inEx N1, ?_⟩
            repeat (refine tq_quiet rfl ?_; go_big_quiet_step (fail); refine wpQuiet_nil ?_)
            refine tq_fork rfl rfl ?_ ?_
            · go_wp2_with fail
              refine (sm_greatest3 A2 c2 _ sn.length (hisK L sn) mx _ hn1 (by omega) (s2.go (N1)) HMX.out).mono ?_
              rintro e V65 ⟨rfl, hV65⟩
              have N6 := ex_trans N1 hV65
              go_wp2_with fail
              refine ⟨inEx N6, ?_⟩
              repeat (refine tq_quiet rfl ?_; go_big_quiet_step (fail); refine wpQuiet_nil ?_)
              refine tq_loud rfl ?_
              go_wp2_with fail
              have st := (N6).size
              try simp at st
              have N11 := ex_alloc N6 (.cells #[.int .i64 0, .int .i64 0] 23)
              have bt : Blk (V65.alloc (.cells #[.int .i64 0, .int .i64 0] 23)) (V65.heap.size) 23 #[.int .i64 0, .int .i64 0] := Blk.new' _ _ _ (by first | rfl | (simp; done) | (simp; omega))
              obtain ⟨pt, hpt⟩ : ∃ p, V65.heap.size = p := ⟨_, rfl⟩
              rw [hpt] at bt
              try rw [hpt]
              have yt : V63.heap.size ≤ pt := by omega
              clear st
              refine ⟨inEx N11, ?_⟩
              repeat (refine tq_quiet rfl ?_; go_big_quiet_step (fail); refine wpQuiet_nil ?_)
              refine tq_done (r := [_]) rfl ?_
              have XA99 := N11
              generalize (V65.alloc (.cells #[.int .i64 0, .int .i64 0] 23)) = V66 at *
              have sc0 : V66.cell? ⟨pt, 0, none⟩ = some (.int .i64 0) := bt.cell 0
              have sc1 : V66.cell? ⟨pt, 1, none⟩ = some (.int .i64 0) := bt.cell 1
              have sf := bt.frozen0
              have sl := bt.lt
              go_upto_region 15 with fail
              replace bt := bt.set_ 0 (.int .i64 (mn - zh))
              replace XA99 := ex_set (p := ⟨pt, 0, none⟩) XA99 yt (.int .i64 (mn - zh))
              replace bt := bt.set_ 1 (.int .i64 (mx - zl))
              replace XA99 := ex_set (p := ⟨pt, 1, none⟩) XA99 yt (.int .i64 (mx - zl))
              simp only [List.setIfInBounds_toArray, List.set_cons_zero, List.set_cons_succ] at bt
              clear sf sl sc0 sc1
              generalize ((V66.setCell ⟨pt, 0, none⟩ (.int .i64 (mn - zh))).setCell ⟨pt, 1, none⟩ (.int .i64 (mx - zl))) = V67 at *
              have XX := XA99
              have XS := XX.size
              replace q3 := q3.below XX q3.lt
              replace q4 := q4.below XX q4.lt
              replace s1 := s1.go XX
              replace s2 := s2.go XX
              replace bz := bz.below XX bz.lt
              have B_V68 := ex_trans B_V63 XX
              clear D0 XX XS XA99 N11 hV65 N6 hV64 N1 hpt
              generalize V67 = V68 at *
              have u0 := bt.cell 0
              have u1 := bt.cell 1
              have ut := bt.lt
              simp at u0 u1
              have HR : Hid (SamV t h l rs ⟨mn - zh, mx - zl⟩ 0) := Lib.hid (.inr (.inr ⟨HU.out, HB.out, zs, HZ.out.2, .inr ⟨mn, mx, hE.out, rfl, by rw [show (gE rs 0).day.toNat = k by rw [HK.out]; simp, HZK.out]⟩⟩))
              have r0 := q3.cell 0
              have r1 := q3.cell 1
              have fr := q3.frozen0
              have lr := q3.lt
              simp at r0 r1
              have m3 := (q3.set_ 0 (.int .i64 (mn - zh))).set_ 1 (.int .i64 (mx - zl))
              simp only [List.setIfInBounds_toArray, List.set_cons_zero, List.set_cons_succ] at m3
              go_wp2
              refine bodyPost_ret (results_ct_row rfl _ _ _ 23 #[.int .i64 (mn - zh), .int .i64 (mx - zl)] (0, 0) _ rfl m3 rfl rfl rfl) rfl ?_
              exact ⟨⟨⟨mn - zh, mx - zl⟩, _, rfl, HR⟩, ex_set (p := ⟨pq3, 1, none⟩) (ex_set (p := ⟨pq3, 0, none⟩) B_V68 hp3 _) hp3 _⟩
            · go_wp2_with fail
              have st := (N1).size
              try simp at st
              have N11 := ex_alloc N1 (.cells #[.int .i64 0, .int .i64 0] 23)
              have bt : Blk (V64.alloc (.cells #[.int .i64 0, .int .i64 0] 23)) (V64.heap.size) 23 #[.int .i64 0, .int .i64 0] := Blk.new' _ _ _ (by first | rfl | (simp; done) | (simp; omega))
              obtain ⟨pt, hpt⟩ : ∃ p, V64.heap.size = p := ⟨_, rfl⟩
              rw [hpt] at bt
              try rw [hpt]
              have yt : V63.heap.size ≤ pt := by omega
              clear st
              refine ⟨inEx N11, ?_⟩
              repeat (refine tq_quiet rfl ?_; go_big_quiet_step (fail); refine wpQuiet_nil ?_)
              refine tq_loud rfl ?_
              go_wp2_with fail
              refine (sm_greatest3 A2 c2 _ sn.length (hisK L sn) mx _ hn1 (by omega) (s2.go (N11)) HMX.out).mono ?_
              rintro e V69 ⟨rfl, hV69⟩
              replace bt := Blk.below bt hV69 bt.lt
              have N6 := ex_trans N11 hV69
              go_wp2_with fail
              refine ⟨inEx N6, ?_⟩
              repeat (refine tq_quiet rfl ?_; go_big_quiet_step (fail); refine wpQuiet_nil ?_)
              refine tq_done (r := [_]) rfl ?_
              have XA99 := N6
              generalize V69 = V70 at *
              have sc0 : V70.cell? ⟨pt, 0, none⟩ = some (.int .i64 0) := bt.cell 0
              have sc1 : V70.cell? ⟨pt, 1, none⟩ = some (.int .i64 0) := bt.cell 1
              have sf := bt.frozen0
              have sl := bt.lt
              go_upto_region 15 with fail
              replace bt := bt.set_ 0 (.int .i64 (mn - zh))
              replace XA99 := ex_set (p := ⟨pt, 0, none⟩) XA99 yt (.int .i64 (mn - zh))
              replace bt := bt.set_ 1 (.int .i64 (mx - zl))
              replace XA99 := ex_set (p := ⟨pt, 1, none⟩) XA99 yt (.int .i64 (mx - zl))
              simp only [List.setIfInBounds_toArray, List.set_cons_zero, List.set_cons_succ] at bt
              clear sf sl sc0 sc1
              generalize ((V70.setCell ⟨pt, 0, none⟩ (.int .i64 (mn - zh))).setCell ⟨pt, 1, none⟩ (.int .i64 (mx - zl))) = V71 at *
              have XX := XA99
              have XS := XX.size
              replace q3 := q3.below XX q3.lt
              replace q4 := q4.below XX q4.lt
              replace s1 := s1.go XX
              replace s2 := s2.go XX
              replace bz := bz.below XX bz.lt
              have B_V72 := ex_trans B_V63 XX
              clear D0 XX XS XA99 hV69 N6 N11 hV64 N1 hpt
              generalize V71 = V72 at *
              have u0 := bt.cell 0
              have u1 := bt.cell 1
              have ut := bt.lt
              simp at u0 u1
              have HR : Hid (SamV t h l rs ⟨mn - zh, mx - zl⟩ 0) := Lib.hid (.inr (.inr ⟨HU.out, HB.out, zs, HZ.out.2, .inr ⟨mn, mx, hE.out, rfl, by rw [show (gE rs 0).day.toNat = k by rw [HK.out]; simp, HZK.out]⟩⟩))
              have r0 := q3.cell 0
              have r1 := q3.cell 1
              have fr := q3.frozen0
              have lr := q3.lt
              simp at r0 r1
              have m3 := (q3.set_ 0 (.int .i64 (mn - zh))).set_ 1 (.int .i64 (mx - zl))
              simp only [List.setIfInBounds_toArray, List.set_cons_zero, List.set_cons_succ] at m3
              go_wp2
              refine bodyPost_ret (results_ct_row rfl _ _ _ 23 #[.int .i64 (mn - zh), .int .i64 (mx - zl)] (0, 0) _ rfl m3 rfl rfl rfl) rfl ?_
              exact ⟨⟨⟨mn - zh, mx - zl⟩, _, rfl, HR⟩, ex_set (p := ⟨pq3, 1, none⟩) (ex_set (p := ⟨pq3, 0, none⟩) B_V72 hp3 _) hp3 _⟩
          · go_wp2_with fail
            have st := ((Below.refl V63.heap.size V63)).size
            try simp at st
            have N11 := ex_alloc (Below.refl V63.heap.size V63) (.cells #[.int .i64 0, .int .i64 0] 23)
            have bt : Blk (V63.alloc (.cells #[.int .i64 0, .int .i64 0] 23)) (V63.heap.size) 23 #[.int .i64 0, .int .i64 0] := Blk.new' _ _ _ (by first | rfl | (simp; done) | (simp; omega))
            obtain ⟨pt, hpt⟩ : ∃ p, V63.heap.size = p := ⟨_, rfl⟩
            rw [hpt] at bt
            try rw [hpt]
            have yt : V63.heap.size ≤ pt := by omega
            clear st
            refine ⟨inEx (N11).drew, ?_⟩
            repeat (refine tq_quiet rfl ?_; go_big_quiet_step (fail); refine wpQuiet_nil ?_)
            refine tq_loud rfl ?_
            go_wp2_with fail
            refine (sm_least3 A1 c1 _ sn.length (losK L sn) mn _ hn1 (by omega) (s1.go ((N11).drew)) HMN.out).mono ?_
            rintro e V73 ⟨rfl, hV73⟩
            replace bt := Blk.below (Blk.drew bt) hV73 bt.lt
            have N1 := ex_trans (N11).drew hV73
            go_wp2_with fail
            refine ⟨inEx N1, ?_⟩
            repeat (refine tq_quiet rfl ?_; go_big_quiet_step (fail); refine wpQuiet_nil ?_)
            refine tq_loud rfl ?_
            go_wp2_with fail
            refine (sm_greatest3 A2 c2 _ sn.length (hisK L sn) mx _ hn1 (by omega) (s2.go (N1)) HMX.out).mono ?_
            rintro e V74 ⟨rfl, hV74⟩
            replace bt := Blk.below bt hV74 bt.lt
            have N6 := ex_trans N1 hV74
            go_wp2_with fail
            refine ⟨inEx N6, ?_⟩
            repeat (refine tq_quiet rfl ?_; go_big_quiet_step (fail); refine wpQuiet_nil ?_)
            refine tq_done (r := [_]) rfl ?_
            have XA99 := N6
            generalize V74 = V75 at *
            have sc0 : V75.cell? ⟨pt, 0, none⟩ = some (.int .i64 0) := bt.cell 0
            have sc1 : V75.cell? ⟨pt, 1, none⟩ = some (.int .i64 0) := bt.cell 1
            have sf := bt.frozen0
            have sl := bt.lt
            go_upto_region 15 with fail
            replace bt := bt.set_ 0 (.int .i64 (mn - zh))
            replace XA99 := ex_set (p := ⟨pt, 0, none⟩) XA99 yt (.int .i64 (mn - zh))
            replace bt := bt.set_ 1 (.int .i64 (mx - zl))
            replace XA99 := ex_set (p := ⟨pt, 1, none⟩) XA99 yt (.int .i64 (mx - zl))
            simp only [List.setIfInBounds_toArray, List.set_cons_zero, List.set_cons_succ] at bt
            clear sf sl sc0 sc1
            generalize ((V75.setCell ⟨pt, 0, none⟩ (.int .i64 (mn - zh))).setCell ⟨pt, 1, none⟩ (.int .i64 (mx - zl))) = V76 at *
            have XX := XA99
            have XS := XX.size
            replace q3 := q3.below XX q3.lt
            replace q4 := q4.below XX q4.lt
            replace s1 := s1.go XX
            replace s2 := s2.go XX
            replace bz := bz.below XX bz.lt
            have B_V77 := ex_trans B_V63 XX
            clear D0 XX XS XA99 hV74 N6 hV73 N1 N11 hpt
            generalize V76 = V77 at *
            have u0 := bt.cell 0
            have u1 := bt.cell 1
            have ut := bt.lt
            simp at u0 u1
            have HR : Hid (SamV t h l rs ⟨mn - zh, mx - zl⟩ 0) := Lib.hid (.inr (.inr ⟨HU.out, HB.out, zs, HZ.out.2, .inr ⟨mn, mx, hE.out, rfl, by rw [show (gE rs 0).day.toNat = k by rw [HK.out]; simp, HZK.out]⟩⟩))
            have r0 := q3.cell 0
            have r1 := q3.cell 1
            have fr := q3.frozen0
            have lr := q3.lt
            simp at r0 r1
            have m3 := (q3.set_ 0 (.int .i64 (mn - zh))).set_ 1 (.int .i64 (mx - zl))
            simp only [List.setIfInBounds_toArray, List.set_cons_zero, List.set_cons_succ] at m3
            go_wp2
            refine bodyPost_ret (results_ct_row rfl _ _ _ 23 #[.int .i64 (mn - zh), .int .i64 (mx - zl)] (0, 0) _ rfl m3 rfl rfl rfl) rfl ?_
            exact ⟨⟨⟨mn - zh, mx - zl⟩, _, rfl, HR⟩, ex_set (p := ⟨pq3, 1, none⟩) (ex_set (p := ⟨pq3, 0, none⟩) B_V77 hp3 _) hp3 _⟩

end Go.Proofs.Ytkaogjhnogkcdaa
end

section
namespace Go.Proofs.Ytkaogjhnogkcdaa
open Go.RowKit
attribute [local go_sem] Ex.cell? Ex.frozen?

def awX : Tx := ⟨-3, 15, 2, 1, 30, 3, 1⟩
def rd2R : Rd := ⟨2, 2025, 2, 0, ⟨0, 0⟩, ⟨0, 0⟩, 0, false⟩
theorem aw_play : playV rodT shownR awX = 2033 ∧ playE rodT shownR awX = 0 := by decide +kernel
theorem aw_use : useE rodT springH [] = 0 := by decide +kernel
theorem aw_ask : askE rodT springH [] shownR = 0 := by decide +kernel
theorem aw_ref : refE rodT [] shownR true = 0 := by decide +kernel
theorem aw_ag : agreeB rodT.g springH [] off0 = true := agreeB_iff.2 can0
theorem aw_zs {zs : List Rg} (h : ZsOf rodT.g springH [] zs) : gR zs 2 = ⟨-5, 0⟩ := by rw [ZsOf.uniq h zs0]; rfl
theorem aw_p : (corP2 rodT shownR ⟨-5, 0⟩).lo = 2021 ∧ (corP2 rodT shownR ⟨-5, 0⟩).hi = 2043 := by decide +kernel
theorem aw_cor {R : Rg} {ev : Int} (h : CorV rodT springH [] shownR R ev) : R = ⟨2021, 2043⟩ ∧ ev = 0 := by
  have h0 : corE rodT springH [] shownR = 0 := by unfold corE; rw [if_neg (by simp [aw_ask]), aw_ag, aw_ref]
  obtain ⟨h1, h2⟩ := h
  rw [h0] at h1
  rcases h2 with ⟨h2, _⟩ | ⟨_, zs, hz, hR⟩
  · exact absurd h1 h2
  · have e : gR zs shownR.day.toNat = ⟨-5, 0⟩ := aw_zs hz
    rw [e] at hR
    have := aw_p
    obtain ⟨a, b⟩ := R
    rw [← hR] at this
    simp only at this
    exact ⟨by rw [this.1, this.2], h1⟩
theorem aw_ok : okN rodT shownR ⟨-5, 0⟩ 22 114 = true := by decide +kernel
theorem aw_no : ∀ k : Nat, k < 186 → okN rodT shownR ⟨-5, 0⟩ 22 (115 + (k : Int)) = false := by decide +kernel
theorem aw_bare {v ev : Int} (h : BarV rodT springH [] shownR 22 v ev) : v = 114 ∧ ev = 0 := by
  have h0 : accE rodT springH [] shownR 22 = 0 := by unfold accE; rw [if_neg (by rintro (h | h); exact h aw_ask; omega), aw_ag, aw_ref]
  rcases h with ⟨h1, _⟩ | ⟨_, _, _, _, zs, hz, hm⟩
  · exact absurd h0 h1
  · have e : gR zs shownR.day.toNat = ⟨-5, 0⟩ := aw_zs hz
    rw [e] at hm
    have hno : ∀ m : Int, 114 < m → m ≤ 300 → okN rodT shownR ⟨-5, 0⟩ 22 m = false := fun m h1 h2 => by
      have := aw_no (m - 115).toNat (by omega)
      rwa [show (115 : Int) + ((m - 115).toNat : Int) = m by omega] at this
    rcases hm with ⟨n, h1, h2, h3, h4, rfl, rfl⟩ | ⟨h1, _⟩
    · refine ⟨?_, rfl⟩
      rcases Int.lt_trichotomy v 114 with hc | hc | hc
      · have := h4 114 hc (by omega); rw [aw_ok] at this; cases this
      · exact hc
      · have := hno v hc h2; rw [this] at h3; cases h3
    · have := h1 114 (by omega) (by omega); rw [aw_ok] at this; cases this
theorem aw_bath : bathE rodT [] 4 [shownR, rd2R] true = 0 := by decide +kernel
theorem aw_b2 : (bndP rodT rd2R).lo = 2023 ∧ (bndP rodT rd2R).hi = 2027 := by decide +kernel
theorem aw_s1 : sayAll [shownR, rd2R] ⟨15, 1, 0⟩ 2023 = true := by decide +kernel
theorem aw_s2 : sayAll [shownR, rd2R] ⟨15, 1, 0⟩ 2027 = true := by decide +kernel
theorem aw_tb : TbBd rodT := ⟨by decide, by decide, by decide, by decide⟩
theorem aw_rd : RdsBd [shownR, rd2R] := fun k hk => by
  have hk' : k < 2 := hk
  match k, hk' with
  | 0, _ => exact (rdOk_iff.1 (show rdOk 4 shownR = true by decide +kernel)).2
  | 1, _ => exact (rdOk_iff.1 (show rdOk 4 rd2R = true by decide +kernel)).2
theorem aw_ends : EndsOf (SameK rodT [shownR, rd2R]) 2023 2027 := by
  have hq : KiIn rodT ⟨15, 1, 0⟩ := ⟨by decide, by decide, by decide⟩
  refine ⟨⟨_, hq, aw_s1⟩, ⟨_, hq, aw_s2⟩, fun n ⟨q, hq, hs⟩ => ?_⟩
  have := sayAll_bnd aw_tb aw_rd hq hs (k := 1) (by decide)
  have e : gE [shownR, rd2R] 1 = rd2R := rfl
  rw [e, aw_b2.1, aw_b2.2] at this
  exact this
theorem aw_same {R : Rg} {ev : Int} (h : SamV rodT springH [] [shownR, rd2R] R ev) : R = ⟨2023, 2032⟩ ∧ ev = 0 := by
  have hb : bathE rodT [] (springH.length : Int) [shownR, rd2R] (agreeB rodT.g springH [] off0) = 0 := by rw [aw_ag]; exact aw_bath
  rcases h with ⟨h, _⟩ | ⟨_, h, _⟩ | ⟨_, _, zs, hz, h⟩
  · exact absurd aw_use h
  · exact absurd hb h
  · rcases h with ⟨h, _⟩ | ⟨a, b, he, rfl, rfl⟩
    · exact absurd ⟨_, aw_ends.1⟩ h
    · have e : gR zs (gE [shownR, rd2R] 0).day.toNat = ⟨-5, 0⟩ := aw_zs hz
      obtain ⟨ea, eb⟩ := he.uniq aw_ends
      rw [e, ea, eb]
      exact ⟨rfl, rfl⟩
set_option maxRecDepth 100000 in
set_option maxHeartbeats 6400000 in
theorem sl_awake (w : World) : Calls Try.prog 15 #[] w fun e w' => e = .returned (.bool true) ∧ Below w.heap.size w w' := by
  go_enter Try.func15, Try.ntmps15
  have hn : ∀ W : World, SlAt W W.heap.size 3 none ([] : List Ic).length (fC []) := fun W h => absurd h (by simp)
  have hb0 := Below.refl w.heap.size w
  go_wp2_with fail
  refine (sr_rod _).mono ?_
  rintro e V1 ⟨⟨Ab1, Ad1, rfl, hg1⟩, hV1⟩
  have B_V1 := ex_trans hb0 hV1
  go_wp2_with fail
  refine (sr_shown _).mono ?_
  rintro e V2 ⟨rfl, hV2⟩
  replace hg1 := hg1.go hV2
  have B_V2 := ex_trans B_V1 hV2
  go_wp2_with fail
  refine (Play_stem rodT Ab1 Ad1 2 2 shownR awX _ hg1 (by decide) (by decide)).mono ?_
  rintro e V3 ⟨rfl, hV3⟩
  replace hg1 := hg1.go hV3
  have B_V3 := ex_trans B_V2 hV3
  rw [aw_play.1, aw_play.2]
  go_wp2_with fail
  refine (sr_rod _).mono ?_
  rintro e V4 ⟨⟨Ab2, Ad2, rfl, hg2⟩, hV4⟩
  have B_V4 := ex_trans B_V3 hV4
  go_wp2_with fail
  refine (sr_spring _).mono ?_
  rintro e V5 ⟨⟨A2, rfl, hh2⟩, hV5⟩
  replace hg2 := hg2.go hV5
  have B_V5 := ex_trans B_V4 hV5
  go_wp2_with fail
  refine (sr_shown _).mono ?_
  rintro e V6 ⟨rfl, hV6⟩
  replace hg2 := hg2.go hV6
  replace hh2 := (hh2.below hV6).up hV6.size
  have B_V6 := ex_trans B_V5 hV6
  go_wp2_with fail
  refine (Correct_v rodT Ab2 Ad2 2 2 A2 none 4 0 springH [] shownR _ hg2 hh2 (hn _) (by decide)).mono ?_
  rintro e V7 ⟨⟨R1, ev1, rfl, hc1⟩, hV7⟩
  replace hg2 := hg2.go hV7
  replace hh2 := (hh2.below hV7).up hV7.size
  have B_V7 := ex_trans B_V6 hV7
  obtain ⟨rfl, rfl⟩ := aw_cor hc1.out
  clear hc1
  have NG := ex_alloc (Below.refl V7.heap.size V7) (.cells #[.int .i64 2021, .int .i64 2043] 23)
  have qc : Blk (V7.alloc (.cells #[.int .i64 2021, .int .i64 2043] 23)) V7.heap.size 23 #[.int .i64 2021, .int .i64 2043] := Blk.new _ _ _
  go_wp2_with fail
  obtain ⟨pc, hpc⟩ : ∃ p, V7.heap.size = p := ⟨_, rfl⟩
  rw [hpc] at qc ⊢
  clear hpc
  have B_V8 := ex_trans B_V7 NG
  clear NG
  generalize V7.alloc (.cells #[.int .i64 2021, .int .i64 2043] 23) = V8 at *
  refine (sr_rod _).mono ?_
  rintro e V9 ⟨⟨Ab3, Ad3, rfl, hg3⟩, hV9⟩
  replace qc := qc.below hV9 qc.lt
  have B_V9 := ex_trans B_V8 hV9
  go_wp2_with fail
  refine (sr_spring _).mono ?_
  rintro e V10 ⟨⟨A3, rfl, hh3⟩, hV10⟩
  replace qc := qc.below hV10 qc.lt
  replace hg3 := hg3.go hV10
  have B_V10 := ex_trans B_V9 hV10
  go_wp2_with fail
  refine (sr_shown _).mono ?_
  rintro e V11 ⟨rfl, hV11⟩
  replace qc := qc.below hV11 qc.lt
  replace hg3 := hg3.go hV11
  replace hh3 := (hh3.below hV11).up hV11.size
  have B_V11 := ex_trans B_V10 hV11
  go_wp2_with fail
  refine (Bare_v rodT Ab3 Ad3 2 2 A3 none 4 0 springH [] shownR 22 _ hg3 hh3 (hn _) (by decide)).mono ?_
  rintro e V12 ⟨⟨v2, ev2, rfl, hc2⟩, hV12⟩
  replace qc := qc.below hV12 qc.lt
  replace hg3 := hg3.go hV12
  replace hh3 := (hh3.below hV12).up hV12.size
  have B_V12 := ex_trans B_V11 hV12
  obtain ⟨rfl, rfl⟩ := aw_bare hc2.out
  clear hc2
  go_wp2_with fail
  refine (sr_rod _).mono ?_
  rintro e V13 ⟨⟨Ab4, Ad4, rfl, hg4⟩, hV13⟩
  replace qc := qc.below hV13 qc.lt
  have B_V13 := ex_trans B_V12 hV13
  go_wp2_with fail
  refine (sr_spring _).mono ?_
  rintro e V14 ⟨⟨A4, rfl, hh4⟩, hV14⟩
  replace qc := qc.below hV14 qc.lt
  replace hg4 := hg4.go hV14
  have B_V14 := ex_trans B_V13 hV14
  go_wp2_with fail
  refine (sr_shown _).mono ?_
  rintro e V15 ⟨rfl, hV15⟩
  replace qc := qc.below hV15 qc.lt
  replace hg4 := hg4.go hV15
  replace hh4 := (hh4.below hV15).up hV15.size
  have B_V15 := ex_trans B_V14 hV15
  have NG := ex_alloc (Below.refl V15.heap.size V15) (.cells #[.int .i64 2, .int .i64 2000, .int .i64 2, .int .i64 100, .int .i64 20, .int .i64 30, .int .i64 0, .int .i64 3, .int .i64 2, .bool false, .int .i64 2, .int .i64 2025, .int .i64 2, .int .i64 0, .int .i64 0, .int .i64 0, .int .i64 0, .int .i64 0, .int .i64 0, .bool false] 37)
  have qr : Blk (V15.alloc (.cells #[.int .i64 2, .int .i64 2000, .int .i64 2, .int .i64 100, .int .i64 20, .int .i64 30, .int .i64 0, .int .i64 3, .int .i64 2, .bool false, .int .i64 2, .int .i64 2025, .int .i64 2, .int .i64 0, .int .i64 0, .int .i64 0, .int .i64 0, .int .i64 0, .int .i64 0, .bool false] 37)) V15.heap.size 37 #[.int .i64 2, .int .i64 2000, .int .i64 2, .int .i64 100, .int .i64 20, .int .i64 30, .int .i64 0, .int .i64 3, .int .i64 2, .bool false, .int .i64 2, .int .i64 2025, .int .i64 2, .int .i64 0, .int .i64 0, .int .i64 0, .int .i64 0, .int .i64 0, .int .i64 0, .bool false] := Blk.new _ _ _
  go_wp2_with fail
  obtain ⟨pr, hpr⟩ : ∃ p, V15.heap.size = p := ⟨_, rfl⟩
  rw [hpr] at qr ⊢
  clear hpr
  replace qc := qc.below NG qc.lt
  replace hg4 := hg4.go NG
  replace hh4 := hh4.go NG
  have B_V16 := ex_trans B_V15 NG
  clear NG
  generalize V15.alloc (.cells #[.int .i64 2, .int .i64 2000, .int .i64 2, .int .i64 100, .int .i64 20, .int .i64 30, .int .i64 0, .int .i64 3, .int .i64 2, .bool false, .int .i64 2, .int .i64 2025, .int .i64 2, .int .i64 0, .int .i64 0, .int .i64 0, .int .i64 0, .int .i64 0, .int .i64 0, .bool false] 37) = V16 at *
  have hs : SlAt V16 V16.heap.size 10 (some ⟨pr, 0, none⟩) [shownR, rd2R].length (fE [shownR, rd2R]) := fun _ => ⟨pr, 0, rfl, qr.lt, fun k j hk hj => by
    rw [cell_of_row _ _ _ _ _ _ qr]
    have hk' : k < 2 := hk
    match k, hk', j, hj with
    | 0, _, 0, _ => rfl
    | 0, _, 1, _ => rfl
    | 0, _, 2, _ => rfl
    | 0, _, 3, _ => rfl
    | 0, _, 4, _ => rfl
    | 0, _, 5, _ => rfl
    | 0, _, 6, _ => rfl
    | 0, _, 7, _ => rfl
    | 0, _, 8, _ => rfl
    | 0, _, 9, _ => rfl
    | 1, _, 0, _ => rfl
    | 1, _, 1, _ => rfl
    | 1, _, 2, _ => rfl
    | 1, _, 3, _ => rfl
    | 1, _, 4, _ => rfl
    | 1, _, 5, _ => rfl
    | 1, _, 6, _ => rfl
    | 1, _, 7, _ => rfl
    | 1, _, 8, _ => rfl
    | 1, _, 9, _ => rfl⟩
  refine (Same_v rodT Ab4 Ad4 2 2 A4 none (some ⟨pr, 0, none⟩) 4 0 2 springH [] [shownR, rd2R] _ hg4 hh4 (hn _) hs (by decide) (by decide)).mono ?_
  rintro e V17 ⟨⟨R3, ev3, rfl, hc3⟩, hV17⟩
  replace qc := qc.below hV17 qc.lt
  replace hg4 := hg4.go hV17
  replace hh4 := (hh4.below hV17).up hV17.size
  have B_V17 := ex_trans B_V16 hV17
  obtain ⟨rfl, rfl⟩ := aw_same hc3.out
  clear hc3
  have NG := ex_alloc (Below.refl V17.heap.size V17) (.cells #[.int .i64 2023, .int .i64 2032] 23)
  have qs : Blk (V17.alloc (.cells #[.int .i64 2023, .int .i64 2032] 23)) V17.heap.size 23 #[.int .i64 2023, .int .i64 2032] := Blk.new _ _ _
  go_wp2_with fail
  obtain ⟨ps, hps⟩ : ∃ p, V17.heap.size = p := ⟨_, rfl⟩
  rw [hps] at qs ⊢
  clear hps
  replace qc := qc.below NG qc.lt
  have B_V18 := ex_trans B_V17 NG
  clear NG
  generalize V17.alloc (.cells #[.int .i64 2023, .int .i64 2032] 23) = V18 at *
  have x0 := qc.cell 0
  have x1 := qc.cell 1
  have lc := qc.lt
  have y0 := qs.cell 0
  have y1 := qs.cell 1
  have ls := qs.lt
  simp at x0 x1 y0 y1
  refine wp_region_ext (by kernel_rfl) (by kernel_rfl) ?_
  repeat (go_big_quiet_step ((go_at_call 9; exact Calls.ext_of (sr_between _ _ _))))
  refine wpQuiet_nil ?_; intro _ hw'; obtain ⟨X, rfl⟩ := hw'
  go_wp2
  go_ret
  exact ⟨rfl, ex_trans B_V18 X.h⟩


end Go.Proofs.Ytkaogjhnogkcdaa
end

section
namespace Go.Proofs.Ytkaogjhnogkcdaa
open Go.RowKit

def nmBroken : Rd := ⟨2, 2000, 2, 100, ⟨20, 30⟩, ⟨0, 3⟩, 2, true⟩
def nmLate : Rd := ⟨3, 2000, 2, 100, ⟨20, 30⟩, ⟨0, 3⟩, 2, false⟩
def nmFar : Rd := ⟨4, 2000, 2, 100, ⟨20, 30⟩, ⟨0, 3⟩, 2, false⟩
def nmOut : Rd := ⟨2, 2000, 2, 301, ⟨20, 30⟩, ⟨0, 3⟩, 2, false⟩
def nmIce : Rd := ⟨2, -3, 1, 0, ⟨0, 0⟩, ⟨0, 0⟩, 0, false⟩
def nmHot : Rd := ⟨0, 4000, 0, 0, ⟨0, 0⟩, ⟨0, 0⟩, 0, false⟩
def nmDay1 : Rd := ⟨1, 2025, 0, 0, ⟨0, 0⟩, ⟨0, 0⟩, 0, false⟩
def nmCold : Rd := ⟨2, 2010, 2, 0, ⟨0, 0⟩, ⟨0, 0⟩, 0, false⟩
def nmZero : Rd := ⟨0, 0, 0, 0, ⟨0, 0⟩, ⟨0, 0⟩, 0, false⟩
def nmTx : Tx := ⟨0, 14, 1, 0, 20, 0, 0⟩
def nmWild : Tb := { rodT with k := ⟨0, 21⟩ }
def nmBad : Tb := { rodT with g := { tubeG with bands := [⟨0, 0, 0⟩, ⟨0, 0, 0⟩, ⟨0, 0, 0⟩, ⟨0, 0, 0⟩] } }
def nmNone : Tb := ⟨⟨0, [], [], 0, 0⟩, ⟨0, 0⟩, ⟨0, 0⟩, ⟨0, 0⟩, 0⟩

theorem nm_acc0 {m : Int} (hm : 0 ≤ m) : accE rodT springH [] shownR m = 0 := by
 unfold accE; rw [if_neg (by rintro (h | h); exact h aw_ask; omega), aw_ag, aw_ref]
theorem nm_acc {m : Int} {R : Rg} {ev : Int} (hm : 0 ≤ m) (h : AccV rodT springH [] shownR m R ev) : (22 ≤ m ∧ R = ⟨2021, 2043⟩ ∧ ev = 0) ∨ (m < 22 ∧ R = ⟨0, 0⟩ ∧ ev = 10) := by
 rcases h with ⟨h1, _⟩ | ⟨_, _, _, _, zs, hz, h⟩
 ·
  exact absurd (nm_acc0 hm) h1
 ·
  have e : gR zs shownR.day.toNat = ⟨-5, 0⟩ := aw_zs hz
  rw [e] at h
  have hp := aw_p
  obtain ⟨a, b⟩ := hp
  rw [a, b] at h
  rcases h with ⟨h1, h2, h3⟩ | ⟨h1, h2, h3⟩
  ·
   refine .inl ⟨by omega, ?_, h2⟩
   rw [h3]
   generalize corP2 rodT shownR ⟨-5, 0⟩ = c at *
   cases c
   simp only at a b
   rw [a, b]
  ·
   exact .inr ⟨by omega, h3, h2⟩
theorem nm_acc22 {R : Rg} {ev : Int} (h : AccV rodT springH [] shownR 22 R ev) : R = ⟨2021, 2043⟩ ∧ ev = 0 := by
 rcases nm_acc (by omega) h with ⟨_, h⟩ | ⟨h, _⟩
 ·
  exact h
 ·
  omega
theorem nm_acc21 {R : Rg} {ev : Int} (h : AccV rodT springH [] shownR 21 R ev) : R = ⟨0, 0⟩ ∧ ev = 10 := by
 rcases nm_acc (by omega) h with ⟨h, _⟩ | ⟨_, h⟩
 ·
  omega
 ·
  exact h
theorem nm_ice : icoE rodT nmIce = 0 ∧ (icoV rodT nmIce).day = 2 ∧ (icoV rodT nmIce).zero = -3 ∧ (icoV rodT nmIce).err = 1 := by decide +kernel
theorem nm_hot : icoE rodT nmHot = 10 ∧ (icoV rodT nmHot).day = 0 ∧ (icoV rodT nmHot).zero = 0 ∧ (icoV rodT nmHot).err = 0 := by decide +kernel
theorem nm_cor {t : Tb} {h : List Rg} {l : List Ic} {r : Rd} {R : Rg} {ev c : Int} (hc : corE t h l r = c) (h0 : c ≠ 0) (hv : CorV t h l r R ev) : R = ⟨0, 0⟩ ∧ ev = c := by
 obtain ⟨h1, h2⟩ := hv
 rw [hc] at h1
 rcases h2 with ⟨_, h2⟩ | ⟨h2, _⟩
 ·
  exact ⟨h2, h1⟩
 ·
  omega
theorem nm_corE {t : Tb} {h : List Rg} {l : List Ic} {r : Rd} {c : Int} (ha : askE t h l r = 0) (hr : ∀ b, refE t l r b = c) : corE t h l r = c := by
 unfold corE; rw [if_neg (by simp [ha]), hr]
theorem nm_corA {t : Tb} {h : List Rg} {l : List Ic} {r : Rd} {c : Int} (ha : askE t h l r = c) (h0 : c ≠ 0) : corE t h l r = c := by
 unfold corE; rw [if_pos (by rw [ha]; exact h0), ha]
theorem nm_broken {R : Rg} {ev : Int} (h : CorV rodT springH [] nmBroken R ev) : R = ⟨0, 0⟩ ∧ ev = 8 := nm_cor (nm_corE (by decide +kernel) (by decide +kernel)) (by omega) h
theorem nm_late {R : Rg} {ev : Int} (h : CorV rodT springH [] nmLate R ev) : R = ⟨0, 0⟩ ∧ ev = 11 := nm_cor (nm_corE (by decide +kernel) (by decide +kernel)) (by omega) h
theorem nm_ag1 : agreeB rodT.g springH [⟨1, -7, 0⟩] off0 = true := (agreeB_eq _ _ _ _).trans (by decide +kernel)
theorem nm_ag2 : agreeB rodT.g springH [⟨1, 7, 0⟩] off0 = false := (agreeB_eq _ _ _ _).trans (by decide +kernel)
theorem nm_fresh {R : Rg} {ev : Int} (h : CorV rodT springH [⟨1, -7, 0⟩] nmLate R ev) : ev = 0 := by
 have e : corE rodT springH [⟨1, -7, 0⟩] nmLate = 0 := by
  unfold corE; rw [if_neg (by simp only [ne_eq, Decidable.not_not]; decide +kernel), nm_ag1]; decide +kernel
 exact h.1.trans e
theorem nm_high {R : Rg} {ev : Int} (h : CorV rodT springH [⟨1, 7, 0⟩] shownR R ev) : R = ⟨0, 0⟩ ∧ ev = 9 := by
 have e : corE rodT springH [⟨1, 7, 0⟩] shownR = 9 := by
  unfold corE; rw [if_neg (by simp only [ne_eq, Decidable.not_not]; decide +kernel), nm_ag2]; decide +kernel
 exact nm_cor e (by omega) h
theorem nm_far {R : Rg} {ev : Int} (h : CorV rodT springH [] nmFar R ev) : R = ⟨0, 0⟩ ∧ ev = 2 := nm_cor (nm_corA (by decide +kernel) (by omega)) (by omega) h
theorem nm_out {R : Rg} {ev : Int} (h : CorV rodT springH [] nmOut R ev) : R = ⟨0, 0⟩ ∧ ev = 2 := nm_cor (nm_corA (by decide +kernel) (by omega)) (by omega) h
theorem nm_less {R : Rg} {ev : Int} (h : AccV rodT springH [] nmBroken (-1) R ev) : R = ⟨0, 0⟩ ∧ ev = 2 := by
 have ha : askE rodT springH [] nmBroken = 0 := by decide +kernel
 have e : accE rodT springH [] nmBroken (-1) = 2 := by
  unfold accE; rw [if_pos (.inr (by omega)), ha]; rfl
 rcases h with ⟨_, h2, h3⟩ | ⟨h1, _⟩
 ·
  exact ⟨h3, h2.trans e⟩
 ·
  rw [e] at h1; omega
theorem nm_no16 : ∀ k : Nat, k < 301 → okN rodT shownR ⟨-5, 0⟩ 16 (k : Int) = false := by decide +kernel
theorem nm_bare {v ev : Int} (h : BarV rodT springH [] shownR 16 v ev) : v = 0 ∧ ev = 7 := by
 rcases h with ⟨h1, _⟩ | ⟨_, _, _, _, zs, hz, hm⟩
 ·
  exact absurd (nm_acc0 (by omega)) h1
 ·
  have e : gR zs shownR.day.toNat = ⟨-5, 0⟩ := aw_zs hz
  rw [e] at hm
  rcases hm with ⟨n, h1, h2, h3, _⟩ | ⟨_, h1, h2⟩
  ·
   have := nm_no16 n.toNat (by omega)
   rw [show ((n.toNat : Nat) : Int) = n by omega, h3] at this; cases this
  ·
   exact ⟨h1, h2⟩
theorem nm_sam {rs : List Rd} {R : Rg} {ev c : Int} (hb : ∀ b, bathE rodT [] (springH.length : Int) rs b = c) (h0 : c ≠ 0) (h : SamV rodT springH [] rs R ev) : R = ⟨0, 0⟩ ∧ ev = c := by
 rcases h with ⟨h, _⟩ | ⟨_, _, h1, h2⟩ | ⟨_, h, _⟩
 ·
  exact absurd aw_use h
 ·
  exact ⟨h2, h1.trans (hb _)⟩
 ·
  rw [hb] at h; exact absurd h h0
theorem nm_same0 {R : Rg} {ev : Int} (h : SamV rodT springH [] [] R ev) : R = ⟨0, 0⟩ ∧ ev = 2 := nm_sam (by decide +kernel) (by omega) h
theorem nm_same1 {R : Rg} {ev : Int} (h : SamV rodT springH [] [shownR, nmDay1] R ev) : R = ⟨0, 0⟩ ∧ ev = 2 := nm_sam (by decide +kernel) (by omega) h
theorem nm_same6 {R : Rg} {ev : Int} (h : SamV rodT springH [] [nmZero, nmZero, nmZero, nmZero, nmZero, nmZero] R ev) : R = ⟨0, 0⟩ ∧ ev = 3 := nm_sam (by decide +kernel) (by omega) h
theorem nm_b1 : (bndP rodT shownR).lo = 2021 ∧ (bndP rodT nmCold).hi = 2012 := by decide +kernel
theorem nm_rd : RdsBd [shownR, nmCold] := fun k hk => by
 have hk' : k < 2 := hk
 match k, hk' with
 | 0, _ => exact (rdOk_iff.1 (show rdOk 4 shownR = true by decide +kernel)).2
 | 1, _ => exact (rdOk_iff.1 (show rdOk 4 nmCold = true by decide +kernel)).2
theorem nm_noK : ¬ ∃ n, SameK rodT [shownR, nmCold] n := by
 rintro ⟨n, q, hq, hs⟩
 have h1 := sayAll_bnd aw_tb nm_rd hq hs (k := 0) (by decide)
 have h2 := sayAll_bnd aw_tb nm_rd hq hs (k := 1) (by decide)
 have h3 := nm_b1
 have e0 : gE [shownR, nmCold] 0 = shownR := rfl
 have e1 : gE [shownR, nmCold] 1 = nmCold := rfl
 rw [e0, h3.1] at h1
 rw [e1, h3.2] at h2
 omega
theorem nm_same2 {R : Rg} {ev : Int} (h : SamV rodT springH [] [shownR, nmCold] R ev) : R = ⟨0, 0⟩ ∧ ev = 9 := by
 have hb : bathE rodT [] (springH.length : Int) [shownR, nmCold] (agreeB rodT.g springH [] off0) = 0 := by rw [aw_ag]; decide +kernel
 rcases h with ⟨h, _⟩ | ⟨_, h, _⟩ | ⟨_, _, zs, hz, h⟩
 ·
  exact absurd aw_use h
 ·
  exact absurd hb h
 ·
  rcases h with ⟨_, h1, h2⟩ | ⟨a, b, he, _⟩
  ·
   exact ⟨h2, h1⟩
  ·
   exact absurd ⟨_, he.1⟩ nm_noK
theorem nm_play : playE rodT shownR nmTx = 2 ∧ playV rodT shownR nmTx = 0 := by decide +kernel
theorem nm_wild : ckTube nmWild = 1 := by decide +kernel
theorem nm_bad : ckTube nmBad = 3 := by decide +kernel
theorem nm_none : ckTube nmNone = 1 := by decide +kernel
end Go.Proofs.Ytkaogjhnogkcdaa
end
