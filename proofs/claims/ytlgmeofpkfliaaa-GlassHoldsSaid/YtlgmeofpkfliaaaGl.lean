/- A region that draws its order, gone through as a tree with forks of two and of three (after XMT). · The reference's Agrees and Fits (walks). · The reference's deep (walk): all that a day's heats can sink. · The reference's map of states: its zero. · The reference's map of states: where it lies, and what a store turns; the days' steps (plain). · The reference's Ahead (plain): how far a day's loops have come. · The reference's Ahead (walk). · The reference's Agree (walk). -/
import Derived.Test.YtlgmeofpkfliaaaGj
import Derived.Test.YtlgmeofpkfliaaaGg
import Derived.Test.YtlgmeofpkfliaaaGh
import Derived.Test.YtlgmeofpkfliaaaGi
set_option linter.unusedVariables false
set_option linter.unusedSimpArgs false
set_option linter.unusedSectionVars false
section
namespace Go.Proofs.Ytlgmeofpkfliaaa
open Go.RowKit
/-- the order in which a region's operations are gone through. -/
inductive Tq where
  | done : Tq
  | quiet : Nat → Tq → Tq
  | loud : Nat → Tq → Tq
  | fork : Nat → Tq → Nat → Tq → Tq
  | fork3 : Nat → Tq → Nat → Tq → Nat → Tq → Tq
def Tq.len : Tq → Nat
  | .done => 0
  | .quiet _ t => t.len + 1
  | .loud _ t => t.len + 1
  | .fork _ t _ _ => t.len + 1
  | .fork3 _ t _ _ _ _ => t.len + 1
section
variable {P : Program} {ops : Array Oper} {md : Region.Mode} {S : World → Prop} {Q : Exit → Act → World → Prop}

def wqTr (P : Program) (ops : Array Oper) (Q : Exit → Act → World → Prop) (S : World → Prop) (T : Act → World → Prop) : Tq → Act → World → Prop
  | .done, a, w => T a w
  | .quiet k t, a, w => ∀ o, ops[k]? = some o → wpQuiet P ops S (fun a' => wqTr P ops Q S T t a' w) [o] a
  | .loud k t, a, w => wpOne P ops Q k (fun a' w' => S w' ∧ wqTr P ops Q S T t a' w') a w
  | .fork i t j u, a, w => wpOne P ops Q i (fun a' w' => S w' ∧ wqTr P ops Q S T t a' w') a w ∧ wpOne P ops Q j (fun a' w' => S w' ∧ wqTr P ops Q S T u a' w') a w
  | .fork3 i t j u k v, a, w => wpOne P ops Q i (fun a' w' => S w' ∧ wqTr P ops Q S T t a' w') a w ∧ wpOne P ops Q j (fun a' w' => S w' ∧ wqTr P ops Q S T u a' w') a w ∧ wpOne P ops Q k (fun a' w' => S w' ∧ wqTr P ops Q S T v a' w') a w

def tqB (md : Region.Mode) (ops : Array Oper) (n g : Nat) : Tq → Array Bool → Bool
  | .done, listed => Region.seqB md ops g n listed
  | .quiet k t, listed => decide (k < n) && ((Region.ready md ops listed).contains k && Region.free md ops listed k && (match ops[k]? with | some o => mute o.op | none => false)) && tqB md ops n g t (listed.setIfInBounds k true)
  | .loud k t, listed => decide (k < n) && decide (Region.ready md ops listed = [k]) && tqB md ops n g t (listed.setIfInBounds k true)
  | .fork i t j u, listed => decide (Region.ready md ops listed = [i, j]) && decide (i < n) && decide (j < n) && decide (t.len = u.len) && tqB md ops n g t (listed.setIfInBounds i true) && tqB md ops n g u (listed.setIfInBounds j true)
  | .fork3 i t j u k v, listed => decide (Region.ready md ops listed = [i, j, k]) && decide (i < n) && decide (j < n) && decide (k < n) && decide (t.len = u.len) && decide (t.len = v.len) && tqB md ops n g t (listed.setIfInBounds i true) && tqB md ops n g u (listed.setIfInBounds j true) && tqB md ops n g v (listed.setIfInBounds k true)

def tqeB (md : Region.Mode) (ops : Array Oper) (n : Nat) (t : Tq) : Bool :=
  Region.noSelect ops && decide (n < ops.size) && Region.sinkB md ops n && Region.chainB md ops n && tqB md ops n (ops.size - n) t (Array.replicate ops.size false)

theorem tq_head {n g : Nat} {T : Act → World → Prop} (hsel : Region.noSelect ops = true) (hQ : ∀ d v c a w, Q (.panic c) (a.put d v) w → Q (.panic c) a w)
    (hs : Region.sinkB md ops n = true) (hc : Region.chainB md ops n = true) (hn : n < ops.size) :
    ∀ (t : Tq) (listed : Array Bool) (a : Act) (w : World), HeadInv md ops n listed → tqB md ops n g t listed = true → S w →
      wqTr P ops Q S T t a w → wpAnyLH P md ops Q S n (fun listed' a' w' => Region.seqB md ops g n listed' = true ∧ T a' w') t.len listed a w
  | .done, listed, a, w, _, hB, _, h => ⟨hB, h⟩
  | .fork i t j u, listed, a, w, inv, hB, hS, h => by
    simp only [tqB, Bool.and_eq_true, decide_eq_true_eq] at hB
    obtain ⟨⟨⟨⟨⟨hr, hi⟩, hj⟩, hl⟩, hA⟩, hBB⟩ := hB
    refine ⟨by rw [hr]; simp, fun k hk => ?_⟩
    rw [hr] at hk
    rcases List.mem_cons.1 hk with rfl | hk
    · exact ⟨hi, wpOp_mono (fun a' w' h' => ⟨h'.1, tq_head hsel hQ hs hc hn t _ a' w' (inv.set (by rw [hr]; simp) hi) hA h'.1 h'.2⟩) (wpOp_one hn hi h.1)⟩
    · obtain rfl := List.mem_singleton.1 hk
      refine ⟨hj, wpOp_mono (fun a' w' h' => ⟨h'.1, ?_⟩) (wpOp_one hn hj h.2)⟩
      rw [hl]
      exact tq_head hsel hQ hs hc hn u _ a' w' (inv.set (by rw [hr]; simp) hj) hBB h'.1 h'.2
  | .fork3 i t j u l v, listed, a, w, inv, hB, hS, h => by
    simp only [tqB, Bool.and_eq_true, decide_eq_true_eq] at hB
    obtain ⟨⟨⟨⟨⟨⟨⟨⟨hr, hi⟩, hj⟩, hl⟩, hl1⟩, hl2⟩, hA⟩, hBB⟩, hC⟩ := hB
    refine ⟨by rw [hr]; simp, fun k hk => ?_⟩
    rw [hr] at hk
    rcases List.mem_cons.1 hk with rfl | hk
    · exact ⟨hi, wpOp_mono (fun a' w' h' => ⟨h'.1, tq_head hsel hQ hs hc hn t _ a' w' (inv.set (by rw [hr]; simp) hi) hA h'.1 h'.2⟩) (wpOp_one hn hi h.1)⟩
    · rcases List.mem_cons.1 hk with rfl | hk
      · refine ⟨hj, wpOp_mono (fun a' w' h' => ⟨h'.1, ?_⟩) (wpOp_one hn hj h.2.1)⟩
        show wpAnyLH P md ops Q S n _ t.len _ _ _
        rw [hl1]
        exact tq_head hsel hQ hs hc hn u _ a' w' (inv.set (by rw [hr]; simp) hj) hBB h'.1 h'.2
      · obtain rfl := List.mem_singleton.1 hk
        refine ⟨hl, wpOp_mono (fun a' w' h' => ⟨h'.1, ?_⟩) (wpOp_one hn hl h.2.2)⟩
        show wpAnyLH P md ops Q S n _ t.len _ _ _
        rw [hl2]
        exact tq_head hsel hQ hs hc hn v _ a' w' (inv.set (by rw [hr]; simp) hl) hC h'.1 h'.2
  | .loud k t, listed, a, w, inv, hB, hS, h => by
    simp only [tqB, Bool.and_eq_true, decide_eq_true_eq] at hB
    obtain ⟨⟨hk, hr⟩, hB'⟩ := hB
    have h' : wpOne P ops Q k (fun a' w' => S w' ∧ wqTr P ops Q S T t a' w') a w := h
    refine ⟨by rw [hr]; simp, fun x hx => ?_⟩
    rw [hr] at hx
    have hik : x = k := by simpa using hx
    subst hik
    exact ⟨hk, wpOp_mono (fun a' w' h' => ⟨h'.1, tq_head hsel hQ hs hc hn t _ a' w' (inv.set (by rw [hr]; simp) hk) hB' h'.1 h'.2⟩) (wpOp_one hn hk h')⟩
  | .quiet k t, listed, a, w, inv, hB, hS, h => by
    simp only [tqB, Bool.and_eq_true, decide_eq_true_eq] at hB
    obtain ⟨⟨hk, ⟨hr, hf⟩, hm⟩, hB'⟩ := hB
    obtain ⟨o, hk0⟩ : ∃ o, ops[k]? = some o := ⟨ops[k]'(by omega), by simp [show k < ops.size by omega]⟩
    simp only [hk0] at hm
    have h' : wpQuiet P ops S (fun a' => wqTr P ops Q S T t a' w) [o] a := h o hk0
    have hr' : k ∈ Region.ready md ops listed := by simpa using hr
    have hst : qOp P ops S k (wpQuiet P ops S (fun a' => wqTr P ops Q S T t a' w) []) a := by unfold qOp; simp only [hk0]; exact h'
    obtain ⟨v, hy, hK⟩ := yieldsIn_of_qOp hk0 hst
    exact wpAnyLH_first hk0 (Region.noSelect_spec hsel) (hQ _ _) hs hc hn hk (fun listed' a' w' hL => seqB_ready hL.1) t.len listed a w inv (Region.free_spec hk0 hf) hr' (mute_if hm hy) hS
      (tq_head hsel hQ hs hc hn t _ _ w (inv.set hr' hk) hB' hS hK)

/-- what is left of the region: a tree. -/
def wqTree (P : Program) (l : List Oper) (Q : Exit → Act → World → Prop) (S : World → Prop) (n : Nat) (t : Tq) (a : Act) (w : World) : Prop :=
  wqTr P l.toArray Q S (fun a'' w'' => wpList P l.toArray Q (l.drop n) a'' w'') t a w
theorem tq_done {l r : List Oper} {n : Nat} {a : Act} {w : World} (hr : l.drop n = r) (h : wpList P l.toArray Q r a w) : wqTree P l Q S n .done a w := by subst hr; exact h
theorem tq_loud {l : List Oper} {n k : Nat} {t : Tq} {o : Oper} {a : Act} {w : World} (ho : l[k]? = some o)
    (h : wpList P l.toArray (fun e a' w' => match e with | .normal => S w' ∧ wqTree P l Q S n t a' w' | e => Q e a' w') [o] a w) : wqTree P l Q S n (.loud k t) a w := by
  show wpOne P l.toArray Q k _ a w
  intro o' ho'
  have : o' = o := by rw [List.getElem?_toArray, ho] at ho'; exact (Option.some.inj ho').symm
  subst this
  exact h
theorem tq_quiet {l : List Oper} {n k : Nat} {t : Tq} {o : Oper} {a : Act} {w : World} (ho : l[k]? = some o)
    (h : wpQuiet P l.toArray S (fun a' => wqTree P l Q S n t a' w) [o] a) : wqTree P l Q S n (.quiet k t) a w := by
  intro o' ho'
  have : o' = o := by rw [List.getElem?_toArray, ho] at ho'; exact (Option.some.inj ho').symm
  subst this
  exact h
theorem tq_fork {l : List Oper} {n i j : Nat} {t u : Tq} {oi oj : Oper} {a : Act} {w : World} (hi : l[i]? = some oi) (hj : l[j]? = some oj)
    (h1 : wpList P l.toArray (fun e a' w' => match e with | .normal => S w' ∧ wqTree P l Q S n t a' w' | e => Q e a' w') [oi] a w)
    (h2 : wpList P l.toArray (fun e a' w' => match e with | .normal => S w' ∧ wqTree P l Q S n u a' w' | e => Q e a' w') [oj] a w) : wqTree P l Q S n (.fork i t j u) a w := by
  refine ⟨fun o' ho' => ?_, fun o' ho' => ?_⟩
  · have : o' = oi := by rw [List.getElem?_toArray, hi] at ho'; exact (Option.some.inj ho').symm
    subst this
    exact h1
  · have : o' = oj := by rw [List.getElem?_toArray, hj] at ho'; exact (Option.some.inj ho').symm
    subst this
    exact h2
theorem tq_fork3 {l : List Oper} {n i j k : Nat} {t u v : Tq} {oi oj ok : Oper} {a : Act} {w : World} (hi : l[i]? = some oi) (hj : l[j]? = some oj) (hk : l[k]? = some ok)
    (h1 : wpList P l.toArray (fun e a' w' => match e with | .normal => S w' ∧ wqTree P l Q S n t a' w' | e => Q e a' w') [oi] a w)
    (h2 : wpList P l.toArray (fun e a' w' => match e with | .normal => S w' ∧ wqTree P l Q S n u a' w' | e => Q e a' w') [oj] a w)
    (h3 : wpList P l.toArray (fun e a' w' => match e with | .normal => S w' ∧ wqTree P l Q S n v a' w' | e => Q e a' w') [ok] a w) : wqTree P l Q S n (.fork3 i t j u k v) a w := by
  refine ⟨fun o' ho' => ?_, fun o' ho' => ?_, fun o' ho' => ?_⟩
  · have : o' = oi := by rw [List.getElem?_toArray, hi] at ho'; exact (Option.some.inj ho').symm
    subst this
    exact h1
  · have : o' = oj := by rw [List.getElem?_toArray, hj] at ho'; exact (Option.some.inj ho').symm
    subst this
    exact h2
  · have : o' = ok := by rw [List.getElem?_toArray, hk] at ho'; exact (Option.some.inj ho').symm
    subst this
    exact h3
theorem wp_region_tq {id : Nat} {a : Act} {w : World} {l : List Oper} (n : Nat) (t : Tq) (S : World → Prop) (hm : P.follows .mixedOrders = true)
    (hB : (tqeB .any l.toArray n t && decide (t.len = n)) = true) (hQ : ∀ d v c a w, Q (.panic c) (a.put d v) w → Q (.panic c) a w)
    (hS : S w.drew) (h : wqTree P l Q S n t a w.drew) : (Code.region id l.toArray true).wp P Q a w := by
  simp only [tqeB, Bool.and_eq_true, decide_eq_true_eq] at hB
  obtain ⟨⟨⟨⟨⟨hsel, hn⟩, hs⟩, hc⟩, hlex⟩, hlen⟩ := hB
  have hdl : (l.drop n).length = l.toArray.size - n := by simp
  have inv0 : HeadInv .any l.toArray n (Array.replicate l.toArray.size false) :=
    ⟨by simp, fun j oj _ hl => (by rw [getD_replicate_false] at hl; cases hl), fun t _ ht => getD_in (by simpa using ht) (getD_replicate_false _ _)⟩
  have H := tq_head (md := .any) (g := l.toArray.size - n) (T := fun a'' w'' => wpList P l.toArray Q (l.drop n) a'' w'') hsel hQ hs hc hn t _ a _ inv0 hlex hS h
  refine wp_region_any hm ?_
  have := wpAny_of_headH (g := l.toArray.size - n) (fun listed' a' w' hL => by
    have := wpAny_of_seq (md := .any) (l.drop n) n listed' a' w' (fun j => by simp [List.getElem?_drop]) (by rw [hdl]; exact hL.1) hL.2
    rwa [hdl] at this) _ _ _ _ H
  rw [hlen, show n + (l.toArray.size - n) = l.toArray.size by omega] at this
  exact this
theorem wp_region_ext_tq {id : Nat} {a : Act} {w : World} {l : List Oper} (n : Nat) (t : Tq) (hm : P.follows .mixedOrders = true)
    (hB : (tqeB .any l.toArray n t && decide (t.len = n)) = true) (hQ : ∀ d v c a w, Q (.panic c) (a.put d v) w → Q (.panic c) a w)
    (h : wqTree P l Q (fun w' => ∃ x : Ex w, w' = x.W) n t a w.drew) : (Code.region id l.toArray true).wp P Q a w :=
  wp_region_tq n t _ hm hB hQ (inEx (Below.refl w.heap.size w).drew) h
end
end Go.Proofs.Ytlgmeofpkfliaaa
end

section
namespace Go.Proofs.Ytlgmeofpkfliaaa
open Go.RowKit
attribute [local go_sem] Ex.cell? Ex.frozen?

set_option maxHeartbeats 800000 in
theorem Agrees_any (d x er z : Int) (w : World) (h1 : -100000 ≤ x ∧ x ≤ 100000) (h2 : 0 ≤ er ∧ er ≤ 100000) (h3 : -100000 ≤ z ∧ z ≤ 100000) :
    Calls Try.prog 79 #[.agg #[.int .i64 d, .int .i64 x, .int .i64 er], .int .i64 z] w fun e w' => e = .returned (.bool (inB (z - x) (-er) er)) ∧ Below w.heap.size w w' := by
  have hb1 := ex_alloc (Below.refl w.heap.size w) (.cells #[.int .i64 d, .int .i64 x, .int .i64 er] 62)
  go_enter Try.func79, Try.ntmps79
  go_wp2_with fail
  refine (In_any _ _ _ _).mono ?_
  rintro e w' ⟨rfl, rfl⟩
  go_wp2
  go_ret
  exact ⟨rfl, hb1⟩

theorem fits_all {l : List Ic} {o : Nat → Bool} {d z : Int} (h : ∀ j, j < l.length → fitOk l o d z j = true) : fitsB l o d z = true := by unfold fitsB; exact allTo_iff.2 h
theorem fits_bad {l : List Ic} {o : Nat → Bool} {d z : Int} {k : Nat} (hk : k < l.length) (h : fitOk l o d z k = false) : fitsB l o d z = false := by
  cases hf : fitsB l o d z
  · rfl
  · unfold fitsB at hf; rw [allTo_iff.1 hf k hk] at h; cases h

set_option maxRecDepth 100000 in
set_option maxHeartbeats 1600000 in
theorem Fits_any (A B : Option Addr) (c b : Nat) (l : List Ic) (R : List Int) (day z : Int) (w : World) (hl : l.length ≤ 1000000) (hR : R.length ≤ 1000000) (hA : SlAt w w.heap.size 3 A l.length (fC l)) (hB : SlAt w w.heap.size 1 B R.length (fI R)) (hbd : IcesBd l) (h3 : -100000 ≤ z ∧ z ≤ 100000) :
    Calls Try.prog 49 #[.slice A l.length c, .slice B R.length b, .int .i64 day, .int .i64 z] w fun e w' => e = .returned (.bool (fitsB l (fun j => hasB R (j : Int)) day z)) ∧ Below w.heap.size w w' := by
  have HBD := Lib.hid hbd
  clear hbd
  go_enter Try.func49, Try.ntmps49
  go_wp2_with fail
  go_loopw [9] (fun i wr => ∃ k : Nat, k ≤ l.length ∧ i = .int .i64 k ∧ (∀ j, j < k → fitOk l (fun j => hasB R (j : Int)) day z j = true) ∧ Below w.heap.size w wr) (fun i _ => l.length - (intOf i).toNat)
  case atStart => exact ⟨0, by omega, rfl, fun j hj => by omega, Below.refl _ _⟩
  case round =>
    obtain ⟨k, hk, rfl, hno, hbl⟩ := hrel
    have HNO := Lib.hid hno
    clear hno
    by_cases hlt : k < l.length
    · obtain ⟨ba, off, rfl, hba, c0, c1, c2⟩ := IsIcs.at_ (hA.below hbl) hlt
      obtain ⟨b1, b2⟩ := HBD.out k hlt
      have hws := hbl.size
      have hba' : ba < wr.heap.size := by omega
      have HF : Hid (fitOk l (fun j => hasB R (j : Int)) day z k = !(((gC l k).day == day) && (!hasB R (k : Int) && !inB (z - (gC l k).zero) (-(gC l k).err) (gC l k).err))) := Lib.hid rfl
      have HNEXT := Lib.hid (fun (ht : fitOk l (fun j => hasB R (j : Int)) day z k = true) => show ∀ j, j < k + 1 → fitOk l (fun j => hasB R (j : Int)) day z j = true from fun j hj => by rcases Nat.lt_succ_iff_lt_or_eq.1 hj with h | h; exact HNO.out j h; rw [h]; exact ht)
      have HBAD := Lib.hid (fun (ht : fitOk l (fun j => hasB R (j : Int)) day z k = false) => fits_bad hlt ht)
      generalize hE_icd : (gC l k).day = icd at *
      have HE_icd := Lib.hid hE_icd
      clear hE_icd
      generalize hE_icz : (gC l k).zero = icz at *
      have HE_icz := Lib.hid hE_icz
      clear hE_icz
      generalize hE_ice : (gC l k).err = ice at *
      have HE_ice := Lib.hid hE_ice
      clear hE_ice
      cases v1 : icd == day
      · have HT : Hid (fitOk l (fun j => hasB R (j : Int)) day z k = true) := Lib.hid (by rw [HF.out, v1]; rfl)
        go_wp2
        go_roundw
        case rel => exact ⟨k + 1, by omega, by go_num, HNEXT.out HT.out, hbl⟩
        case measure => simp [intOf]; omega
      · go_wp2_with fail
        refine (Has_any _ _ R _ _ hR ((hB.below hbl).up hbl.size)).mono ?_
        rintro e w2 ⟨rfl, hb2⟩
        have hB2 := ex_trans hbl hb2
        cases v2 : hasB R (k : Int)
        · obtain ⟨_, _, eA, _, c0', c1', c2'⟩ := IsIcs.at_ (hA.below hB2) hlt
          injection eA with eA
          injection eA with eA1 eA2
          subst eA1 eA2
          rw [HE_icd.out] at c0'
          rw [HE_icz.out] at c1'
          rw [HE_ice.out] at c2'
          have hba2 : ba < w2.heap.size := by have := hb2.size; omega
          go_wp2_with fail
          refine (Agrees_any _ _ _ _ _ b1 b2 h3).mono ?_
          rintro e w3 ⟨rfl, hb3⟩
          have hB3 := ex_trans hB2 hb3
          cases v3 : inB (z - icz) (-ice) ice
          · have HT : Hid (fitOk l (fun j => hasB R (j : Int)) day z k = false) := Lib.hid (by rw [HF.out, v1, v2, v3]; rfl)
            go_wp2
            go_ret
            exact ⟨by rw [HBAD.out HT.out]; rfl, hB3⟩
          · have HT : Hid (fitOk l (fun j => hasB R (j : Int)) day z k = true) := Lib.hid (by rw [HF.out, v3]; simp)
            go_wp2
            go_roundw
            case rel => exact ⟨k + 1, by omega, by go_num, HNEXT.out HT.out, hB3⟩
            case measure => simp [intOf]; omega
        · have HT : Hid (fitOk l (fun j => hasB R (j : Int)) day z k = true) := Lib.hid (by rw [HF.out, v2]; simp)
          go_wp2
          go_roundw
          case rel => exact ⟨k + 1, by omega, by go_num, HNEXT.out HT.out, hB2⟩
          case measure => simp [intOf]; omega
    · have HK : Hid (k = l.length) := Lib.hid (by omega)
      go_wp2
      go_ret
      exact ⟨by rw [fits_all (fun j hj => HNO.out j (by rw [HK.out]; exact hj))]; rfl, hbl⟩

end Go.Proofs.Ytlgmeofpkfliaaa
end

section
namespace Go.Proofs.Ytlgmeofpkfliaaa
open Go.RowKit
attribute [local go_sem] Ex.cell? Ex.frozen?

def DeepIs (g : Gl) (lo : Int) (k : Nat) (L : List Int) : Prop := L.length ≤ k ∧ ∀ y, y ∈ L ↔ ∃ j : Nat, j < k ∧ y = sinks g (lo + j)
theorem DeepIs.has {g : Gl} {lo : Int} {k : Nat} {L : List Int} (h : DeepIs g lo k L) (hh : hasB L (sinks g (lo + k)) = true) : DeepIs g lo (k + 1) L := by
  have hm : sinks g (lo + k) ∈ L := of_decide_eq_true hh
  refine ⟨by have := h.1; omega, fun y => ?_⟩
  rw [h.2]
  constructor
  · rintro ⟨j, h1, h2⟩; exact ⟨j, by omega, h2⟩
  · rintro ⟨j, h1, h2⟩
    rcases Nat.lt_succ_iff_lt_or_eq.1 h1 with h3 | h3
    · exact ⟨j, h3, h2⟩
    · subst h3; rw [h2]; exact (h.2 _).1 hm
theorem DeepIs.more {g : Gl} {lo : Int} {k : Nat} {L : List Int} (h : DeepIs g lo k L) : DeepIs g lo (k + 1) (L ++ [sinks g (lo + k)]) := by
  refine ⟨by have := h.1; simp; omega, fun y => ?_⟩
  rw [List.mem_append, List.mem_singleton, h.2]
  constructor
  · rintro (⟨j, h1, h2⟩ | h2)
    · exact ⟨j, by omega, h2⟩
    · exact ⟨k, by omega, h2⟩
  · rintro ⟨j, h1, h2⟩
    rcases Nat.lt_succ_iff_lt_or_eq.1 h1 with h3 | h3
    · exact .inl ⟨j, h3, h2⟩
    · subst h3; exact .inr h2

set_option maxRecDepth 100000 in
set_option maxHeartbeats 3200000 in
theorem deepR_any (g : Gl) (Ab Ad : Option Addr) (cb cd : Nat) (lo hi : Int) (w : World) (hg : GlIn w w.heap.size g Ab Ad) (hok : g.depths.length ≤ 1000000) (h0 : 0 ≤ lo) (h1 : lo ≤ hi) (h2 : hi ≤ 500) :
    Calls Try.prog 61 #[.agg #[.int .i64 g.base, .slice Ab g.bands.length cb, .slice Ad g.depths.length cd, .int .i64 g.blo, .int .i64 g.bhi], .agg #[.int .i64 lo, .int .i64 hi]] w fun e w' => (∃ v L, e = .returned v ∧ w'.ownsRow w.heap.size 3 1 v L.length (L.map (Value.int .i64)) ∧ DeepIs g lo (hi - lo + 1).toNat L) ∧ Below w.heap.size w w' := by
  obtain ⟨i0, hi0, hz0, hz1, hz2⟩ := info_parts int_info
  have HI := Lib.hid hi0
  clear hi0
  have hb1 := ex_alloc (ex_alloc (Below.refl w.heap.size w) (.cells #[.int .i64 g.base, .slice Ab g.bands.length cb, .slice Ad g.depths.length cd, .int .i64 g.blo, .int .i64 g.bhi] 27)) (.cells #[.int .i64 lo, .int .i64 hi] 25)
  go_enter Try.func61, Try.ntmps61
  go_wp2_with fail
  go_loopw [5, 6] (fun v i wr => ∃ (k : Nat) (L : List Int), (k : Int) ≤ hi - lo + 1 ∧ i = .int .i64 (lo + k) ∧ Below w.heap.size w wr ∧ Blk wr w.heap.size 27 #[.int .i64 g.base, .slice Ab g.bands.length cb, .slice Ad g.depths.length cd, .int .i64 g.blo, .int .i64 g.bhi] ∧ Blk wr (w.heap.size + 1) 25 #[.int .i64 lo, .int .i64 hi] ∧
      wr.ownsRow (w.heap.size + 1 + 1) 3 1 v L.length (L.map (Value.int .i64)) ∧ DeepIs g lo k L)
    (fun _ i _ => (hi + 1 - intOf i).toNat)
  case atStart => exact ⟨0, [], by omega, by simp, hb1, (Blk.new _ _ _).alloc _, Blk.new' _ _ _ (by simp), ⟨rfl, .inl ⟨rfl, rfl⟩⟩, ⟨Nat.le_refl _, fun y => by simp⟩⟩
  case round =>
    obtain ⟨k, L, hk, rfl, hbl, q1, q2, hown, hD⟩ := hrel
    obtain ⟨A, c, rfl, _, hs⟩ := own_sl hown
    have HD := Lib.hid hD
    have hLk := hD.1
    clear hD
    have c0 : wr.cell? ⟨w.heap.size + 1, 0, none⟩ = some (.int .i64 lo) := q2.cell 0
    have c1 : wr.cell? ⟨w.heap.size + 1, 1, none⟩ = some (.int .i64 hi) := q2.cell 1
    have l2 := q2.lt
    by_cases hlt : lo + (k : Int) ≤ hi
    · have a0 : wr.cell? ⟨w.heap.size, 0, none⟩ = some (.int .i64 g.base) := q1.cell 0
      have a1 : wr.cell? ⟨w.heap.size, 1, none⟩ = some (.slice Ab g.bands.length cb) := q1.cell 1
      have a2 : wr.cell? ⟨w.heap.size, 2, none⟩ = some (.slice Ad g.depths.length cd) := q1.cell 2
      have a3 : wr.cell? ⟨w.heap.size, 3, none⟩ = some (.int .i64 g.blo) := q1.cell 3
      have a4 : wr.cell? ⟨w.heap.size, 4, none⟩ = some (.int .i64 g.bhi) := q1.cell 4
      have l1 := q1.lt
      go_wp2_with fail
      refine (SinksR_any g _ _ _ _ (lo + (k : Int)) _ ((hg.below hbl).up hbl.size) hok).mono ?_
      rintro e x1 ⟨rfl, hx1⟩
      obtain ⟨y, hy⟩ : ∃ y, sinksTo g.depths (lo + (k : Int)) g.depths.length = y := ⟨_, rfl⟩
      rw [hy]
      have HY : Hid (sinks g (lo + (k : Int)) = y) := Lib.hid hy
      clear hy
      go_wp2_with fail
      refine (Has_any _ _ L y _ (by omega) ((hs.below hx1).up hx1.size)).mono ?_
      rintro e x2 ⟨rfl, hx2⟩
      have hX := ex_trans hx1 hx2
      have hB := ex_trans hbl hX
      cases v1 : hasB L y
      · have y4 := (own_below hown hX).alloc (.cells #[.int .i64 y] 3)
        have c63 : L.length + 1 ≤ maxLen := by unfold maxLen; omega
        have cby : (L.length + 1) * 8 ≤ 140737488355328 := by omega
        have hws := hX.size
        have hbase : w.heap.size + 1 + 1 ≤ (x2.alloc (.cells #[.int .i64 y] 3)).heap.size := by simp; omega
        go_wp2_with (at_builtin; refine wpList_append_lies _ rfl _ _ _ rfl (w.heap.size + 1 + 1) 3 i0 _ 1 8 Try.underlying54 HI.out hz0 hz1 hz2 rfl (by omega) (.slice A L.length c) _ _ rfl y4 ⟨x2.heap.size, 0, none⟩ 1 1 [.int .i64 y] rfl rfl (World.news_of_block (heap_alloc_new x2 _)) (by simp [Value.oneCell']) (by omega) c63 cby hbase (x2.heap.size + 1) (by simp) ?_; intro gg cap w1 hown' hgrow hat hlt')
        go_roundw
        case rel => exact ⟨k + 1, L ++ [y], by omega, by go_num, (ex_alloc hB _).grown hgrow (by simp; omega) (fun j hj => Nat.le_trans (by omega) (own_ge hown hj)), ((q1.below hX q1.lt).alloc _).grown hgrow (own_blk hown (by omega)), ((q2.below hX q2.lt).alloc _).grown hgrow (own_blk hown (by omega)), own_snoc rfl hown', by rw [← HY.out]; exact HD.out.more⟩
        case measure => simp [intOf]; omega
      · go_wp2
        go_roundw
        case rel => exact ⟨k + 1, L, by omega, by go_num, hB, q1.below hX q1.lt, q2.below hX q2.lt, own_below hown hX, HD.out.has (by rw [HY.out]; exact v1)⟩
        case measure => simp [intOf]; omega
    · have HK : Hid (k = (hi - lo + 1).toNat) := Lib.hid (by omega)
      go_wp2
      go_ret
      exact ⟨⟨_, rfl, L, own_base hown (by omega), by rw [← HK.out]; exact HD.out⟩, hbl⟩

end Go.Proofs.Ytlgmeofpkfliaaa
end

section
namespace Go.Proofs.Ytlgmeofpkfliaaa
open Go.RowKit

def isF : Value → Bool
  | .bool b => !b
  | _ => false
theorem isF_iff {v : Value} (h : isF v = true) : v = .bool false := by
  cases v <;> simp [isF] at h
  rw [h]
/-- so many, all false. -/
def chkF : List Value → Nat → Bool
  | [], n => n == 0
  | v :: l, n => match n with
    | 0 => false
    | n + 1 => isF v && chkF l n
theorem chkF_iff : ∀ {l : List Value} {n : Nat}, chkF l n = true → l.length = n ∧ ∀ v ∈ l, v = .bool false
  | [], n, h => by
    simp [chkF] at h
    exact ⟨by simp [h], fun v hv => by cases hv⟩
  | v :: l, 0, h => by simp [chkF] at h
  | v :: l, n + 1, h => by
    simp only [chkF, Bool.and_eq_true] at h
    obtain ⟨h1, h2⟩ := chkF_iff h.2
    refine ⟨by rw [List.length_cons, h1], fun u hu => ?_⟩
    rcases List.mem_cons.1 hu with rfl | hu
    · exact isF_iff h.1
    · exact h2 u hu
def mapZ (i : Option TypeInfo) : Bool := match i with
  | some i => (match i.zero with
    | some (.agg c) => chkF c.toList 27404
    | _ => false)
  | none => false
set_option maxRecDepth 1000000 in
theorem map_ok : mapZ (Try.prog.info? 120) = true := by kernel_rfl
theorem map_parts : ∃ i c, Try.prog.info? 120 = some i ∧ i.zero = some (.agg c) ∧ c.size = 27404 ∧ ∀ k, k < 27404 → c[k]? = some (.bool false) := by
  have h := map_ok
  generalize Try.prog.info? 120 = o at h
  unfold mapZ at h
  split at h
  · rename_i i
    split at h
    · rename_i c hz
      obtain ⟨h1, h2⟩ := chkF_iff h
      refine ⟨i, c, rfl, hz, by simpa using h1, fun k hk => ?_⟩
      have hk' : k < c.size := by rw [show c.size = 27404 by simpa using h1]; exact hk
      rw [Array.getElem?_eq_getElem hk']
      exact congrArg some (h2 _ (by simp))
    · cases h
  · cases h
end Go.Proofs.Ytlgmeofpkfliaaa
end

section
namespace Go.Proofs.Ytlgmeofpkfliaaa
open Go.RowKit
attribute [local go_sem] Ex.cell? Ex.frozen?

theorem run_alloc_map : ∃ oc : Array Value, oc.size = 27404 ∧ (∀ k, k < 27404 → oc[k]? = some (.bool false)) ∧ ∀ W : World, (Instr.alloc 120 true (.tuple #[])).run Try.prog W = .ok (.pointer (some ⟨W.heap.size, 0, none⟩)) (W.alloc (.cells oc 120)) := by
  obtain ⟨i, c, hi, hz, h1, h2⟩ := map_parts
  refine ⟨c, h1, h2, fun W => ?_⟩
  simp [Instr.alloc, zeroValue, typeInfo, newVar, newRow, newObj, hi, hz, go_sem]
  rfl

/-- block q is a map of states: M by day, rise, sink. -/
def MapAt (W : World) (q : Nat) (M : Nat → Nat → Nat → Bool) : Prop :=
  ∃ cs, Blk W q 120 cs ∧ cs.size = 27404 ∧ ∀ d r s, d < 17 → r < 52 → s < 31 → cs[d * 1612 + r * 31 + s]? = some (.bool (M d r s))
def upd (M : Nat → Nat → Nat → Bool) (d r s : Nat) : Nat → Nat → Nat → Bool := fun d' r' s' => if d' = d ∧ r' = r ∧ s' = s then true else M d' r' s'
theorem upd_self {M : Nat → Nat → Nat → Bool} {d r s : Nat} : upd M d r s d r s = true := by simp [upd]
theorem upd_mono {M : Nat → Nat → Nat → Bool} {d r s d' r' s' : Nat} (h : M d' r' s' = true) : upd M d r s d' r' s' = true := by
  unfold upd; split
  · rfl
  · exact h
theorem upd_iff {M : Nat → Nat → Nat → Bool} {d r s d' r' s' : Nat} : upd M d r s d' r' s' = true ↔ (d' = d ∧ r' = r ∧ s' = s) ∨ M d' r' s' = true := by
  unfold upd
  split
  · rename_i h; exact ⟨fun _ => .inl h, fun _ => rfl⟩
  · rename_i h; exact ⟨fun k => .inr k, fun k => k.resolve_left h⟩
section
variable {W W' : World} {q : Nat} {M : Nat → Nat → Nat → Bool}
theorem MapAt.lt (h : MapAt W q M) : q < W.heap.size := by obtain ⟨_, h1, _⟩ := h; exact h1.lt
theorem MapAt.cell (h : MapAt W q M) {d r s : Nat} (hd : d < 17) (hr : r < 52) (hs : s < 31) : W.cell? ⟨q, d * 1612 + r * 31 + s, none⟩ = some (.bool (M d r s)) := by
  obtain ⟨cs, h1, _, h2⟩ := h
  rw [h1.cell]; exact h2 d r s hd hr hs
theorem MapAt.frozen (h : MapAt W q M) (i : Nat) : W.frozen? ⟨q, i, none⟩ = false := by obtain ⟨_, h1, _⟩ := h; exact h1.frozen i
theorem MapAt.below (h : MapAt W q M) (hb : Below W.heap.size W W') : MapAt W' q M := by
  obtain ⟨cs, h1, h2⟩ := h
  exact ⟨cs, h1.below hb h1.lt, h2⟩
theorem MapAt.set (h : MapAt W q M) {d r s : Nat} (hd : d < 17) (hr : r < 52) (hs : s < 31) : MapAt (W.setCell ⟨q, d * 1612 + r * 31 + s, none⟩ (.bool true)) q (upd M d r s) := by
  obtain ⟨cs, h1, h2, h3⟩ := h
  refine ⟨cs.setIfInBounds (d * 1612 + r * 31 + s) (.bool true), h1.set_ _ _, by simpa using h2, fun d' r' s' hd' hr' hs' => ?_⟩
  rw [Array.getElem?_setIfInBounds]
  by_cases he : d' = d ∧ r' = r ∧ s' = s
  · obtain ⟨rfl, rfl, rfl⟩ := he
    rw [if_pos rfl, if_pos (by omega), upd_self]
  · rw [if_neg (by omega), h3 d' r' s' hd' hr' hs']
    simp [upd, he]
theorem MapAt.new {oc : Array Value} (W : World) (h1 : oc.size = 27404) (h2 : ∀ k, k < 27404 → oc[k]? = some (.bool false)) : MapAt (W.alloc (.cells oc 120)) W.heap.size (fun _ _ _ => false) :=
  ⟨oc, Blk.new _ _ _, h1, fun d r s hd hr hs => h2 _ (by omega)⟩
end

/-- what can be on each day, so far as days go. -/
def Known (g : Gl) (h : List Rg) (l : List Ic) (o : Nat → Bool) (M : Nat → Nat → Nat → Bool) (d : Nat) : Prop := ∀ e r s : Nat, e ≤ d → r < 52 → s < 31 → (M e r s = true ↔ Can g h l o e ((r : Int), (s : Int)))
def Blank (M : Nat → Nat → Nat → Bool) (d : Nat) : Prop := ∀ e r s : Nat, d < e → M e r s = false
/-- one item of a day: from (r, s) by a creep, a back, a depth. -/
def Got (g : Gl) (l : List Ic) (o : Nat → Bool) (D : List Int) (d r s : Nat) (c b : Int) (k : Nat) (M : Nat → Nat → Nat → Bool) : Prop :=
  fitsB l o (d : Int) (g.base + ((r : Int) + c) - mx3 ((s : Int) - b) 0 (gI D k)) = true → M (d + 1) ((r : Int) + c).toNat (mx3 ((s : Int) - b) 0 (gI D k)).toNat = true
theorem Got.mono {g : Gl} {l : List Ic} {o : Nat → Bool} {D : List Int} {d r s : Nat} {c b : Int} {k : Nat} {M M' : Nat → Nat → Nat → Bool} (h : Got g l o D d r s c b k M) (hm : ∀ x y, M (d + 1) x y = true → M' (d + 1) x y = true) : Got g l o D d r s c b k M' := fun hf => hm _ _ (h hf)
theorem known0 {g : Gl} {h : List Rg} {l : List Ic} {o : Nat → Bool} : Known g h l o (upd (fun _ _ _ => false) 0 0 0) 0 := fun e r s he hr hs => by
  obtain rfl : e = 0 := by omega
  rw [upd_iff]
  constructor
  · rintro (⟨_, rfl, rfl⟩ | h)
    · rfl
    · cases h
  · intro h
    have h' : (((r : Nat) : Int), ((s : Nat) : Int)) = ((0 : Int), (0 : Int)) := h
    simp only [Prod.mk.injEq] at h'
    exact .inl ⟨rfl, by omega, by omega⟩
/-- a day's end: all items are in, and nothing else. -/
theorem known_succ {g : Gl} {h : List Rg} {l : List Ic} {o : Nat → Bool} (hok : Ok g h) {D : List Int} {d : Nat} (hd : d < h.length) {M : Nat → Nat → Nat → Bool} (hD : ∀ y : Int, (∃ k, k < D.length ∧ gI D k = y) ↔ ∃ x, ((gR h d).lo ≤ x ∧ x ≤ (gR h d).hi) ∧ y = sinks g x)
    (hk : Known g h l o M d) (hs : ∀ r s : Nat, M (d + 1) r s = true → Can g h l o (d + 1) ((r : Int), (s : Int)))
    (hc : ∀ r s : Nat, r < 49 → s < 31 → M d r s = true → ∀ c b : Int, (creep g d).lo ≤ c → c ≤ (creep g d).hi → g.blo ≤ b → b ≤ g.bhi → ∀ k, k < D.length → Got g l o D d r s c b k M) : Known g h l o M (d + 1) := by
  intro e r s he hr hs'
  rcases Nat.eq_or_lt_of_le he with rfl | hlt
  rotate_left
  · exact hk e r s (by omega) hr hs'
  refine ⟨hs r s, fun hcan => ?_⟩
  obtain ⟨⟨a1, a2⟩, h1, h2, h3⟩ := hcan
  obtain ⟨σ, p, _, e1⟩ := (can_iff hok (by omega)).1 h1
  have hb := path_bd hok p (d := d) (Nat.le_refl _)
  rw [e1] at hb
  simp only at hb
  obtain ⟨x, b, c, hx, hb', hc', ht⟩ := (mem_nextL hok hd).1 h2
  have hnh := hok.nh
  obtain ⟨k, hk1, hk2⟩ := (hD _).2 ⟨x, hx, rfl⟩
  have hm : M d a1.toNat a2.toNat = true := (hk d a1.toNat a2.toNat (Nat.le_refl _) (by omega) (by omega)).2 (by rw [Int.toNat_of_nonneg (by omega), Int.toNat_of_nonneg (by omega)]; exact h1)
  have hg := hc a1.toNat a2.toNat (by omega) (by omega) hm c b hc'.1 hc'.2 hb'.1 hb'.2 k hk1
  unfold Got at hg
  rw [Int.toNat_of_nonneg (by omega), Int.toNat_of_nonneg (by omega), hk2] at hg
  simp only [Prod.mk.injEq] at ht
  obtain ⟨t1, t2⟩ := ht
  rw [← t1, ← t2] at hg
  have := hg (by
    have e2 : g.base + (r : Int) - (s : Int) = zero g ((r : Int), (s : Int)) := rfl
    rw [e2]; exact h3)
  simpa using this
/-- each item is a state that can be. -/
theorem item_can {g : Gl} {h : List Rg} {l : List Ic} {o : Nat → Bool} (hok : Ok g h) {D : List Int} {d : Nat} (hd : d < h.length) {M : Nat → Nat → Nat → Bool} (hD : ∀ y : Int, (∃ k, k < D.length ∧ gI D k = y) ↔ ∃ x, ((gR h d).lo ≤ x ∧ x ≤ (gR h d).hi) ∧ y = sinks g x)
    (hk : Known g h l o M d) {r s : Nat} (hr : r < 52) (hs : s < 31) (hm : M d r s = true) {c b : Int} (hc : (creep g d).lo ≤ c ∧ c ≤ (creep g d).hi) (hb : g.blo ≤ b ∧ b ≤ g.bhi) {k : Nat} (hkD : k < D.length)
    (hf : fitsB l o (d : Int) (g.base + ((r : Int) + c) - mx3 ((s : Int) - b) 0 (gI D k)) = true) : Can g h l o (d + 1) ((r : Int) + c, mx3 ((s : Int) - b) 0 (gI D k)) := by
  obtain ⟨x, hx, hy⟩ := (hD _).1 ⟨k, hkD, rfl⟩
  exact ⟨((r : Int), (s : Int)), (hk d r s (Nat.le_refl _) hr hs).1 hm, (mem_nextL hok hd).2 ⟨x, b, c, hx, hb, hc, by rw [hy]⟩, hf⟩
end Go.Proofs.Ytlgmeofpkfliaaa
end

section
namespace Go.Proofs.Ytlgmeofpkfliaaa

section
variable (g : Gl) (h : List Rg) (l : List Ic) (o : Nat → Bool) (D : List Int) (d : Nat)
/-- all items up to (n, m, c, b, k), in the loops' order, are in. -/
structure PP (n m : Nat) (c b : Int) (k : Nat) (M : Nat → Nat → Nat → Bool) : Prop where
  known : Known g h l o M d
  blank : Blank M (d + 1)
  sound : ∀ r s : Nat, M (d + 1) r s = true → Can g h l o (d + 1) ((r : Int), (s : Int))
  p2 : ∀ r s : Nat, r < n → s < 31 → M d r s = true → ∀ c b : Int, (creep g d).lo ≤ c → c ≤ (creep g d).hi → g.blo ≤ b → b ≤ g.bhi → ∀ k, k < D.length → Got g l o D d r s c b k M
  p3 : ∀ s : Nat, s < m → M d n s = true → ∀ c b : Int, (creep g d).lo ≤ c → c ≤ (creep g d).hi → g.blo ≤ b → b ≤ g.bhi → ∀ k, k < D.length → Got g l o D d n s c b k M
  p4 : ∀ c' b : Int, (creep g d).lo ≤ c' → c' < c → g.blo ≤ b → b ≤ g.bhi → ∀ k, k < D.length → Got g l o D d n m c' b k M
  p5 : ∀ b' : Int, g.blo ≤ b' → b' < b → ∀ k, k < D.length → Got g l o D d n m c b' k M
  p6 : ∀ k', k' < k → Got g l o D d n m c b k' M
end
section
variable {g : Gl} {h : List Rg} {l : List Ic} {o : Nat → Bool} {D : List Int} {d n m k : Nat} {c b : Int} {M : Nat → Nat → Nat → Bool}
theorem PP.start (hk : Known g h l o M d) (hb : Blank M d) : PP g h l o D d 0 0 (creep g d).lo g.blo 0 M :=
  ⟨hk, fun e r s he => hb e r s (by omega), fun r s hm => by rw [hb (d + 1) r s (by omega)] at hm; exact absurd hm (by simp), fun r s hr => by omega, fun s hs => by omega, fun c' b h1 h2 => by omega, fun b' h1 h2 => by omega, fun k' hk' => by omega⟩
theorem PP.no (p : PP g h l o D d n m c b k M) (hf : fitsB l o (d : Int) (g.base + ((n : Int) + c) - mx3 ((m : Int) - b) 0 (gI D k)) = false) : PP g h l o D d n m c b (k + 1) M :=
  ⟨p.known, p.blank, p.sound, p.p2, p.p3, p.p4, p.p5, fun k' hk' => by
    rcases Nat.lt_succ_iff_lt_or_eq.1 hk' with h1 | h1
    · exact p.p6 k' h1
    · subst h1; intro hf'; rw [hf] at hf'; cases hf'⟩
theorem PP.yes (p : PP g h l o D d n m c b k M) {x y : Nat} (hx : x = ((n : Int) + c).toNat) (hy : y = (mx3 ((m : Int) - b) 0 (gI D k)).toNat) (hcan : Can g h l o (d + 1) ((x : Int), (y : Int))) : PP g h l o D d n m c b (k + 1) (upd M (d + 1) x y) := by
  have hm : ∀ r s, M (d + 1) r s = true → upd M (d + 1) x y (d + 1) r s = true := fun r s h => upd_mono h
  have hd : ∀ e r s, e ≠ d + 1 → upd M (d + 1) x y e r s = M e r s := fun e r s he => by unfold upd; rw [if_neg (fun h => he h.1)]
  refine ⟨fun e r s he hr hs => by rw [hd e r s (by omega)]; exact p.known e r s he hr hs, fun e r s he => by rw [hd e r s (by omega)]; exact p.blank e r s he, fun r s h => ?_, fun r s hr hs hM => ?_, fun s hs hM => ?_, fun c' b' h1 h2 h3 h4 k' hk' => (p.p4 c' b' h1 h2 h3 h4 k' hk').mono hm, fun b' h1 h2 k' hk' => (p.p5 b' h1 h2 k' hk').mono hm, fun k' hk' => ?_⟩
  · rw [upd_iff] at h
    rcases h with ⟨_, rfl, rfl⟩ | h
    · exact hcan
    · exact p.sound r s h
  · rw [hd d r s (by omega)] at hM
    exact fun c' b' h1 h2 h3 h4 k' hk' => (p.p2 r s hr hs hM c' b' h1 h2 h3 h4 k' hk').mono hm
  · rw [hd d n s (by omega)] at hM
    exact fun c' b' h1 h2 h3 h4 k' hk' => (p.p3 s hs hM c' b' h1 h2 h3 h4 k' hk').mono hm
  · rcases Nat.lt_succ_iff_lt_or_eq.1 hk' with h1 | h1
    · exact (p.p6 k' h1).mono hm
    · subst h1; intro _; rw [← hx, ← hy]; exact upd_self
theorem PP.back (p : PP g h l o D d n m c b D.length M) : PP g h l o D d n m c (b + 1) 0 M :=
  ⟨p.known, p.blank, p.sound, p.p2, p.p3, p.p4, fun b' h1 h2 k hk => by
    rcases Int.lt_or_eq_of_le (show b' ≤ b by omega) with h3 | h3
    · exact p.p5 b' h1 h3 k hk
    · subst h3; exact p.p6 k hk, fun k hk => by omega⟩
theorem PP.creep (p : PP g h l o D d n m c b 0 M) (hb : g.bhi < b) : PP g h l o D d n m (c + 1) g.blo 0 M :=
  ⟨p.known, p.blank, p.sound, p.p2, p.p3, fun c' b' h1 h2 h3 h4 k hk => by
    rcases Int.lt_or_eq_of_le (show c' ≤ c by omega) with h5 | h5
    · exact p.p4 c' b' h1 h5 h3 h4 k hk
    · subst h5; exact p.p5 b' h3 (by omega) k hk, fun b' h1 h2 => by omega, fun k hk => by omega⟩
theorem PP.sink (p : PP g h l o D d n m c g.blo 0 M) (hc : (Go.Proofs.Ytlgmeofpkfliaaa.creep g d).hi < c ∨ M d n m = false) : PP g h l o D d n (m + 1) (Go.Proofs.Ytlgmeofpkfliaaa.creep g d).lo g.blo 0 M :=
  ⟨p.known, p.blank, p.sound, p.p2, fun s hs hM c' b' h1 h2 h3 h4 k hk => by
    rcases Nat.lt_succ_iff_lt_or_eq.1 hs with h5 | h5
    · exact p.p3 s h5 hM c' b' h1 h2 h3 h4 k hk
    · subst h5
      rcases hc with hc | hc
      · exact p.p4 c' b' h1 (by omega) h3 h4 k hk
      · rw [hc] at hM; exact absurd hM (by simp), fun c' b' h1 h2 => by omega, fun b' h1 h2 => by omega, fun k hk => by omega⟩
theorem PP.rise (p : PP g h l o D d n 31 c b 0 M) : PP g h l o D d (n + 1) 0 (Go.Proofs.Ytlgmeofpkfliaaa.creep g d).lo g.blo 0 M :=
  ⟨p.known, p.blank, p.sound, fun r s hr hs hM => by
    rcases Nat.lt_succ_iff_lt_or_eq.1 hr with h5 | h5
    · exact p.p2 r s h5 hs hM
    · subst h5; exact p.p3 s hs hM, fun s hs => by omega, fun c' b' h1 h2 => by omega, fun b' h1 h2 => by omega, fun k hk => by omega⟩
theorem PP.day (hok : Ok g h) (hd : d < h.length) (hD : ∀ y : Int, (∃ k, k < D.length ∧ gI D k = y) ↔ ∃ x, ((gR h d).lo ≤ x ∧ x ≤ (gR h d).hi) ∧ y = sinks g x) (p : PP g h l o D d 49 0 c b k M) : Known g h l o M (d + 1) ∧ Blank M (d + 1) :=
  ⟨known_succ hok hd hD p.known p.sound (fun r s hr hs hM => p.p2 r s hr hs hM), p.blank⟩
end
end Go.Proofs.Ytlgmeofpkfliaaa
end

section
namespace Go.Proofs.Ytlgmeofpkfliaaa
open Go.RowKit
attribute [local go_sem] Ex.cell? Ex.frozen?

/-- a loop's relation, closed to the walk. -/
structure Rel (p : Act → World → Prop) (a : Act) (W : World) : Prop where
  out : p a W
structure AS (gc : Array Value) (w : World) (M : Nat → Nat → Nat → Bool) (W : World) : Prop where
  bw : Below w.heap.size w W
  qg : Blk W w.heap.size 27 gc
  mp : MapAt W (w.heap.size + 1) M
theorem AS.below {gc : Array Value} {w : World} {M : Nat → Nat → Nat → Bool} {W W' : World} (h : AS gc w M W) (hb : Below W.heap.size W W') : AS gc w M W' := ⟨ex_trans h.bw hb, h.qg.below hb h.qg.lt, h.mp.below hb⟩
structure AD (gc : Array Value) (w : World) (M : Nat → Nat → Nat → Bool) (pc : Nat) (cl chi : Int) (v : Value) (D : List Int) (W : World) : Prop where
  ah : AS gc w M W
  qc : Blk W pc 25 #[.int .i64 cl, .int .i64 chi]
  ow : W.ownsRow (w.heap.size + 1 + 1) 3 1 v D.length (D.map (Value.int .i64))
section
variable {gc : Array Value} {w : World} {M : Nat → Nat → Nat → Bool} {pc : Nat} {cl chi : Int} {v : Value} {D : List Int} {W W' : World}
theorem AD.below (h : AD gc w M pc cl chi v D W) (hb : Below W.heap.size W W') : AD gc w M pc cl chi v D W' := ⟨h.ah.below hb, h.qc.below hb h.qc.lt, own_below h.ow hb⟩
theorem AD.set (h : AD gc w M pc cl chi v D W) {d r s : Nat} (hd : d < 17) (hr : r < 52) (hs : s < 31) : AD gc w (upd M d r s) pc cl chi v D (W.setCell ⟨w.heap.size + 1, d * 1612 + r * 31 + s, none⟩ (.bool true)) := by
  have hf : Fr (fun b => b = w.heap.size + 1) W (W.setCell ⟨w.heap.size + 1, d * 1612 + r * 31 + s, none⟩ (.bool true)) := (Fr.refl (fun b => b = w.heap.size + 1) W).andSet rfl
  obtain ⟨cs, hb, _⟩ := h.ah.mp
  exact ⟨⟨hf.toBelow h.ah.bw h.ah.bw.size (fun x hx => by omega), h.ah.qg.fr hf (by omega), h.ah.mp.set hd hr hs⟩, h.qc.fr hf (fun e => blk_ne h.qc hb (by decide) e), own_fr h.ow hf (fun b hb' e => own_blkne h.ow hb (by decide) (e ▸ hb'))⟩
end
set_option maxRecDepth 1000000 in
theorem zc_ok : chkF Try.zeroCells120.toList 27404 = true := by kernel_rfl
theorem MapAt.first (W : World) : MapAt (W.alloc (.cells (Try.zeroCells120.setIfInBounds 0 (.bool true)) 120)) W.heap.size (upd (fun _ _ _ => false) 0 0 0) := by
  obtain ⟨h1, h2⟩ := chkF_iff zc_ok
  have h1' : Try.zeroCells120.size = 27404 := by rw [← Array.length_toList]; exact h1
  generalize Try.zeroCells120 = zc at *
  refine ⟨_, Blk.new _ _ _, by simpa using h1', fun d r s hd hr hs => ?_⟩
  rw [Array.getElem?_setIfInBounds]
  by_cases he : d = 0 ∧ r = 0 ∧ s = 0
  · obtain ⟨rfl, rfl, rfl⟩ := he
    rw [if_pos (by omega), if_pos (by omega), upd_self]
  · rw [if_neg (by omega)]
    have hk : d * 1612 + r * 31 + s < zc.size := by omega
    have e := h2 zc[d * 1612 + r * 31 + s] (by simp)
    rw [Array.getElem?_eq_getElem hk, e]
    unfold upd
    rw [if_neg he]
theorem AD.fill {gc : Array Value} {w : World} {M : Nat → Nat → Nat → Bool} {pc : Nat} {cl chi : Int} {v : Value} {D : List Int} {W : World} {c0 c1 : Value} (ha : AS gc w M W) (hc : Blk W pc 25 #[c0, c1]) (ho : W.ownsRow (w.heap.size + 1 + 1) 3 1 v D.length (D.map (Value.int .i64))) (hp : w.heap.size < pc) :
    AD gc w M pc cl chi v D ((W.setCell ⟨pc, 0, none⟩ (.int .i64 cl)).setCell ⟨pc, 1, none⟩ (.int .i64 chi)) := by
  have hf : Fr (fun b => b = pc) W ((W.setCell ⟨pc, 0, none⟩ (.int .i64 cl)).setCell ⟨pc, 1, none⟩ (.int .i64 chi)) := ((Fr.refl (fun b => b = pc) W).andSet rfl).andSet rfl
  obtain ⟨cs, hb, h2⟩ := ha.mp
  have hq := (hc.set_ 0 (.int .i64 cl)).set_ 1 (.int .i64 chi)
  simp only [List.setIfInBounds_toArray, List.set_cons_zero, List.set_cons_succ] at hq
  exact ⟨⟨hf.toBelow ha.bw ha.bw.size (fun x hx => by omega), ha.qg.fr hf (by omega), ⟨cs, hb.fr hf (fun e => blk_ne hb hc (by decide) e), h2⟩⟩, hq, own_fr ho hf (fun b hb' e => own_blkne ho hc (by decide) (e ▸ hb'))⟩
set_option maxRecDepth 100000 in
def DQ (g : Gl) (Ab Ad Ah Ai Ao : Option Addr) (cb cd ch ci co : Nat) (h : List Rg) (l : List Ic) (out : List Int) (w : World) (d : Nat) (M : Nat → Nat → Nat → Bool) (e : Exit) (a' : Act) (W' : World) : Prop :=
  e = .normal ∧ ∃ pc Ad' cd' D, AD #[.int .i64 g.base, .slice Ab g.bands.length cb, .slice Ad g.depths.length cd, .int .i64 g.blo, .int .i64 g.bhi] w M pc (creepTo g.bands (d : Int) g.bands.length).lo (creepTo g.bands (d : Int) g.bands.length).hi (.slice Ad' (D : List Int).length cd') D W' ∧ Hid (DeepIs g (gR h d).lo ((gR h d).hi - (gR h d).lo + 1).toNat D) ∧ ∃ u : Nat → Value, a' = ⟨List.toArray (u 0 :: .slice Ah h.length ch :: .slice Ai l.length ci :: .slice Ao out.length co :: .pointer (some ⟨w.heap.size, 0, none⟩) :: u 5 :: u 6 :: u 7 :: u 8 :: .pointer (some ⟨w.heap.size + 1, 0, none⟩) :: .int .i64 (d : Int) :: .pointer (some ⟨pc, 0, none⟩) :: .slice Ad' D.length cd' :: u 13 :: u 14 :: u 15 :: u 16 :: u 17 :: u 18 :: u 19 :: u 20 :: u 21 :: u 22 :: u 23 :: u 24 :: u 25 :: u 26 :: u 27 :: u 28 :: u 29 :: u 30 :: u 31 :: u 32 :: u 33 :: u 34 :: u 35 :: u 36 :: u 37 :: u 38 :: u 39 :: u 40 :: u 41 :: u 42 :: u 43 :: u 44 :: u 45 :: u 46 :: u 47 :: u 48 :: u 49 :: u 50 :: u 51 :: u 52 :: u 53 :: u 54 :: u 55 :: u 56 :: u 57 :: u 58 :: u 59 :: u 60 :: u 61 :: u 62 :: u 63 :: u 64 :: u 65 :: u 66 :: u 67 :: u 68 :: u 69 :: u 70 :: u 71 :: u 72 :: u 73 :: u 74 :: u 75 :: u 76 :: u 77 :: u 78 :: u 79 :: u 80 :: u 81 :: u 82 :: u 83 :: u 84 :: u 85 :: u 86 :: u 87 :: u 88 :: u 89 :: u 90 :: u 91 :: u 92 :: u 93 :: u 94 :: u 95 :: u 96 :: u 97 :: u 98 :: u 99 :: u 100 :: u 101 :: u 102 :: u 103 :: u 104 :: u 105 :: u 106 :: []), []⟩
theorem deep_at {g : Gl} {h : List Rg} {d : Nat} {D : List Int} (hr : (gR h d).lo ≤ (gR h d).hi) (hD : DeepIs g (gR h d).lo ((gR h d).hi - (gR h d).lo + 1).toNat D) : ∀ y : Int, (∃ k, k < D.length ∧ gI D k = y) ↔ ∃ x, ((gR h d).lo ≤ x ∧ x ≤ (gR h d).hi) ∧ y = sinks g x := fun y => by
  have e : (∃ k, k < D.length ∧ gI D k = y) ↔ y ∈ D := by
    constructor
    · rintro ⟨k, hk, rfl⟩; simp [gI, hk]
    · intro hm
      obtain ⟨k, hk, he⟩ := List.getElem_of_mem hm
      exact ⟨k, hk, by simp [gI, hk, he]⟩
  rw [e, hD.2]
  constructor
  · rintro ⟨j, h1, h2⟩; exact ⟨(gR h d).lo + j, ⟨by omega, by omega⟩, h2⟩
  · rintro ⟨x, ⟨h1, h2⟩, h3⟩
    exact ⟨(x - (gR h d).lo).toNat, by omega, by rw [h3]; congr 1; omega⟩

set_option maxRecDepth 100000 in
set_option maxHeartbeats 6400000 in
theorem Ahead_any (g : Gl) (Ab Ad Ah Ai Ao : Option Addr) (cb cd ch ci co : Nat) (h : List Rg) (l : List Ic) (out : List Int) (w : World) (hg : GlIn w w.heap.size g Ab Ad) (hh : SlAt w w.heap.size 2 Ah h.length (fR h)) (hi : SlAt w w.heap.size 3 Ai l.length (fC l)) (ho : SlAt w w.heap.size 1 Ao out.length (fI out))
    (hok : Ok g h) (hbd : IcesBd l) (hl : l.length ≤ 1000000) (hol : out.length ≤ 1000000) :
    Calls Try.prog 58 #[.agg #[.int .i64 g.base, .slice Ab g.bands.length cb, .slice Ad g.depths.length cd, .int .i64 g.blo, .int .i64 g.bhi], .slice Ah h.length ch, .slice Ai l.length ci, .slice Ao out.length co] w fun e w' => (∃ q M, e = .returned (.pointer (some ⟨q, 0, none⟩)) ∧ MapAt w' q M ∧ Known g h l (fun j => hasB out (j : Int)) M h.length) ∧ Below w.heap.size w w' := by
  have hb0 := ex_alloc (ex_alloc (Below.refl w.heap.size w) (.cells #[.int .i64 g.base, .slice Ab g.bands.length cb, .slice Ad g.depths.length cd, .int .i64 g.blo, .int .i64 g.bhi] 27)) (.cells (Try.zeroCells120.setIfInBounds 0 (.bool true)) 120)
  have q0 : Blk ((w.alloc (.cells #[.int .i64 g.base, .slice Ab g.bands.length cb, .slice Ad g.depths.length cd, .int .i64 g.blo, .int .i64 g.bhi] 27)).alloc (.cells (Try.zeroCells120.setIfInBounds 0 (.bool true)) 120)) w.heap.size 27 #[.int .i64 g.base, .slice Ab g.bands.length cb, .slice Ad g.depths.length cd, .int .i64 g.blo, .int .i64 g.bhi] := (Blk.new _ _ _).alloc _
  have m0 : MapAt ((w.alloc (.cells #[.int .i64 g.base, .slice Ab g.bands.length cb, .slice Ad g.depths.length cd, .int .i64 g.blo, .int .i64 g.bhi] 27)).alloc (.cells (Try.zeroCells120.setIfInBounds 0 (.bool true)) 120)) (w.heap.size + 1) (upd (fun _ _ _ => false) 0 0 0) := by
    have := MapAt.first (w.alloc (.cells #[.int .i64 g.base, .slice Ab g.bands.length cb, .slice Ad g.depths.length cd, .int .i64 g.blo, .int .i64 g.bhi] 27))
    simpa using this
  have hnh := hok.nh
  have HK := Lib.hid hok
  have hcr := fun d => hok.creep d
  have hbk := hok.back
  have hlb : g.bands.length ≤ 1000000 := by have := hok.nb; omega
  have hld : g.depths.length ≤ 1000000 := by have := hok.nd; omega
  go_enter Try.func58, Try.ntmps58
  go_wp2_with fail
  have A0 : AS #[.int .i64 g.base, .slice Ab g.bands.length cb, .slice Ad g.depths.length cd, .int .i64 g.blo, .int .i64 g.bhi] w _ _ := ⟨hb0, q0, m0⟩
  have k0 : Hid (Known g h l (fun j => hasB out (j : Int)) (upd (fun _ _ _ => false) 0 0 0) 0) := Lib.hid known0
  have b0 : Hid (Blank (upd (fun _ _ _ => false) 0 0 0) 0) := Lib.hid (fun e r s he => by unfold upd; rw [if_neg (by omega)])
  generalize (w.alloc (.cells #[.int .i64 g.base, .slice Ab g.bands.length cb, .slice Ad g.depths.length cd, .int .i64 g.blo, .int .i64 g.bhi] 27)).alloc (.cells (Try.zeroCells120.setIfInBounds 0 (.bool true)) 120) = V at *
  generalize (upd (fun _ _ _ => false) 0 0 0) = M0 at *
  refine wp_loop (fun a W => Rel (fun a W => ∃ d : Nat, d ≤ h.length ∧ ∃ M : Nat → Nat → Nat → Bool, AS #[.int .i64 g.base, .slice Ab g.bands.length cb, .slice Ad g.depths.length cd, .int .i64 g.blo, .int .i64 g.bhi] w M W ∧ Hid (Known g h l (fun j => hasB out (j : Int)) M d) ∧ Hid (Blank M d) ∧ ∃ u : Nat → Value, a = ⟨List.toArray (u 0 :: .slice Ah h.length ch :: .slice Ai l.length ci :: .slice Ao out.length co :: .pointer (some ⟨w.heap.size, 0, none⟩) :: u 5 :: u 6 :: u 7 :: u 8 :: .pointer (some ⟨w.heap.size + 1, 0, none⟩) :: .int .i64 (d : Int) :: u 11 :: u 12 :: u 13 :: u 14 :: u 15 :: u 16 :: u 17 :: u 18 :: u 19 :: u 20 :: u 21 :: u 22 :: u 23 :: u 24 :: u 25 :: u 26 :: u 27 :: u 28 :: u 29 :: u 30 :: u 31 :: u 32 :: u 33 :: u 34 :: u 35 :: u 36 :: u 37 :: u 38 :: u 39 :: u 40 :: u 41 :: u 42 :: u 43 :: u 44 :: u 45 :: u 46 :: u 47 :: u 48 :: u 49 :: u 50 :: u 51 :: u 52 :: u 53 :: u 54 :: u 55 :: u 56 :: u 57 :: u 58 :: u 59 :: u 60 :: u 61 :: u 62 :: u 63 :: u 64 :: u 65 :: u 66 :: u 67 :: u 68 :: u 69 :: u 70 :: u 71 :: u 72 :: u 73 :: u 74 :: u 75 :: u 76 :: u 77 :: u 78 :: u 79 :: u 80 :: u 81 :: u 82 :: u 83 :: u 84 :: u 85 :: u 86 :: u 87 :: u 88 :: u 89 :: u 90 :: u 91 :: u 92 :: u 93 :: u 94 :: u 95 :: u 96 :: u 97 :: u 98 :: u 99 :: u 100 :: u 101 :: u 102 :: u 103 :: u 104 :: u 105 :: u 106 :: []), []⟩) a W)
    (fun a _ => h.length - (intOf (a.tmps.getD 10 undef)).toNat) ⟨⟨0, by omega, M0, A0, k0, b0, exFrame (by kernel_rfl)⟩⟩ ?_
  rintro a wr ⟨⟨d, hd, M, A1, k1, b1, u, rfl⟩⟩
  clear A0 k0 b0 hb0 q0 m0
  by_cases hlt : d < h.length
  · have r1 := HK.out.heats d hlt
    obtain ⟨bh, oh, rfl, hbh, s0, s1⟩ := IsRgs.at_ (hh.below A1.bw) hlt
    have hws := A1.bw.size
    have hbr : bh < wr.heap.size := by omega
    have a0 : wr.cell? ⟨w.heap.size, 0, none⟩ = some (.int .i64 g.base) := A1.qg.cell 0
    have a1 : wr.cell? ⟨w.heap.size, 1, none⟩ = some (.slice Ab g.bands.length cb) := A1.qg.cell 1
    have a2 : wr.cell? ⟨w.heap.size, 2, none⟩ = some (.slice Ad g.depths.length cd) := A1.qg.cell 2
    have a3 : wr.cell? ⟨w.heap.size, 3, none⟩ = some (.int .i64 g.blo) := A1.qg.cell 3
    have a4 : wr.cell? ⟨w.heap.size, 4, none⟩ = some (.int .i64 g.bhi) := A1.qg.cell 4
    have l1' := A1.qg.lt
    have l2' := A1.mp.lt
    have HA1 := Lib.hid A1
    have hB := A1.bw
    clear A1
    go_wp2_with fail
    refine Code.wp_mono (Q := DQ g Ab Ad (some ⟨bh, oh, none⟩) Ai Ao cb cd ch ci co h l out w d M) ?_ ?_
    rotate_left
    · refine wp_region_ext_tq 10 (.quiet 0 (.quiet 1 (.quiet 3 (.quiet 4 (.quiet 5 (.quiet 6 (.quiet 7 (.fork 2 (.fork 8 (.loud 9 .done) 9 (.loud 8 .done)) 9 (.loud 2 (.loud 8 .done)))))))))) (by kernel_rfl) (by kernel_rfl) (by rintro d v c a w ⟨h, _⟩; cases h) ?_
      have hX0 := (Below.refl wr.heap.size wr).drew
      repeat (refine tq_quiet rfl ?_; go_big_quiet_step (fail); refine wpQuiet_nil ?_)
      refine tq_fork rfl rfl ?_ ?_
      · go_wp2_with fail
        refine (CreepR_any g _ _ _ _ (d : Int) wr.drew ((hg.below (ex_trans hB hX0)).up (ex_trans hB hX0).size) hlb).mono ?_
        rintro e x1 ⟨rfl, hx1⟩
        have hX1 := ex_trans hX0 hx1
        go_wp2_with fail
        refine ⟨inEx hX1, ?_⟩
        refine tq_fork rfl rfl ?_ ?_
        · go_wp2_with fail
          refine (deepR_any g _ _ _ _ (gR h d).lo (gR h d).hi x1 ((hg.below (ex_trans hB hX1)).up (ex_trans hB hX1).size) hld r1.1 r1.2.1 r1.2.2).mono ?_
          rintro e x2 ⟨⟨v, D, rfl, hv, hD⟩, hx2⟩
          have hX2 := ex_trans hX1 hx2
          obtain ⟨Ad', cd', rfl, _, _⟩ := own_sl hv
          go_wp2_with fail
          refine ⟨inEx hX2, ?_⟩
          refine tq_loud rfl ?_
          go_wp2_with fail
          refine ⟨inEx (ex_alloc hX2 _), ?_⟩
          refine tq_done (r := [_, _]) rfl ?_
          go_wp2
          exact ⟨rfl, x2.heap.size, Ad', cd', D, ⟨HA1.out.below (ex_alloc hX2 _), Blk.new _ _ _, own_base (hv.alloc _) (by have := hX1.size; omega)⟩, Lib.hid hD, exFrame' (by kernel_rfl)⟩
        · have qa : Blk (x1.alloc (.cells #[.int .i64 0, .int .i64 0] 25)) x1.heap.size 25 _ := Blk.new _ _ _
          have hX1a := ex_alloc hX1 (.cells #[.int .i64 0, .int .i64 0] 25)
          go_wp2_with fail
          refine ⟨inEx hX1a, ?_⟩
          refine tq_loud rfl ?_
          go_wp2_with fail
          refine (deepR_any g _ _ _ _ (gR h d).lo (gR h d).hi (x1.alloc (.cells #[.int .i64 0, .int .i64 0] 25)) ((hg.below (ex_trans hB hX1a)).up (ex_trans hB hX1a).size) hld r1.1 r1.2.1 r1.2.2).mono ?_
          rintro e x2 ⟨⟨v, D, rfl, hv, hD⟩, hx2⟩
          have hX2 := ex_trans hX1a hx2
          obtain ⟨Ad', cd', rfl, _, _⟩ := own_sl hv
          go_wp2_with fail
          refine ⟨inEx hX2, ?_⟩
          refine tq_done (r := [_, _]) rfl ?_
          have qz := qa.below hx2 qa.lt
          have z0 := qz.cell 0
          have z1 := qz.cell 1
          have f0 := qz.frozen 0
          have f1 := qz.frozen 1
          have lz := qz.lt
          simp at z0 z1
          go_wp2
          exact ⟨rfl, x1.heap.size, Ad', cd', D, AD.fill (HA1.out.below hX2) qz (own_base hv (by have := (hX1a).size; simp at this ⊢; omega)) (by have := hX1.size; omega), Lib.hid hD, exFrame' (by kernel_rfl)⟩
      · have qa : Blk (wr.alloc (.cells #[.int .i64 0, .int .i64 0] 25)).drew wr.heap.size 25 _ := Blk.new _ _ _
        have hX0a : Below wr.heap.size wr (wr.alloc (.cells #[.int .i64 0, .int .i64 0] 25)).drew := (ex_alloc (Below.refl _ _) _).drew
        go_wp2_with fail
        refine ⟨inEx hX0a, ?_⟩
        refine tq_loud rfl ?_
        go_wp2_with fail
        refine (CreepR_any g _ _ _ _ (d : Int) (wr.alloc (.cells #[.int .i64 0, .int .i64 0] 25)).drew ((hg.below (ex_trans hB hX0a)).up (ex_trans hB hX0a).size) hlb).mono ?_
        rintro e x1 ⟨rfl, hx1⟩
        have hX1 := ex_trans hX0a hx1
        go_wp2_with fail
        refine ⟨inEx hX1, ?_⟩
        refine tq_loud rfl ?_
        go_wp2_with fail
        refine (deepR_any g _ _ _ _ (gR h d).lo (gR h d).hi x1 ((hg.below (ex_trans hB hX1)).up (ex_trans hB hX1).size) hld r1.1 r1.2.1 r1.2.2).mono ?_
        rintro e x2 ⟨⟨v, D, rfl, hv, hD⟩, hx2⟩
        have hX2 := ex_trans hX1 hx2
        obtain ⟨Ad', cd', rfl, _, _⟩ := own_sl hv
        go_wp2_with fail
        refine ⟨inEx hX2, ?_⟩
        refine tq_done (r := [_, _]) rfl ?_
        have qz := (qa.below hx1 qa.lt).below hx2 (qa.below hx1 qa.lt).lt
        have z0 := qz.cell 0
        have z1 := qz.cell 1
        have f0 := qz.frozen 0
        have f1 := qz.frozen 1
        have lz := qz.lt
        simp at z0 z1
        go_wp2
        exact ⟨rfl, wr.heap.size, Ad', cd', D, AD.fill (HA1.out.below hX2) qz (own_base hv (by have := (hX1).size; simp at this ⊢; omega)) (by have := hX1.size; omega), Lib.hid hD, exFrame' (by kernel_rfl)⟩
    rintro e a' W1 ⟨rfl, pc, Ad', cd', D, hAD, hDD, u, rfl⟩
    clear a0 a1 a2 a3 a4 l1' l2' s0 s1 hbr HA1 hB
    obtain ⟨cl, hcl⟩ : ∃ cl, cl = (creepTo g.bands (d : Int) g.bands.length).lo := ⟨_, rfl⟩
    obtain ⟨chi, hch⟩ : ∃ chi, chi = (creepTo g.bands (d : Int) g.bands.length).hi := ⟨_, rfl⟩
    rw [← hcl, ← hch] at hAD
    have HCL : Hid (cl = (creep g d).lo) := Lib.hid hcl
    have HCH : Hid (chi = (creep g d).hi) := Lib.hid hch
    have hc3 : 0 ≤ cl ∧ cl ≤ chi ∧ chi ≤ 3 := by rw [HCL.out, HCH.out]; exact hcr d
    have hDl : D.length ≤ 501 := by have := hDD.out.1; omega
    have P0 : Hid (PP g h l (fun j => hasB out (j : Int)) D d 0 0 cl g.blo 0 M) := Lib.hid (by rw [HCL.out]; exact PP.start k1.out b1.out)
    have HDA := Lib.hid (deep_at r1.2.1 hDD.out)
    clear hcl hch k1 b1 hcr
    go_wp2_with fail
    refine wp_loop (fun a W => Rel (fun a W => ∃ n : Nat, n ≤ 49 ∧ ∃ M : Nat → Nat → Nat → Bool, AD #[.int .i64 g.base, .slice Ab g.bands.length cb, .slice Ad g.depths.length cd, .int .i64 g.blo, .int .i64 g.bhi] w M pc cl chi (.slice Ad' D.length cd') D W ∧ Hid (PP g h l (fun j => hasB out (j : Int)) D d n 0 cl g.blo 0 M) ∧ ∃ u : Nat → Value, a = ⟨List.toArray (u 0 :: .slice (some ⟨bh, oh, none⟩) h.length ch :: .slice Ai l.length ci :: .slice Ao out.length co :: .pointer (some ⟨w.heap.size, 0, none⟩) :: u 5 :: u 6 :: u 7 :: u 8 :: .pointer (some ⟨w.heap.size + 1, 0, none⟩) :: .int .i64 (d : Int) :: .pointer (some ⟨pc, 0, none⟩) :: .slice Ad' D.length cd' :: .int .i64 (n : Int) :: u 14 :: u 15 :: u 16 :: u 17 :: u 18 :: u 19 :: u 20 :: u 21 :: u 22 :: u 23 :: u 24 :: u 25 :: u 26 :: u 27 :: u 28 :: u 29 :: u 30 :: u 31 :: u 32 :: u 33 :: u 34 :: u 35 :: u 36 :: u 37 :: u 38 :: u 39 :: u 40 :: u 41 :: u 42 :: u 43 :: u 44 :: u 45 :: u 46 :: u 47 :: u 48 :: u 49 :: u 50 :: u 51 :: u 52 :: u 53 :: u 54 :: u 55 :: u 56 :: u 57 :: u 58 :: u 59 :: u 60 :: u 61 :: u 62 :: u 63 :: u 64 :: u 65 :: u 66 :: u 67 :: u 68 :: u 69 :: u 70 :: u 71 :: u 72 :: u 73 :: u 74 :: u 75 :: u 76 :: u 77 :: u 78 :: u 79 :: u 80 :: u 81 :: u 82 :: u 83 :: u 84 :: u 85 :: u 86 :: u 87 :: u 88 :: u 89 :: u 90 :: u 91 :: u 92 :: u 93 :: u 94 :: u 95 :: u 96 :: u 97 :: u 98 :: u 99 :: u 100 :: u 101 :: u 102 :: u 103 :: u 104 :: u 105 :: u 106 :: []), []⟩) a W)
      (fun a _ => 49 - (intOf (a.tmps.getD 13 undef)).toNat) ⟨⟨0, by omega, M, hAD, P0, exFrame (by kernel_rfl)⟩⟩ ?_
    clear hAD P0
    rintro a W2 ⟨⟨n, hn, M, hAD, PN, u, rfl⟩⟩
    by_cases hn49 : n < 49
    · go_wp2_with fail
      refine wp_loop (fun a W => Rel (fun a W => ∃ m : Nat, m ≤ 31 ∧ ∃ M : Nat → Nat → Nat → Bool, AD #[.int .i64 g.base, .slice Ab g.bands.length cb, .slice Ad g.depths.length cd, .int .i64 g.blo, .int .i64 g.bhi] w M pc cl chi (.slice Ad' D.length cd') D W ∧ Hid (PP g h l (fun j => hasB out (j : Int)) D d n m cl g.blo 0 M) ∧ ∃ u : Nat → Value, a = ⟨List.toArray (u 0 :: .slice (some ⟨bh, oh, none⟩) h.length ch :: .slice Ai l.length ci :: .slice Ao out.length co :: .pointer (some ⟨w.heap.size, 0, none⟩) :: u 5 :: u 6 :: u 7 :: u 8 :: .pointer (some ⟨w.heap.size + 1, 0, none⟩) :: .int .i64 (d : Int) :: .pointer (some ⟨pc, 0, none⟩) :: .slice Ad' D.length cd' :: .int .i64 (n : Int) :: .int .i64 (m : Int) :: u 15 :: u 16 :: u 17 :: u 18 :: u 19 :: u 20 :: u 21 :: u 22 :: u 23 :: u 24 :: u 25 :: u 26 :: u 27 :: u 28 :: u 29 :: u 30 :: u 31 :: u 32 :: u 33 :: u 34 :: u 35 :: u 36 :: u 37 :: u 38 :: u 39 :: u 40 :: u 41 :: u 42 :: u 43 :: u 44 :: u 45 :: u 46 :: u 47 :: u 48 :: u 49 :: u 50 :: u 51 :: u 52 :: u 53 :: u 54 :: u 55 :: u 56 :: u 57 :: u 58 :: u 59 :: u 60 :: u 61 :: u 62 :: u 63 :: u 64 :: u 65 :: u 66 :: u 67 :: u 68 :: u 69 :: u 70 :: u 71 :: u 72 :: u 73 :: u 74 :: u 75 :: u 76 :: u 77 :: u 78 :: u 79 :: u 80 :: u 81 :: u 82 :: u 83 :: u 84 :: u 85 :: u 86 :: u 87 :: u 88 :: u 89 :: u 90 :: u 91 :: u 92 :: u 93 :: u 94 :: u 95 :: u 96 :: u 97 :: u 98 :: u 99 :: u 100 :: u 101 :: u 102 :: u 103 :: u 104 :: u 105 :: u 106 :: []), []⟩) a W)
        (fun a _ => 31 - (intOf (a.tmps.getD 14 undef)).toNat) ⟨⟨0, by omega, M, hAD, PN, exFrame (by kernel_rfl)⟩⟩ ?_
      clear hAD PN
      rintro a W3 ⟨⟨m, hm, M, hAD, PN, u, rfl⟩⟩
      by_cases hm31 : m < 31
      · have c0 : W3.cell? ⟨pc, 0, none⟩ = some (.int .i64 cl) := hAD.qc.cell 0
        have lc := hAD.qc.lt
        go_wp2_with fail
        refine wp_loop (fun a W => Rel (fun a W => ∃ c : Int, cl ≤ c ∧ c ≤ chi + 1 ∧ ∃ M : Nat → Nat → Nat → Bool, AD #[.int .i64 g.base, .slice Ab g.bands.length cb, .slice Ad g.depths.length cd, .int .i64 g.blo, .int .i64 g.bhi] w M pc cl chi (.slice Ad' D.length cd') D W ∧ Hid (PP g h l (fun j => hasB out (j : Int)) D d n m c g.blo 0 M) ∧ ∃ u : Nat → Value, a = ⟨List.toArray (u 0 :: .slice (some ⟨bh, oh, none⟩) h.length ch :: .slice Ai l.length ci :: .slice Ao out.length co :: .pointer (some ⟨w.heap.size, 0, none⟩) :: u 5 :: u 6 :: u 7 :: u 8 :: .pointer (some ⟨w.heap.size + 1, 0, none⟩) :: .int .i64 (d : Int) :: .pointer (some ⟨pc, 0, none⟩) :: .slice Ad' D.length cd' :: .int .i64 (n : Int) :: .int .i64 (m : Int) :: .int .i64 c :: u 16 :: u 17 :: u 18 :: u 19 :: u 20 :: u 21 :: u 22 :: u 23 :: u 24 :: u 25 :: u 26 :: u 27 :: u 28 :: u 29 :: u 30 :: u 31 :: u 32 :: u 33 :: u 34 :: u 35 :: u 36 :: u 37 :: u 38 :: u 39 :: u 40 :: u 41 :: u 42 :: u 43 :: u 44 :: u 45 :: u 46 :: u 47 :: u 48 :: u 49 :: u 50 :: u 51 :: u 52 :: u 53 :: u 54 :: u 55 :: u 56 :: u 57 :: u 58 :: u 59 :: u 60 :: u 61 :: u 62 :: u 63 :: u 64 :: u 65 :: u 66 :: u 67 :: u 68 :: u 69 :: u 70 :: u 71 :: u 72 :: u 73 :: u 74 :: u 75 :: u 76 :: u 77 :: u 78 :: u 79 :: u 80 :: u 81 :: u 82 :: u 83 :: u 84 :: u 85 :: u 86 :: u 87 :: u 88 :: u 89 :: u 90 :: u 91 :: u 92 :: u 93 :: u 94 :: u 95 :: u 96 :: u 97 :: u 98 :: u 99 :: u 100 :: u 101 :: u 102 :: u 103 :: u 104 :: u 105 :: u 106 :: []), []⟩) a W)
          (fun a _ => (chi + 1 - intOf (a.tmps.getD 15 undef)).toNat) ⟨⟨cl, by omega, by omega, M, hAD, PN, exFrame (by kernel_rfl)⟩⟩ ?_
        clear hAD PN c0 lc
        rintro a W4 ⟨⟨c, hc, hc', M, hAD, PN, u, rfl⟩⟩
        have hd17 : d < 17 := by omega
        have hn52 : n < 52 := by omega
        have c1 : W4.cell? ⟨pc, 1, none⟩ = some (.int .i64 chi) := hAD.qc.cell 1
        have lc := hAD.qc.lt
        have mc := hAD.ah.mp.cell hd17 hn52 hm31
        have lm := hAD.ah.mp.lt
        have a3 : W4.cell? ⟨w.heap.size, 3, none⟩ = some (.int .i64 g.blo) := hAD.ah.qg.cell 3
        have lg := hAD.ah.qg.lt
        by_cases hcc : c ≤ chi
        · have e1 : decide (c ≤ chi) = true := decide_eq_true hcc
          cases hM : M d n m
          · rw [hM] at mc
            go_wp2_with fail
            refine ⟨⟨⟨m + 1, by omega, M, hAD, Lib.hid (by have := PN.out.sink (.inr hM); rw [← HCL.out] at this; exact this), exFrame (by kernel_rfl)⟩⟩, ?_⟩
            show 31 - (intOf (.int .i64 ((m : Int) + 1))).toNat < 31 - (intOf (.int .i64 (m : Int))).toNat
            simp [intOf]
            omega
          · rw [hM] at mc
            have HM0 := Lib.hid hM
            clear hM
            go_wp2_with fail
            refine wp_loop (fun a W => Rel (fun a W => ∃ b : Int, g.blo ≤ b ∧ b ≤ g.bhi + 1 ∧ ∃ M : Nat → Nat → Nat → Bool, AD #[.int .i64 g.base, .slice Ab g.bands.length cb, .slice Ad g.depths.length cd, .int .i64 g.blo, .int .i64 g.bhi] w M pc cl chi (.slice Ad' D.length cd') D W ∧ Hid (PP g h l (fun j => hasB out (j : Int)) D d n m c b 0 M) ∧ Hid (M d n m = true) ∧ ∃ u : Nat → Value, a = ⟨List.toArray (u 0 :: .slice (some ⟨bh, oh, none⟩) h.length ch :: .slice Ai l.length ci :: .slice Ao out.length co :: .pointer (some ⟨w.heap.size, 0, none⟩) :: u 5 :: u 6 :: u 7 :: u 8 :: .pointer (some ⟨w.heap.size + 1, 0, none⟩) :: .int .i64 (d : Int) :: .pointer (some ⟨pc, 0, none⟩) :: .slice Ad' D.length cd' :: .int .i64 (n : Int) :: .int .i64 (m : Int) :: .int .i64 c :: .int .i64 b :: u 17 :: u 18 :: u 19 :: u 20 :: u 21 :: u 22 :: u 23 :: u 24 :: u 25 :: u 26 :: u 27 :: u 28 :: u 29 :: u 30 :: u 31 :: u 32 :: u 33 :: u 34 :: u 35 :: u 36 :: u 37 :: u 38 :: u 39 :: u 40 :: u 41 :: u 42 :: u 43 :: u 44 :: u 45 :: u 46 :: u 47 :: u 48 :: u 49 :: u 50 :: u 51 :: u 52 :: u 53 :: u 54 :: u 55 :: u 56 :: u 57 :: u 58 :: u 59 :: u 60 :: u 61 :: u 62 :: u 63 :: u 64 :: u 65 :: u 66 :: u 67 :: u 68 :: u 69 :: u 70 :: u 71 :: u 72 :: u 73 :: u 74 :: u 75 :: u 76 :: u 77 :: u 78 :: u 79 :: u 80 :: u 81 :: u 82 :: u 83 :: u 84 :: u 85 :: u 86 :: u 87 :: u 88 :: u 89 :: u 90 :: u 91 :: u 92 :: u 93 :: u 94 :: u 95 :: u 96 :: u 97 :: u 98 :: u 99 :: u 100 :: u 101 :: u 102 :: u 103 :: u 104 :: u 105 :: u 106 :: []), []⟩) a W)
              (fun a _ => (g.bhi + 1 - intOf (a.tmps.getD 16 undef)).toNat) ⟨⟨g.blo, by omega, by omega, M, hAD, PN, HM0, exFrame (by kernel_rfl)⟩⟩ ?_
            clear hAD PN c1 lc mc lm a3 lg HM0
            rintro a W5 ⟨⟨b, hb, hb', M, hAD, PN, HM, u, rfl⟩⟩
            have a4 : W5.cell? ⟨w.heap.size, 4, none⟩ = some (.int .i64 g.bhi) := hAD.ah.qg.cell 4
            have lg := hAD.ah.qg.lt
            by_cases hbb : b ≤ g.bhi
            · have e2 : decide (b ≤ g.bhi) = true := decide_eq_true hbb
              go_wp2_with fail
              refine wp_loop (fun a W => Rel (fun a W => ∃ k : Nat, k ≤ D.length ∧ ∃ M : Nat → Nat → Nat → Bool, AD #[.int .i64 g.base, .slice Ab g.bands.length cb, .slice Ad g.depths.length cd, .int .i64 g.blo, .int .i64 g.bhi] w M pc cl chi (.slice Ad' D.length cd') D W ∧ Hid (PP g h l (fun j => hasB out (j : Int)) D d n m c b k M) ∧ Hid (M d n m = true) ∧ ∃ u : Nat → Value, a = ⟨List.toArray (u 0 :: .slice (some ⟨bh, oh, none⟩) h.length ch :: .slice Ai l.length ci :: .slice Ao out.length co :: .pointer (some ⟨w.heap.size, 0, none⟩) :: u 5 :: u 6 :: u 7 :: u 8 :: .pointer (some ⟨w.heap.size + 1, 0, none⟩) :: .int .i64 (d : Int) :: .pointer (some ⟨pc, 0, none⟩) :: .slice Ad' D.length cd' :: .int .i64 (n : Int) :: .int .i64 (m : Int) :: .int .i64 c :: .int .i64 b :: .int .i64 (k : Int) :: u 18 :: u 19 :: u 20 :: u 21 :: u 22 :: u 23 :: u 24 :: u 25 :: u 26 :: u 27 :: u 28 :: u 29 :: u 30 :: u 31 :: u 32 :: u 33 :: u 34 :: u 35 :: u 36 :: u 37 :: u 38 :: u 39 :: u 40 :: u 41 :: u 42 :: u 43 :: u 44 :: u 45 :: u 46 :: u 47 :: u 48 :: u 49 :: u 50 :: u 51 :: u 52 :: u 53 :: u 54 :: u 55 :: u 56 :: u 57 :: u 58 :: u 59 :: u 60 :: u 61 :: u 62 :: u 63 :: u 64 :: u 65 :: u 66 :: u 67 :: u 68 :: u 69 :: u 70 :: u 71 :: u 72 :: u 73 :: u 74 :: u 75 :: u 76 :: u 77 :: u 78 :: u 79 :: u 80 :: u 81 :: u 82 :: u 83 :: u 84 :: u 85 :: u 86 :: u 87 :: u 88 :: u 89 :: u 90 :: u 91 :: u 92 :: u 93 :: u 94 :: u 95 :: u 96 :: u 97 :: u 98 :: u 99 :: u 100 :: u 101 :: u 102 :: u 103 :: u 104 :: u 105 :: u 106 :: []), []⟩) a W)
                (fun a _ => D.length - (intOf (a.tmps.getD 17 undef)).toNat) ⟨⟨0, by omega, M, hAD, PN, HM, exFrame (by kernel_rfl)⟩⟩ ?_
              clear hAD PN a4 lg HM
              rintro a W6 ⟨⟨k, hk, M, hAD, PN, HM, u, rfl⟩⟩
              by_cases hkD : k < D.length
              · have hd17 : d + 1 < 17 := by omega
                obtain ⟨gd, capd, hv, _, _, dc, _⟩ := ints_cell hAD.ow hkD
                injection hv with hva hvb hvc
                subst hva hvc
                clear hvb
                have a0 : W6.cell? ⟨w.heap.size, 0, none⟩ = some (.int .i64 g.base) := hAD.ah.qg.cell 0
                have lg := hAD.ah.qg.lt
                have lm := hAD.ah.mp.lt
                obtain ⟨yv, hyv⟩ : ∃ yv, yv = mx3 ((m : Int) - b) 0 (gI D k) := ⟨_, rfl⟩
                have hsk : 0 ≤ gI D k ∧ gI D k ≤ 30 := by
                  obtain ⟨x, _, hx⟩ := (HDA.out _).1 ⟨k, hkD, rfl⟩
                  rw [hx]; exact HK.out.sinks x
                have hyb := mx3_bd ((m : Int) - b) 0 (gI D k)
                rw [← hyv] at hyb
                obtain ⟨xn, hxn⟩ : ∃ xn : Nat, (n : Int) + c = (xn : Int) := ⟨((n : Int) + c).toNat, by omega⟩
                obtain ⟨yn, hyn⟩ : ∃ yn : Nat, yv = (yn : Int) := ⟨yv.toNat, by omega⟩
                have hx52 : xn < 52 := by omega
                have hy31 : yn < 31 := by omega
                have fm := hAD.ah.mp.frozen ((d + 1) * 1612 + xn * 31 + yn)
                have mc := hAD.ah.mp.cell hd17 hx52 hy31
                have w1 : IntKind.i64.wrap ((n : Int) + c) = (xn : Int) := by rw [hxn]; exact IntWalk.i64_in _ (by omega)
                have w2 : IntKind.i64.wrap ((m : Int) - b) = (m : Int) - b := IntWalk.i64_in _ (by omega)
                have hyv2 : max (max ((m : Int) - b) 0) (gI D k) = (yn : Int) := by rw [← hyn, hyv]; rfl
                have ab := HK.out.base
                have w3 : IntKind.i64.wrap (g.base + (xn : Int)) = g.base + (xn : Int) := IntWalk.i64_in _ (by omega)
                have w4 : IntKind.i64.wrap (g.base + (xn : Int) - (yn : Int)) = g.base + (xn : Int) - (yn : Int) := IntWalk.i64_in _ (by omega)
                have w5 : IntKind.i64.wrap ((d : Int) + 1) = (d : Int) + 1 := IntWalk.i64_in _ (by omega)
                have hHX := Lib.hid hxn
                have hHY := Lib.hid (hyv.symm.trans hyn)
                clear hxn hyv hyn hyb
                go_wp2_with fail
                refine wp_region_ext_mix 12 [(false, 0), (false, 1), (false, 2), (false, 3), (false, 4), (false, 5), (false, 6), (false, 7), (false, 8), (false, 9), (false, 11), (true, 10)] (by kernel_rfl) (by kernel_rfl) (by intro d _ _ _ _ h; cases d <;> exact h) ?_
                have hX0 := (Below.refl W6.heap.size W6).drew
                repeat (refine mix_quiet rfl ?_; go_big_quiet_step (fail); refine wpQuiet_nil ?_)
                refine mix_loud rfl ?_
                refine wpList_max3 _ rfl _ _ _ _ rfl ((m : Int) - b) 0 (gI D k) rfl rfl rfl ?_
                rw [hHY.out]
                go_wp2_with fail
                refine ⟨inEx hX0, ?_⟩
                refine mix_nil rfl ?_
                have hAX := hAD.below hX0
                have hBX := hAX.ah.bw
                have a0 : W6.drew.cell? ⟨w.heap.size, 0, none⟩ = some (.int .i64 g.base) := hAX.ah.qg.cell 0
                have lg := hAX.ah.qg.lt
                go_wp2_with fail
                refine (Fits_any Ai Ao ci co l out (d : Int) (g.base + (xn : Int) - (yn : Int)) W6.drew hl hol ((hi.below hBX).up hBX.size) ((ho.below hBX).up hBX.size) hbd (by omega)).mono ?_
                rintro e W7 ⟨rfl, h7⟩
                have hA7 := hAX.below h7
                have HM7 := HM.out
                cases hF : fitsB l (fun j => hasB out (j : Int)) (d : Int) (g.base + (xn : Int) - (yn : Int))
                · have P7 := Lib.hid (PN.out.no (by rw [hHX.out, hHY.out]; exact hF))
                  go_wp2_with fail
                  refine ⟨⟨⟨k + 1, by omega, M, hA7, P7, Lib.hid HM7, exFrame (by kernel_rfl)⟩⟩, ?_⟩
                  show D.length - (intOf (.int .i64 ((k : Int) + 1))).toNat < D.length - (intOf (.int .i64 (k : Int))).toNat
                  simp [intOf]
                  omega
                · have hcan := item_can HK.out hlt HDA.out PN.out.known (r := n) (s := m) (by omega) hm31 HM7 (c := c) (b := b) (by rw [← HCL.out, ← HCH.out]; exact ⟨hc, hcc⟩) ⟨hb, hbb⟩ hkD (by rw [hHX.out, hHY.out]; exact hF)
                  rw [hHX.out, hHY.out] at hcan
                  have P7 := Lib.hid (PN.out.yes (x := xn) (y := yn) (by rw [hHX.out]; rfl) (by rw [hHY.out]; rfl) hcan)
                  have hA8 := hA7.set hd17 hx52 hy31
                  have fm := hA7.ah.mp.frozen ((d + 1) * 1612 + xn * 31 + yn)
                  have mc := hA7.ah.mp.cell hd17 hx52 hy31
                  have lm := hA7.ah.mp.lt
                  go_wp2_with fail
                  refine ⟨⟨⟨k + 1, by omega, _, hA8, P7, Lib.hid (upd_mono HM7), exFrame (by kernel_rfl)⟩⟩, ?_⟩
                  show D.length - (intOf (.int .i64 ((k : Int) + 1))).toNat < D.length - (intOf (.int .i64 (k : Int))).toNat
                  simp [intOf]
                  omega
              · have hkE : k = D.length := by omega
                subst hkE
                go_wp2_with fail
                refine ⟨⟨⟨b + 1, by omega, by omega, M, hAD, Lib.hid PN.out.back, HM, exFrame (by kernel_rfl)⟩⟩, ?_⟩
                show (g.bhi + 1 - intOf (.int .i64 (b + 1))).toNat < (g.bhi + 1 - intOf (.int .i64 b)).toNat
                simp [intOf]
                omega
            · have e2 : decide (b ≤ g.bhi) = false := decide_eq_false hbb
              go_wp2_with fail
              refine ⟨⟨⟨c + 1, by omega, by omega, M, hAD, Lib.hid (PN.out.creep (by omega)), exFrame (by kernel_rfl)⟩⟩, ?_⟩
              first
              | (show (chi + 1 - intOf (.int .i64 (c + 1))).toNat < (chi + 1 - intOf (.int .i64 c)).toNat; simp [intOf]; omega)
              | (show max (chi + 1 - intOf (.int .i64 (c + 1))) 0 < chi + 1 - intOf (.int .i64 c); simp only [intOf]; omega)
        · have e1 : decide (c ≤ chi) = false := decide_eq_false hcc
          go_wp2_with fail
          refine ⟨⟨⟨m + 1, by omega, M, hAD, Lib.hid (by have := PN.out.sink (.inl (by rw [← HCH.out]; omega)); rw [← HCL.out] at this; exact this), exFrame (by kernel_rfl)⟩⟩, ?_⟩
          show 31 - (intOf (.int .i64 ((m : Int) + 1))).toNat < 31 - (intOf (.int .i64 (m : Int))).toNat
          simp [intOf]
          omega
      · have hmE : m = 31 := by omega
        subst hmE
        go_wp2_with fail
        refine ⟨⟨⟨n + 1, by omega, M, hAD, Lib.hid (by have := PN.out.rise; rw [← HCL.out] at this; exact this), exFrame (by kernel_rfl)⟩⟩, ?_⟩
        show 49 - (intOf (.int .i64 ((n : Int) + 1))).toNat < 49 - (intOf (.int .i64 (n : Int))).toNat
        simp [intOf]
        omega
    · have hnE : n = 49 := by omega
      subst hnE
      obtain ⟨k2, b2⟩ := PN.out.day HK.out hlt HDA.out
      go_wp2_with fail
      refine ⟨⟨⟨d + 1, by omega, M, hAD.ah, Lib.hid k2, Lib.hid b2, exFrame (by kernel_rfl)⟩⟩, ?_⟩
      show h.length - (intOf (.int .i64 ((d : Int) + 1))).toNat < h.length - (intOf (.int .i64 (d : Int))).toNat
      simp [intOf]
      omega
  have hdE : d = h.length := by omega
  subst hdE
  go_wp2
  go_ret
  exact ⟨⟨_, M, rfl, A1.mp, k1.out⟩, A1.bw⟩
end Go.Proofs.Ytlgmeofpkfliaaa
end

section
namespace Go.Proofs.Ytlgmeofpkfliaaa
open Go.RowKit
attribute [local go_sem] Ex.cell? Ex.frozen?

theorem agree_known {g : Gl} {h : List Rg} {l : List Ic} {o : Nat → Bool} (hok : Ok g h) {M : Nat → Nat → Nat → Bool} (hk : Known g h l o M h.length) (hn : ∀ r s, r < 52 → s < 31 → M h.length r s = false) : agreeB g h l o = false := by
  cases ha : agreeB g h l o
  · rfl
  · obtain ⟨σ, p, f⟩ := (agree_iff hok).1 ha
    have hb := path_bd hok p (d := h.length) (Nat.le_refl _)
    have hnh := hok.nh
    have hc : Can g h l o h.length (σ h.length) := (can_iff hok (Nat.le_refl _)).2 ⟨σ, p, f, rfl⟩
    generalize σ h.length = t at *
    obtain ⟨a, b⟩ := t
    simp only at hb
    have hm := (hk h.length a.toNat b.toNat (Nat.le_refl _) (by omega) (by omega)).2 (by rw [Int.toNat_of_nonneg (by omega), Int.toNat_of_nonneg (by omega)]; exact hc)
    rw [hn a.toNat b.toNat (by omega) (by omega)] at hm
    cases hm

set_option maxRecDepth 100000 in
set_option maxHeartbeats 3200000 in
theorem AgreeR_any (g : Gl) (Ab Ad Ah Ai Ao : Option Addr) (cb cd ch ci co : Nat) (h : List Rg) (l : List Ic) (out : List Int) (w : World) (hg : GlIn w w.heap.size g Ab Ad) (hh : SlAt w w.heap.size 2 Ah h.length (fR h)) (hi : SlAt w w.heap.size 3 Ai l.length (fC l)) (ho : SlAt w w.heap.size 1 Ao out.length (fI out))
    (hok : Ok g h) (hbd : IcesBd l) (hl : l.length ≤ 1000000) (hol : out.length ≤ 1000000) :
    Calls Try.prog 24 #[.agg #[.int .i64 g.base, .slice Ab g.bands.length cb, .slice Ad g.depths.length cd, .int .i64 g.blo, .int .i64 g.bhi], .slice Ah h.length ch, .slice Ai l.length ci, .slice Ao out.length co] w fun e w' => e = .returned (.bool (agreeB g h l (fun j => hasB out (j : Int)))) ∧ Below w.heap.size w w' := by
  have hb1 := ex_alloc (Below.refl w.heap.size w) (.cells #[.int .i64 g.base, .slice Ab g.bands.length cb, .slice Ad g.depths.length cd, .int .i64 g.blo, .int .i64 g.bhi] 27)
  have hnh := hok.nh
  have HK := Lib.hid hok
  go_enter Try.func24, Try.ntmps24
  go_wp2_with fail
  refine (Ahead_any g _ _ _ _ _ _ _ _ _ _ h l out _ ((hg.below hb1).up hb1.size) ((hh.below hb1).up hb1.size) ((hi.below hb1).up hb1.size) ((ho.below hb1).up hb1.size) hok hbd hl hol).mono ?_
  rintro e w2 ⟨⟨q, M, rfl, hm, hk⟩, hb2⟩
  have HKN := Lib.hid hk
  have hB := ex_trans hb1 hb2
  clear hk hok
  go_wp2_with fail
  refine wp_loop (fun a W => Rel (fun a W => ∃ r : Nat, r ≤ 52 ∧ W = w2 ∧ Hid (∀ r' s', r' < r → s' < 31 → M h.length r' s' = false) ∧ ∃ u : Nat → Value, a = ⟨List.toArray (u 0 :: .slice Ah h.length ch :: u 2 :: u 3 :: u 4 :: u 5 :: u 6 :: u 7 :: u 8 :: .pointer (some ⟨q, 0, none⟩) :: .int .i64 (r : Int) :: u 11 :: u 12 :: u 13 :: u 14 :: u 15 :: u 16 :: u 17 :: u 18 :: u 19 :: u 20 :: u 21 :: u 22 :: u 23 :: u 24 :: u 25 :: u 26 :: u 27 :: u 28 :: u 29 :: u 30 :: u 31 :: u 32 :: u 33 :: u 34 :: []), []⟩) a W)
    (fun a _ => 52 - (intOf (a.tmps.getD 10 undef)).toNat) ⟨⟨0, by omega, rfl, Lib.hid (fun r' s' h1 => by omega), exFrame (by kernel_rfl)⟩⟩ ?_
  rintro a W ⟨⟨r, hr, rfl, HR, u, rfl⟩⟩
  by_cases hr52 : r < 52
  · go_wp2_with fail
    refine wp_loop (fun a W' => Rel (fun a W' => ∃ s : Nat, s ≤ 31 ∧ W' = W ∧ Hid (∀ s', s' < s → M h.length r s' = false) ∧ ∃ u : Nat → Value, a = ⟨List.toArray (u 0 :: .slice Ah h.length ch :: u 2 :: u 3 :: u 4 :: u 5 :: u 6 :: u 7 :: u 8 :: .pointer (some ⟨q, 0, none⟩) :: .int .i64 (r : Int) :: .int .i64 (s : Int) :: u 12 :: u 13 :: u 14 :: u 15 :: u 16 :: u 17 :: u 18 :: u 19 :: u 20 :: u 21 :: u 22 :: u 23 :: u 24 :: u 25 :: u 26 :: u 27 :: u 28 :: u 29 :: u 30 :: u 31 :: u 32 :: u 33 :: u 34 :: []), []⟩) a W')
      (fun a _ => 31 - (intOf (a.tmps.getD 11 undef)).toNat) ⟨⟨0, by omega, rfl, Lib.hid (fun s' h1 => by omega), exFrame (by kernel_rfl)⟩⟩ ?_
    rintro a W' ⟨⟨s, hs, rfl, HS, u, rfl⟩⟩
    by_cases hs31 : s < 31
    · have hd17 : h.length < 17 := by omega
      have mc := hm.cell hd17 hr52 hs31
      have lm := hm.lt
      cases hM : M h.length r s
      · rw [hM] at mc
        have HS2 := Lib.hid (show ∀ s', s' < s + 1 → M h.length r s' = false from fun s' h1 => by
          rcases Nat.lt_succ_iff_lt_or_eq.1 h1 with h2 | h2
          · exact HS.out s' h2
          · subst h2; exact hM)
        clear hM
        go_wp2_with fail
        refine ⟨⟨⟨s + 1, by omega, rfl, HS2, exFrame (by kernel_rfl)⟩⟩, ?_⟩
        show 31 - (intOf (.int .i64 ((s : Int) + 1))).toNat < 31 - (intOf (.int .i64 (s : Int))).toNat
        simp [intOf]
        omega
      · rw [hM] at mc
        have HA : Hid (agreeB g h l (fun j => hasB out (j : Int)) = true) := Lib.hid (agreeB_iff.2 ⟨_, (HKN.out h.length r s (Nat.le_refl _) hr52 hs31).1 hM⟩)
        clear hM
        go_wp2
        go_ret
        exact ⟨by rw [HA.out]; rfl, hB⟩
    · have hsE : s = 31 := by omega
      subst hsE
      have HR2 := Lib.hid (show ∀ r' s', r' < r + 1 → s' < 31 → M h.length r' s' = false from fun r' s' h1 h2 => by
        rcases Nat.lt_succ_iff_lt_or_eq.1 h1 with h3 | h3
        · exact HR.out r' s' h3 h2
        · subst h3; exact HS.out s' h2)
      go_wp2_with fail
      refine ⟨⟨⟨r + 1, by omega, rfl, HR2, exFrame (by kernel_rfl)⟩⟩, ?_⟩
      show 52 - (intOf (.int .i64 ((r : Int) + 1))).toNat < 52 - (intOf (.int .i64 (r : Int))).toNat
      simp [intOf]
      omega
  · have hrE : r = 52 := by omega
    subst hrE
    have HA : Hid (agreeB g h l (fun j => hasB out (j : Int)) = false) := Lib.hid (agree_known HK.out HKN.out HR.out)
    go_wp2
    go_ret
    exact ⟨by rw [HA.out]; rfl, hB⟩
end Go.Proofs.Ytlgmeofpkfliaaa
end
