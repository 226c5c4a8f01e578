/- The law's own truths: word, picked, Picked (walks). · Readings of arguments: words, and small integers. · Readings of arguments: one range, one ice. · The law's own truths: Picked (walk). · The law's own truths: Picked (walk). · The law's own ices: Read (walk). · The law GlassTruth (plain): a truth in which all ices are true. · The laws GlassEnds, GlassLonger, GlassAlone (plain). · The law GlassHigher (plain): all higher by one number. · Fewest (plain): the lists that are tried. · Zeros, Shows, Fewest, Blame in one form each: what they tell stands behind a fact that is looked at last. · A cell of a row that the call owns is written. · Stem: without, least, greatest, span (walks). · A load of a whole struct of many cells in a drawn region, out of a block known whole. · Stem: span (walk). -/
import Derived.Test.YtkaogjhnogkcdaaGreatJ12
import Derived.Test.YtkaogjhnogkcdaaGreatJ11
import Derived.Test.YtkaogjhnogkcdaaGreatJ10
import Derived.Test.YtkaogjhnogkcdaaGreatJ9
import Derived.Test.YtkaogjhnogkcdaaGreatJ14
set_option linter.unusedVariables false
set_option linter.unusedSimpArgs false
set_option linter.unusedSectionVars false
section
namespace Go.Proofs.YtkaogjhnogkcdaaGreat
open Go.RowKit
attribute [local go_sem] Ex.cell? Ex.frozen? Gx.cell?

def fU (l : List Int) (k _j : Nat) : Value := .int .u16 (gI l k)
theorem IsWords.at_ {w : World} {B : Nat} {A : Option Addr} {l : List Int} (h : SlAt w B 1 A l.length (fU l)) {k : Nat} (hk : k < l.length) : ∃ b off, A = some ⟨b, off, none⟩ ∧ b < B ∧ w.cell? ⟨b, off + k, none⟩ = some (.int .u16 (gI l k)) := by
 obtain ⟨b, off, rfl, hb, hc⟩ := h (by omega)
 have := hc k 0 hk (by omega)
 exact ⟨b, off, rfl, hb, by simpa [fU] using this⟩

set_option maxHeartbeats 800000 in
theorem word_any (A : Option Addr) (c : Nat) (l : List Int) (at_ : Int) (w : World) (hA : SlAt w w.heap.size 1 A l.length (fU l)) (hw : ∀ k, k < l.length → 0 ≤ gI l k ∧ gI l k ≤ 65535) (h0 : 0 ≤ at_) (h1 : at_ ≤ 1000) (hl : l.length ≤ maxLen) :
  Calls Tryz.prog 106 #[.slice A l.length c, .int .i64 at_] w fun e w' => (∃ n : Int, e = .returned (.int .i64 n) ∧ 0 ≤ n ∧ n ≤ 65535) ∧ Below w.heap.size w w' := by
 unfold maxLen at hl
 by_cases h : l.length = 0
 ·
  have HL := Lib.hid h
  clear h
  go_enter Tryz.func106, Tryz.ntmps106
  rw [HL.out]
  go_wp2
  go_ret
  exact ⟨⟨0, rfl, by omega, by omega⟩, Below.refl _ _⟩
 ·
  have hk : (at_ % (l.length : Int)).toNat < l.length := by
   have := Int.emod_lt_of_pos at_ (show (0 : Int) < (l.length : Int) by omega)
   have := Int.emod_nonneg at_ (show (l.length : Int) ≠ 0 by omega)
   omega
  have hr0 := Int.emod_nonneg at_ (show (l.length : Int) ≠ 0 by omega)
  have hr1 := Int.emod_lt_of_pos at_ (show (0 : Int) < (l.length : Int) by omega)
  obtain ⟨m, hm⟩ : ∃ m : Nat, at_ % (l.length : Int) = (m : Int) := ⟨(at_ % (l.length : Int)).toNat, by omega⟩
  have hmk : m < l.length := by omega
  obtain ⟨b, off, rfl, hb, hc⟩ := IsWords.at_ hA hmk
  have hv := hw _ hmk
  have e0 : ((l.length : Int) == 0) = false := by simpa using h
  have e0' : (l.length == 0) = false := by simpa using h
  have h1l : (1 : Int) ≤ (l.length : Int) := by omega
  have e2 : IntKind.i64.wrap (gI l m) = gI l m := IntWalk.i64_in _ (by omega)
  clear hk hr0 hr1
  go_enter Tryz.func106, Tryz.ntmps106
  go_wp2
  go_ret
  exact ⟨⟨_, rfl, hv.1, hv.2⟩, Below.refl _ _⟩


set_option maxHeartbeats 800000 in
theorem picked_any (lo hi n : Int) (w : World) (h0 : 0 ≤ n) (h1 : n ≤ 65535) (hl : -100000 ≤ lo) (hlh : lo ≤ hi) (hh : hi ≤ 100000) :
  Calls Tryz.prog 105 #[.agg #[.int .i64 lo, .int .i64 hi], .int .i64 n] w fun e w' => (∃ x : Int, e = .returned (.int .i64 x) ∧ lo ≤ x ∧ x ≤ hi) ∧ Below w.heap.size w w' := by
 have hb := ex_alloc (Below.refl w.heap.size w) (.cells #[.int .i64 lo, .int .i64 hi] 25)
 by_cases c0 : n % 4 = 0
 ·
  have e0 : (n % 4 == 0) = true := by simp [c0]
  go_enter Tryz.func105, Tryz.ntmps105
  go_wp2
  go_ret
  exact ⟨⟨lo, rfl, by omega, by omega⟩, hb⟩
 have e0 : (n % 4 == 0) = false := by simp [c0]
 by_cases c1 : n % 4 = 1
 ·
  have e1 : (n % 4 == 1) = true := by simp [c1]
  go_enter Tryz.func105, Tryz.ntmps105
  go_wp2
  go_ret
  exact ⟨⟨hi, rfl, by omega, by omega⟩, hb⟩
 have e1 : (n % 4 == 1) = false := by simp [c1]
 clear c0 c1
 go_enter Tryz.func105, Tryz.ntmps105
 go_wp2
 have k0 : (hi - lo + 1 == 0) = false := by rw [beq_eq_false_iff_ne]; omega
 have k1 : IntKind.i64.wrap (hi - lo) = hi - lo := IntWalk.i64_in _ (by omega)
 have k2 : IntKind.i64.wrap (hi - lo + 1) = hi - lo + 1 := IntWalk.i64_in _ (by omega)
 have k3 : IntKind.i64.wrap (n.tdiv 4) = n / 4 := by rw [Int.tdiv_eq_ediv_of_nonneg h0]; exact IntWalk.i64_in _ (by omega)
 have r0 : 0 ≤ (n / 4) % (hi - lo + 1) := Int.emod_nonneg _ (by omega)
 have r1 : (n / 4) % (hi - lo + 1) < hi - lo + 1 := Int.emod_lt_of_pos _ (by omega)
 have k4 : IntKind.i64.wrap ((n / 4).tmod (hi - lo + 1)) = (n / 4) % (hi - lo + 1) := by rw [Int.tmod_eq_emod_of_nonneg (by omega)]; exact IntWalk.i64_in _ (by omega)
 have k5 : IntKind.i64.wrap (lo + (n / 4) % (hi - lo + 1)) = lo + (n / 4) % (hi - lo + 1) := IntWalk.i64_in _ (by omega)
 refine wp_region_ext (by kernel_rfl) (by kernel_rfl) ?_
 repeat (any_goals (go_big_quiet_step (fail)))
 refine wpQuiet_nil ?_; intro _ hw'; obtain ⟨X, rfl⟩ := hw'
 go_wp2
 go_ret
 exact ⟨⟨_, rfl, by omega, by omega⟩, ex_trans hb X.h⟩

end Go.Proofs.YtkaogjhnogkcdaaGreat
end

section
namespace Go.Proofs.YtkaogjhnogkcdaaGreat
open Go.RowKit Go.ChangeShapes Go.WideShapes Go.ChangeAt

theorem wf_u16 {n : Int} (h : (Lit.int .u16 n).wf = true) : 0 ≤ n ∧ n ≤ 65535 := by
 simp only [Lit.wf, Bool.and_eq_true, decide_eq_true_eq] at h
 exact ⟨h.1, h.2⟩
theorem wf_u8 {n : Int} (h : (Lit.int .u8 n).wf = true) : 0 ≤ n ∧ n ≤ 255 := by
 simp only [Lit.wf, Bool.and_eq_true, decide_eq_true_eq] at h
 exact ⟨h.1, h.2⟩
abbrev Wd := {n : Int // 0 ≤ n ∧ n ≤ 65535}
instance : Inhabited Wd := ⟨⟨0, by omega⟩⟩

section
variable {H : Type} {enc : TypeId × Value → H} {w : World} {base : Nat} {spare : Nat → Bool} {held : Bool} {r : Reach} {b0 : Nat}
set_option maxRecDepth 100000 in
theorem open_int {t : TypeId} {k : IntKind} (ht : Tryz.prog.underlying t = some (.int k)) {v : Value} {d : DataW H} {p : List MemPlace} (hv : Value.okWide Tryz.prog w r b0 t v) (h : DataW.Trod enc Tryz.prog w base spare held t v d p) : ∃ n, v = .int k n ∧ (Lit.int k n).wf = true := by
 obtain ⟨n, rfl⟩ := okWide_int ht hv
 obtain ⟨fuel, hf⟩ := h
 obtain ⟨m, h1, h2⟩ := tr_int ht hf
 injection h1 with h1 _
 exact ⟨m, h1, h2⟩
set_option maxRecDepth 100000 in
theorem open_words {v : Value} {d : DataW H} {p : List MemPlace} (hv : Value.okWide Tryz.prog w r b0 71 v) (h : DataW.Trod enc Tryz.prog w base spare held 71 v d p) :
  ∃ A l cp, v = .slice A (l : List Int).length cp ∧ l.length ≤ maxLen ∧ SlAt w w.heap.size 1 A l.length (fU l) ∧ ∀ k, k < l.length → 0 ≤ gI l k ∧ gI l k ≤ 65535 := by
 obtain ⟨a, len, cap, rfl⟩ := okWide_slice Tryz.underlying71 hv
 obtain ⟨fuel, hf⟩ := h
 obtain ⟨A, l, cp, h1, h2, h3, h4⟩ := tr_sl (sz := 1) (α := Wd) (c := fun n => [.int .u16 n.1]) Tryz.underlying71 (by omega) (by kernel_rfl) (fun h => by obtain ⟨n, hn, hw⟩ := tr_int Tryz.underlying173 h; exact ⟨⟨n, wf_u16 hw⟩, hn⟩) (fun _ => rfl) hf
 have hl : (l.map (·.1)).length = l.length := by simp
 have hg : ∀ k (hk : k < l.length), gI (l.map (·.1)) k = (l[k]).1 := fun k hk => by simp [gI, hk]
 refine ⟨A, l.map (·.1), cp, by injection h1 with h1 _; rw [h1, hl], by rw [hl]; omega, ?_, fun k hk => ?_⟩
 ·
  rw [hl]
  refine h4 _ (fun k hk j hj => ?_)
  obtain rfl : j = 0 := by omega
  show some (Value.int .u16 (l[k]).1) = some (.int .u16 (gI (l.map (·.1)) k))
  rw [hg k hk]
 ·
  rw [hg k (by rwa [hl] at hk)]
  exact (l[k]'(by rwa [hl] at hk)).2
end
end Go.Proofs.YtkaogjhnogkcdaaGreat
end

section
namespace Go.Proofs.YtkaogjhnogkcdaaGreat
open Go.RowKit Go.ChangeShapes Go.WideShapes Go.ChangeAt
section
variable {H : Type} {enc : TypeId × Value → H} {w : World} {base : Nat} {spare : Nat → Bool} {held : Bool} {r : Reach} {b0 : Nat}
end
end Go.Proofs.YtkaogjhnogkcdaaGreat
end

section
namespace Go.Proofs.YtkaogjhnogkcdaaGreat
open Go.RowKit
attribute [local go_sem] Ex.cell? Ex.frozen? Gx.cell?

structure TR (gc : Array Value) (w : World) (v1 v2 v3 : Value) (l1 l2 l3 : List Int) (W : World) : Prop where
  bw : Below w.heap.size w W
  q1 : Blk W w.heap.size 27 gc
  qr : Blk W (w.heap.size + 1) 143 #[.slice none 0 0, .slice none 0 0, .slice none 0 0]
  qp : Blk W (w.heap.size + 1 + 1) 143 #[v1, v2, v3]
  o1 : W.ownsRow (w.heap.size + 1 + 1) 3 1 v1 l1.length (l1.map (Value.int .i64))
  o2 : W.ownsRow (w.heap.size + 1 + 1) 3 1 v2 l2.length (l2.map (Value.int .i64))
  o3 : W.ownsRow (w.heap.size + 1 + 1) 3 1 v3 l3.length (l3.map (Value.int .i64))
  n12 : ∀ b, v1.ownBlock = some b → v2.ownBlock ≠ some b
  n13 : ∀ b, v1.ownBlock = some b → v3.ownBlock ≠ some b
  n23 : ∀ b, v2.ownBlock = some b → v3.ownBlock ≠ some b

theorem TR.below {gc : Array Value} {w : World} {v1 v2 v3 : Value} {l1 l2 l3 : List Int} {W W' : World} (h : TR gc w v1 v2 v3 l1 l2 l3 W) (hb : Below W.heap.size W W') : TR gc w v1 v2 v3 l1 l2 l3 W' :=
  ⟨ex_trans h.bw hb, h.q1.below hb h.q1.lt, h.qr.below hb h.qr.lt, h.qp.below hb h.qp.lt, own_below h.o1 hb, own_below h.o2 hb, own_below h.o3 hb, h.n12, h.n13, h.n23⟩

theorem TR.step1 {gc : Array Value} {w : World} {v1 v2 v3 : Value} {l1 l2 l3 : List Int} {W W1 : World} (h : TR gc w v1 v2 v3 l1 l2 l3 W) {gg cap : Nat} {x : Int} (hgB : W.grownBy W1 v1.ownBlock)
    (hown : W1.ownsRow (w.heap.size + 1 + 1) 3 1 (.slice (some ⟨gg, 0, none⟩) (l1.length + 1) cap) (l1.length + 1) (l1.map (Value.int .i64) ++ [.int .i64 x])) (hat : v1.ownBlock = some gg ∨ W.heap.size ≤ gg) :
    TR gc w (.slice (some ⟨gg, 0, none⟩) (l1.length + 1) cap) v2 v3 (l1 ++ [x]) l2 l3 (W1.setCell ⟨w.heap.size + 1 + 1, 0, none⟩ (.slice (some ⟨gg, 0, none⟩) (l1.length + 1) cap)) := by
  have hf : Fr (fun b => b = w.heap.size + 1 + 1 ∨ v1.ownBlock = some b) W (W1.setCell ⟨w.heap.size + 1 + 1, 0, none⟩ (.slice (some ⟨gg, 0, none⟩) (l1.length + 1) cap)) := (Fr.grown hgB (fun b hb => .inl (.inr hb))).andSet (.inl rfl)
  have hno : ∀ x, x < w.heap.size + 1 + 1 → ¬ (x = w.heap.size + 1 + 1 ∨ v1.ownBlock = some x) := fun x h1 h2 => by
    rcases h2 with h2 | h2
    · omega
    · have := own_ge h.o1 h2; omega
  have hnp : ¬ some (w.heap.size + 1 + 1) = v1.ownBlock := fun e => own_blkne h.o1 h.qp (by decide) e.symm
  have hq := (h.qp.grown hgB hnp).set_ 0 (.slice (some ⟨gg, 0, none⟩) (l1.length + 1) cap)
  simp only [List.setIfInBounds_toArray, List.set_cons_zero, List.set_cons_succ] at hq
  exact ⟨hf.toBelow h.bw h.bw.size (fun x hx => by
    rcases hx with hx | hx
    · omega
    · have := own_ge h.o1 hx; omega), h.q1.fr hf (hno _ (by omega)), h.qr.fr hf (hno _ (by omega)), hq, own_fr (own_snoc rfl hown) (Fr.set (R := fun b => b = w.heap.size + 1 + 1) _ _ _ _ rfl) (fun b hb hbp => own_blkne hown (h.qp.grown hgB hnp) (by decide) (hbp ▸ hb)), own_fr h.o2 hf (fun b hb hbp => by
    rcases hbp with hbp | hbp
    · exact own_blkne h.o2 h.qp (by decide) (hbp ▸ hb)
    · exact h.n12 b hbp hb), own_fr h.o3 hf (fun b hb hbp => by
    rcases hbp with hbp | hbp
    · exact own_blkne h.o3 h.qp (by decide) (hbp ▸ hb)
    · exact h.n13 b hbp hb), (fun b hb hc => by
    have hb' : gg = b := by simpa [Value.ownBlock] using hb
    subst hb'
    rcases hat with hat | hat
    · exact h.n12 gg hat hc
    · have := own_lt h.o2 hc; omega), (fun b hb hc => by
    have hb' : gg = b := by simpa [Value.ownBlock] using hb
    subst hb'
    rcases hat with hat | hat
    · exact h.n13 gg hat hc
    · have := own_lt h.o3 hc; omega), h.n23⟩

theorem TR.step2 {gc : Array Value} {w : World} {v1 v2 v3 : Value} {l1 l2 l3 : List Int} {W W1 : World} (h : TR gc w v1 v2 v3 l1 l2 l3 W) {gg cap : Nat} {x : Int} (hgB : W.grownBy W1 v2.ownBlock)
    (hown : W1.ownsRow (w.heap.size + 1 + 1) 3 1 (.slice (some ⟨gg, 0, none⟩) (l2.length + 1) cap) (l2.length + 1) (l2.map (Value.int .i64) ++ [.int .i64 x])) (hat : v2.ownBlock = some gg ∨ W.heap.size ≤ gg) :
    TR gc w v1 (.slice (some ⟨gg, 0, none⟩) (l2.length + 1) cap) v3 l1 (l2 ++ [x]) l3 (W1.setCell ⟨w.heap.size + 1 + 1, 1, none⟩ (.slice (some ⟨gg, 0, none⟩) (l2.length + 1) cap)) := by
  have hf : Fr (fun b => b = w.heap.size + 1 + 1 ∨ v2.ownBlock = some b) W (W1.setCell ⟨w.heap.size + 1 + 1, 1, none⟩ (.slice (some ⟨gg, 0, none⟩) (l2.length + 1) cap)) := (Fr.grown hgB (fun b hb => .inl (.inr hb))).andSet (.inl rfl)
  have hno : ∀ x, x < w.heap.size + 1 + 1 → ¬ (x = w.heap.size + 1 + 1 ∨ v2.ownBlock = some x) := fun x h1 h2 => by
    rcases h2 with h2 | h2
    · omega
    · have := own_ge h.o2 h2; omega
  have hnp : ¬ some (w.heap.size + 1 + 1) = v2.ownBlock := fun e => own_blkne h.o2 h.qp (by decide) e.symm
  have hq := (h.qp.grown hgB hnp).set_ 1 (.slice (some ⟨gg, 0, none⟩) (l2.length + 1) cap)
  simp only [List.setIfInBounds_toArray, List.set_cons_zero, List.set_cons_succ] at hq
  exact ⟨hf.toBelow h.bw h.bw.size (fun x hx => by
    rcases hx with hx | hx
    · omega
    · have := own_ge h.o2 hx; omega), h.q1.fr hf (hno _ (by omega)), h.qr.fr hf (hno _ (by omega)), hq, own_fr h.o1 hf (fun b hb hbp => by
    rcases hbp with hbp | hbp
    · exact own_blkne h.o1 h.qp (by decide) (hbp ▸ hb)
    · exact h.n12 b hb hbp), own_fr (own_snoc rfl hown) (Fr.set (R := fun b => b = w.heap.size + 1 + 1) _ _ _ _ rfl) (fun b hb hbp => own_blkne hown (h.qp.grown hgB hnp) (by decide) (hbp ▸ hb)), own_fr h.o3 hf (fun b hb hbp => by
    rcases hbp with hbp | hbp
    · exact own_blkne h.o3 h.qp (by decide) (hbp ▸ hb)
    · exact h.n23 b hbp hb), (fun b hb hc => by
    have hb' : gg = b := by simpa [Value.ownBlock] using hc
    subst hb'
    rcases hat with hat | hat
    · exact h.n12 gg hb hat
    · have := own_lt h.o1 hb; omega), h.n13, (fun b hb hc => by
    have hb' : gg = b := by simpa [Value.ownBlock] using hb
    subst hb'
    rcases hat with hat | hat
    · exact h.n23 gg hat hc
    · have := own_lt h.o3 hc; omega)⟩

theorem TR.step3 {gc : Array Value} {w : World} {v1 v2 v3 : Value} {l1 l2 l3 : List Int} {W W1 : World} (h : TR gc w v1 v2 v3 l1 l2 l3 W) {gg cap : Nat} {x : Int} (hgB : W.grownBy W1 v3.ownBlock)
    (hown : W1.ownsRow (w.heap.size + 1 + 1) 3 1 (.slice (some ⟨gg, 0, none⟩) (l3.length + 1) cap) (l3.length + 1) (l3.map (Value.int .i64) ++ [.int .i64 x])) (hat : v3.ownBlock = some gg ∨ W.heap.size ≤ gg) :
    TR gc w v1 v2 (.slice (some ⟨gg, 0, none⟩) (l3.length + 1) cap) l1 l2 (l3 ++ [x]) (W1.setCell ⟨w.heap.size + 1 + 1, 2, none⟩ (.slice (some ⟨gg, 0, none⟩) (l3.length + 1) cap)) := by
  have hf : Fr (fun b => b = w.heap.size + 1 + 1 ∨ v3.ownBlock = some b) W (W1.setCell ⟨w.heap.size + 1 + 1, 2, none⟩ (.slice (some ⟨gg, 0, none⟩) (l3.length + 1) cap)) := (Fr.grown hgB (fun b hb => .inl (.inr hb))).andSet (.inl rfl)
  have hno : ∀ x, x < w.heap.size + 1 + 1 → ¬ (x = w.heap.size + 1 + 1 ∨ v3.ownBlock = some x) := fun x h1 h2 => by
    rcases h2 with h2 | h2
    · omega
    · have := own_ge h.o3 h2; omega
  have hnp : ¬ some (w.heap.size + 1 + 1) = v3.ownBlock := fun e => own_blkne h.o3 h.qp (by decide) e.symm
  have hq := (h.qp.grown hgB hnp).set_ 2 (.slice (some ⟨gg, 0, none⟩) (l3.length + 1) cap)
  simp only [List.setIfInBounds_toArray, List.set_cons_zero, List.set_cons_succ] at hq
  exact ⟨hf.toBelow h.bw h.bw.size (fun x hx => by
    rcases hx with hx | hx
    · omega
    · have := own_ge h.o3 hx; omega), h.q1.fr hf (hno _ (by omega)), h.qr.fr hf (hno _ (by omega)), hq, own_fr h.o1 hf (fun b hb hbp => by
    rcases hbp with hbp | hbp
    · exact own_blkne h.o1 h.qp (by decide) (hbp ▸ hb)
    · exact h.n13 b hb hbp), own_fr h.o2 hf (fun b hb hbp => by
    rcases hbp with hbp | hbp
    · exact own_blkne h.o2 h.qp (by decide) (hbp ▸ hb)
    · exact h.n23 b hb hbp), own_fr (own_snoc rfl hown) (Fr.set (R := fun b => b = w.heap.size + 1 + 1) _ _ _ _ rfl) (fun b hb hbp => own_blkne hown (h.qp.grown hgB hnp) (by decide) (hbp ▸ hb)), h.n12, (fun b hb hc => by
    have hb' : gg = b := by simpa [Value.ownBlock] using hc
    subst hb'
    rcases hat with hat | hat
    · exact h.n13 gg hb hat
    · have := own_lt h.o1 hb; omega), (fun b hb hc => by
    have hb' : gg = b := by simpa [Value.ownBlock] using hc
    subst hb'
    rcases hat with hat | hat
    · exact h.n23 gg hb hat
    · have := own_lt h.o2 hb; omega)⟩

theorem gI_snoc {l : List Int} {x : Int} {j : Nat} (h : j < l.length) : gI (l ++ [x]) j = gI l j := by simp [gI, List.getElem?_append, h]
theorem gI_last {l : List Int} {x : Int} : gI (l ++ [x]) l.length = x := by simp [gI]

end Go.Proofs.YtkaogjhnogkcdaaGreat
end

section
namespace Go.Proofs.YtkaogjhnogkcdaaGreat
open Go.RowKit
attribute [local go_sem] Ex.cell? Ex.frozen? Gx.cell?

theorem dayOk_snoc {g : Gl} {h : List Rg} {l1 l2 l3 : List Int} {x1 x2 x3 : Int} {k : Nat} (e1 : l1.length = k) (e2 : l2.length = k) (e3 : l3.length = k) (hd : ∀ j, j < k → dayOk g h l1 l2 l3 j = true)
    (h1 : (gR h k).lo ≤ x1 ∧ x1 ≤ (gR h k).hi) (h2 : (creep g k).lo ≤ x2 ∧ x2 ≤ (creep g k).hi) (h3 : g.blo ≤ x3 ∧ x3 ≤ g.bhi) : ∀ j, j < k + 1 → dayOk g h (l1 ++ [x1]) (l2 ++ [x2]) (l3 ++ [x3]) j = true := fun j hj => by
  rcases Nat.lt_succ_iff_lt_or_eq.1 hj with hj | hj
  · have := dayOk_iff.1 (hd j hj)
    rw [dayOk_iff, gI_snoc (by omega), gI_snoc (by omega), gI_snoc (by omega)]
    exact this
  · subst hj
    have g1 : gI (l1 ++ [x1]) j = x1 := by have := gI_last (l := l1) (x := x1); rwa [e1] at this
    have g2 : gI (l2 ++ [x2]) j = x2 := by have := gI_last (l := l2) (x := x2); rwa [e2] at this
    have g3 : gI (l3 ++ [x3]) j = x3 := by have := gI_last (l := l3) (x := x3); rwa [e3] at this
    rw [dayOk_iff, g1, g2, g3]
    exact ⟨h1, h2, h3⟩

set_option maxRecDepth 100000 in
set_option maxHeartbeats 6400000 in
theorem Picked_any (g : Gl) (Ab Ad Ah Aw : Option Addr) (cb cd ch cw : Nat) (h : List Rg) (ws : List Int) (w : World) (hg : GlIn w w.heap.size g Ab Ad) (hh : SlAt w w.heap.size 2 Ah h.length (fR h)) (hw : SlAt w w.heap.size 1 Aw ws.length (fU ws))
    (hwb : ∀ k, k < ws.length → 0 ≤ gI ws k ∧ gI ws k ≤ 65535) (hwl : ws.length ≤ maxLen) (hok : Ok g h) :
    Calls Tryz.prog 76 #[.agg #[.int .i64 g.base, .slice Ab g.bands.length cb, .slice Ad g.depths.length cd, .int .i64 g.blo, .int .i64 g.bhi], .slice Ah h.length ch, .slice Aw ws.length cw] w fun e w' => (∃ A1 A2 A3 c1 c2 c3, ∃ t1 t2 t3 : List Int, e = .returned (.agg #[.slice A1 t1.length c1, .slice A2 t2.length c2, .slice A3 t3.length c3]) ∧ truthB g h t1 t2 t3 = true ∧
      SlAt w' w'.heap.size 1 A1 t1.length (fI t1) ∧ SlAt w' w'.heap.size 1 A2 t2.length (fI t2) ∧ SlAt w' w'.heap.size 1 A3 t3.length (fI t3)) ∧ Below w.heap.size w w' := by
  obtain ⟨i0, hi0, hz0', hz1', hz2'⟩ := info_parts int_info
  have HI := Lib.hid hi0
  clear hi0
  have hb1 := ex_alloc (ex_alloc (ex_alloc (Below.refl w.heap.size w) (.cells #[.int .i64 g.base, .slice Ab g.bands.length cb, .slice Ad g.depths.length cd, .int .i64 g.blo, .int .i64 g.bhi] 27)) (.cells #[.slice none 0 0, .slice none 0 0, .slice none 0 0] 143)) (.cells #[.slice none 0 0, .slice none 0 0, .slice none 0 0] 143)
  have hnh := hok.nh.2
  have hlb : g.bands.length ≤ 1000000 := by have := hok.nb; omega
  have HK := Lib.hid hok
  clear hok
  go_enter Tryz.func76, Tryz.ntmps76
  go_wp2_with fail
  go_loopw [8] (fun i wr => ∃ (k : Nat) (v1 v2 v3 : Value) (l1 l2 l3 : List Int), k ≤ h.length ∧ i = .int .i64 k ∧ TR #[.int .i64 g.base, .slice Ab g.bands.length cb, .slice Ad g.depths.length cd, .int .i64 g.blo, .int .i64 g.bhi] w v1 v2 v3 l1 l2 l3 wr ∧ l1.length = k ∧ l2.length = k ∧ l3.length = k ∧ ∀ j, j < k → dayOk g h l1 l2 l3 j = true)
    (fun i _ => h.length - (intOf i).toNat)
  case atStart => exact ⟨0, _, _, _, [], [], [], by omega, rfl, ⟨hb1, ((Blk.new _ _ _).alloc _).alloc _, (Blk.new' _ _ _ (by simp)).alloc _, Blk.new' _ _ _ (by simp), ⟨rfl, .inl ⟨rfl, rfl⟩⟩, ⟨rfl, .inl ⟨rfl, rfl⟩⟩, ⟨rfl, .inl ⟨rfl, rfl⟩⟩, fun b hb => by simp [Value.ownBlock] at hb, fun b hb => by simp [Value.ownBlock] at hb, fun b hb => by simp [Value.ownBlock] at hb⟩, rfl, rfl, rfl, fun j hj => by omega⟩
  case round =>
    obtain ⟨k, v1, v2, v3, l1, l2, l3, hk, rfl, T0, hl1, hl2, hl3, hdays⟩ := hrel
    have HL1 := Lib.hid hl1
    have HL2 := Lib.hid hl2
    have HL3 := Lib.hid hl3
    have HDAYS := Lib.hid hdays
    clear hl1 hl2 hl3 hdays hb1
    by_cases hlt : k < h.length
    · have r1 := HK.out.heats k hlt
      have r2 : 0 ≤ (creepTo g.bands (k : Int) g.bands.length).lo ∧ (creepTo g.bands (k : Int) g.bands.length).lo ≤ (creepTo g.bands (k : Int) g.bands.length).hi ∧ (creepTo g.bands (k : Int) g.bands.length).hi ≤ 3 := HK.out.creep k
      have r3 := HK.out.back
      have m1 : IntKind.i64.wrap (3 * (k : Int)) = 3 * (k : Int) := IntWalk.i64_in _ (by omega)
      have m2 : IntKind.i64.wrap (3 * (k : Int) + 1) = 3 * (k : Int) + 1 := IntWalk.i64_in _ (by omega)
      have m3 : IntKind.i64.wrap (3 * (k : Int) + 2) = 3 * (k : Int) + 2 := IntWalk.i64_in _ (by omega)

      -- list 1
      obtain ⟨row, hrow⟩ : ∃ row, v1.ownBlock = row := ⟨_, rfl⟩
      have lg := T0.q1.lt
      have lp := T0.qp.lt
      have e1 : wr.cell? ⟨w.heap.size + 1 + 1, 0, none⟩ = some v1 := T0.qp.cell 0
      have hn2 : ¬ some w.heap.size = row := fun e => by have := own_ge T0.o1 (hrow.trans e.symm); omega
      have hn3 : ¬ some (w.heap.size + 1 + 1) = row := fun e => own_blkne T0.o1 T0.qp (by decide) (hrow.trans e.symm)
      have hown := T0.o1
      have hwr := T0.bw
      have hwrs := T0.bw.size
      obtain ⟨bh, oh, rfl, hbh, s0, s1⟩ := IsRgs.at_ (hh.below hwr) hlt
      have hbr : bh < wr.heap.size := by omega
      have hn1 : ¬ some bh = row := fun e => by have := own_ge hown (hrow.trans e.symm); omega
      have HROW := Lib.hid hrow
      have HT1 := Lib.hid T0
      clear hrow T0
      go_wp2_with fail
      refine wp_region_gx_mix row 13 [(false, 0), (false, 1), (false, 2), (false, 3), (false, 4), (false, 5), (false, 6), (false, 7), (false, 8), (true, 9), (true, 10), (true, 11), (true, 12)] (by kernel_rfl) (by kernel_rfl) (by intro d _ _ _ _ h; cases d <;> exact h) ?_
      repeat (refine mix_quiet rfl ?_; go_big_quiet_step (fail); refine wpQuiet_nil ?_)
      have hX0 := (Below.refl wr.heap.size wr).drew
      refine mix_loud rfl ?_
      go_wp2_with fail
      refine (word_any _ _ ws _ wr.drew ((hw.below (ex_trans hwr hX0)).up (ex_trans hwr hX0).size) hwb (by omega) (by omega) hwl).mono ?_
      rintro e x1 ⟨⟨n, rfl, hn0, hn65⟩, hx1⟩
      have hX1 := ex_trans hX0 hx1
      go_wp2_with fail
      refine ⟨inGx (grown_row hX1), ?_⟩
      refine mix_loud rfl ?_
      go_wp2_with fail
      refine (picked_any (gR h k).lo (gR h k).hi n _ hn0 hn65 (by omega) (by omega) (by omega)).mono ?_
      rintro e x2 ⟨⟨y1, rfl, hy1, hz1⟩, hx2⟩
      have hX2 := ex_trans hX1 hx2
      go_wp2_with fail
      refine ⟨inGx (grown_row hX2), ?_⟩
      refine mix_loud rfl ?_
      go_wp2_with fail
      have hX3 := ex_alloc hX2 (.cells #[.int .i64 y1] 3)
      refine ⟨inGx (grown_row hX3), ?_⟩
      have y4 := own_below hown hX3
      have c63 : l1.length + 1 ≤ maxLen := by have := HL1.out; unfold maxLen; omega
      have cby : (l1.length + 1) * 8 ≤ 140737488355328 := by have := HL1.out; omega
      have hbase : w.heap.size + 1 + 1 ≤ (x2.alloc (.cells #[.int .i64 y1] 3)).heap.size := by have := hX2.size; simp; omega
      refine mix_loud rfl ?_
      go_wp2_with (at_builtin; refine wpList_append_lies _ rfl _ _ _ rfl (w.heap.size + 1 + 1) 3 i0 _ 1 8 Tryz.underlying72 HI.out hz0' hz1' hz2' rfl (by omega) v1 _ _ rfl y4 ⟨x2.heap.size, 0, none⟩ 1 1 [.int .i64 y1] rfl rfl (World.news_of_block (heap_alloc_new x2 _)) (by simp [Value.oneCell']) (by omega) c63 cby hbase (x2.heap.size + 1) (by simp) ?_; intro gg cap w1 hown' hgrow hat hlt')
      have hat' : v1.ownBlock = some gg ∨ wr.heap.size ≤ gg := hat.imp id (fun e => by have := hX2.size; omega)
      rw [HROW.out] at hgrow
      have hgB := (grown_row (r := row) hX3).andThen hgrow (fun j hj => .inr hj)
      refine ⟨inGx hgB, ?_⟩
      refine mix_nil rfl ?_
      have T1 := HT1.out.step1 (by rw [HROW.out]; exact hgB) hown' hat'
      have qp1 := HT1.out.qp.grown hgB hn3
      have e2 : w1.cell? ⟨w.heap.size + 1 + 1, 0, none⟩ = some v1 := qp1.cell 0
      have f2 := qp1.frozen 0
      have lp1 := qp1.lt
      go_wp2_with fail
      generalize hWW : w1.setCell ⟨w.heap.size + 1 + 1, 0, none⟩ (.slice (some ⟨gg, 0, none⟩) (l1.length + 1) cap) = W1 at *
      generalize hVV : Value.slice (some ⟨gg, 0, none⟩) (l1.length + 1) cap = u1 at *
      clear hWW hVV e1 e2 f2 lp1 qp1 hgB hat hat' hgrow hown' hlt' y4 hbase hX3 hX2 hX1 hX0 HROW hn2 hn3 lg lp hown hwr hwrs HT1 c63 cby

      -- list 2
      obtain ⟨row, hrow⟩ : ∃ row, v2.ownBlock = row := ⟨_, rfl⟩
      have lg := T1.q1.lt
      have lp := T1.qp.lt
      have e1 : W1.cell? ⟨w.heap.size + 1 + 1, 1, none⟩ = some v2 := T1.qp.cell 1
      have hn2 : ¬ some w.heap.size = row := fun e => by have := own_ge T1.o2 (hrow.trans e.symm); omega
      have hn3 : ¬ some (w.heap.size + 1 + 1) = row := fun e => own_blkne T1.o2 T1.qp (by decide) (hrow.trans e.symm)
      have hown := T1.o2
      have hwr := T1.bw
      have hwrs := T1.bw.size
      have a0 : W1.cell? ⟨w.heap.size, 0, none⟩ = some (.int .i64 g.base) := T1.q1.cell 0
      have a1 : W1.cell? ⟨w.heap.size, 1, none⟩ = some (.slice Ab g.bands.length cb) := T1.q1.cell 1
      have a2 : W1.cell? ⟨w.heap.size, 2, none⟩ = some (.slice Ad g.depths.length cd) := T1.q1.cell 2
      have a3 : W1.cell? ⟨w.heap.size, 3, none⟩ = some (.int .i64 g.blo) := T1.q1.cell 3
      have a4 : W1.cell? ⟨w.heap.size, 4, none⟩ = some (.int .i64 g.bhi) := T1.q1.cell 4
      have HROW := Lib.hid hrow
      have HT2 := Lib.hid T1
      clear hrow T1
      go_wp2_with fail
      refine wp_region_gx_mix row 13 [(false, 0), (false, 1), (false, 2), (false, 3), (false, 5), (false, 6), (false, 7), (false, 8), (true, 4), (true, 9), (true, 10), (true, 11), (true, 12)] (by kernel_rfl) (by kernel_rfl) (by intro d _ _ _ _ h; cases d <;> exact h) ?_
      repeat (refine mix_quiet rfl ?_; go_big_quiet_step (fail); refine wpQuiet_nil ?_)
      have hX0 := (Below.refl W1.heap.size W1).drew
      refine mix_loud rfl ?_
      go_wp2_with fail
      refine (CreepR_any g _ _ _ _ _ W1.drew ((hg.below (ex_trans hwr hX0)).up (ex_trans hwr hX0).size) hlb).mono ?_
      rintro e x0 ⟨rfl, hx0⟩
      have hXc := ex_trans hX0 hx0
      go_wp2_with fail
      refine ⟨inGx (grown_row hXc), ?_⟩
      refine mix_loud rfl ?_
      go_wp2_with fail
      refine (word_any _ _ ws _ x0 ((hw.below (ex_trans hwr hXc)).up (ex_trans hwr hXc).size) hwb (by omega) (by omega) hwl).mono ?_
      rintro e x1 ⟨⟨n, rfl, hn0, hn65⟩, hx1⟩
      have hX1 := ex_trans hXc hx1
      go_wp2_with fail
      refine ⟨inGx (grown_row hX1), ?_⟩
      refine mix_loud rfl ?_
      go_wp2_with fail
      refine (picked_any (creepTo g.bands (k : Int) g.bands.length).lo (creepTo g.bands (k : Int) g.bands.length).hi n _ hn0 hn65 (by omega) (by omega) (by omega)).mono ?_
      rintro e x2 ⟨⟨y2, rfl, hy2, hz2⟩, hx2⟩
      have hX2 := ex_trans hX1 hx2
      go_wp2_with fail
      refine ⟨inGx (grown_row hX2), ?_⟩
      refine mix_loud rfl ?_
      go_wp2_with fail
      have hX3 := ex_alloc hX2 (.cells #[.int .i64 y2] 3)
      refine ⟨inGx (grown_row hX3), ?_⟩
      have y4 := own_below hown hX3
      have c63 : l2.length + 1 ≤ maxLen := by have := HL2.out; unfold maxLen; omega
      have cby : (l2.length + 1) * 8 ≤ 140737488355328 := by have := HL2.out; omega
      have hbase : w.heap.size + 1 + 1 ≤ (x2.alloc (.cells #[.int .i64 y2] 3)).heap.size := by have := hX2.size; simp; omega
      refine mix_loud rfl ?_
      go_wp2_with (at_builtin; refine wpList_append_lies _ rfl _ _ _ rfl (w.heap.size + 1 + 1) 3 i0 _ 1 8 Tryz.underlying72 HI.out hz0' hz1' hz2' rfl (by omega) v2 _ _ rfl y4 ⟨x2.heap.size, 0, none⟩ 1 1 [.int .i64 y2] rfl rfl (World.news_of_block (heap_alloc_new x2 _)) (by simp [Value.oneCell']) (by omega) c63 cby hbase (x2.heap.size + 1) (by simp) ?_; intro gg cap w1 hown' hgrow hat hlt')
      have hat' : v2.ownBlock = some gg ∨ W1.heap.size ≤ gg := hat.imp id (fun e => by have := hX2.size; omega)
      rw [HROW.out] at hgrow
      have hgB := (grown_row (r := row) hX3).andThen hgrow (fun j hj => .inr hj)
      refine ⟨inGx hgB, ?_⟩
      refine mix_nil rfl ?_
      have T2 := HT2.out.step2 (by rw [HROW.out]; exact hgB) hown' hat'
      have qp1 := HT2.out.qp.grown hgB hn3
      have e2 : w1.cell? ⟨w.heap.size + 1 + 1, 1, none⟩ = some v2 := qp1.cell 1
      have f2 := qp1.frozen 1
      have lp1 := qp1.lt
      go_wp2_with fail
      generalize hWW : w1.setCell ⟨w.heap.size + 1 + 1, 1, none⟩ (.slice (some ⟨gg, 0, none⟩) (l2.length + 1) cap) = W2 at *
      generalize hVV : Value.slice (some ⟨gg, 0, none⟩) (l2.length + 1) cap = u2 at *
      clear hWW hVV e1 e2 f2 lp1 qp1 hgB hat hat' hgrow hown' hlt' y4 hbase hX3 hX2 hX1 hX0 HROW hn2 hn3 lg lp hown hwr hwrs HT2 c63 cby a0 a1 a2 a3 a4

      -- list 3
      obtain ⟨row, hrow⟩ : ∃ row, v3.ownBlock = row := ⟨_, rfl⟩
      have lg := T2.q1.lt
      have lp := T2.qp.lt
      have e1 : W2.cell? ⟨w.heap.size + 1 + 1, 2, none⟩ = some v3 := T2.qp.cell 2
      have hn2 : ¬ some w.heap.size = row := fun e => by have := own_ge T2.o3 (hrow.trans e.symm); omega
      have hn3 : ¬ some (w.heap.size + 1 + 1) = row := fun e => own_blkne T2.o3 T2.qp (by decide) (hrow.trans e.symm)
      have hown := T2.o3
      have hwr := T2.bw
      have hwrs := T2.bw.size
      have a0 : W2.cell? ⟨w.heap.size, 0, none⟩ = some (.int .i64 g.base) := T2.q1.cell 0
      have a1 : W2.cell? ⟨w.heap.size, 1, none⟩ = some (.slice Ab g.bands.length cb) := T2.q1.cell 1
      have a2 : W2.cell? ⟨w.heap.size, 2, none⟩ = some (.slice Ad g.depths.length cd) := T2.q1.cell 2
      have a3 : W2.cell? ⟨w.heap.size, 3, none⟩ = some (.int .i64 g.blo) := T2.q1.cell 3
      have a4 : W2.cell? ⟨w.heap.size, 4, none⟩ = some (.int .i64 g.bhi) := T2.q1.cell 4
      have HROW := Lib.hid hrow
      have HT3 := Lib.hid T2
      clear hrow T2
      go_wp2_with fail
      refine wp_region_gx_mix row 12 [(false, 0), (false, 1), (false, 2), (false, 3), (false, 4), (false, 5), (false, 6), (false, 7), (true, 8), (true, 9), (true, 10), (true, 11)] (by kernel_rfl) (by kernel_rfl) (by intro d _ _ _ _ h; cases d <;> exact h) ?_
      repeat (refine mix_quiet rfl ?_; go_big_quiet_step (fail); refine wpQuiet_nil ?_)
      have hX0 := (Below.refl W2.heap.size W2).drew
      refine mix_loud rfl ?_
      go_wp2_with fail
      refine (word_any _ _ ws _ W2.drew ((hw.below (ex_trans hwr hX0)).up (ex_trans hwr hX0).size) hwb (by omega) (by omega) hwl).mono ?_
      rintro e x1 ⟨⟨n, rfl, hn0, hn65⟩, hx1⟩
      have hX1 := ex_trans hX0 hx1
      go_wp2_with fail
      refine ⟨inGx (grown_row hX1), ?_⟩
      refine mix_loud rfl ?_
      go_wp2_with fail
      refine (picked_any g.blo g.bhi n _ hn0 hn65 (by omega) (by omega) (by omega)).mono ?_
      rintro e x2 ⟨⟨y3, rfl, hy3, hz3⟩, hx2⟩
      have hX2 := ex_trans hX1 hx2
      go_wp2_with fail
      refine ⟨inGx (grown_row hX2), ?_⟩
      refine mix_loud rfl ?_
      go_wp2_with fail
      have hX3 := ex_alloc hX2 (.cells #[.int .i64 y3] 3)
      refine ⟨inGx (grown_row hX3), ?_⟩
      have y4 := own_below hown hX3
      have c63 : l3.length + 1 ≤ maxLen := by have := HL3.out; unfold maxLen; omega
      have cby : (l3.length + 1) * 8 ≤ 140737488355328 := by have := HL3.out; omega
      have hbase : w.heap.size + 1 + 1 ≤ (x2.alloc (.cells #[.int .i64 y3] 3)).heap.size := by have := hX2.size; simp; omega
      refine mix_loud rfl ?_
      go_wp2_with (at_builtin; refine wpList_append_lies _ rfl _ _ _ rfl (w.heap.size + 1 + 1) 3 i0 _ 1 8 Tryz.underlying72 HI.out hz0' hz1' hz2' rfl (by omega) v3 _ _ rfl y4 ⟨x2.heap.size, 0, none⟩ 1 1 [.int .i64 y3] rfl rfl (World.news_of_block (heap_alloc_new x2 _)) (by simp [Value.oneCell']) (by omega) c63 cby hbase (x2.heap.size + 1) (by simp) ?_; intro gg cap w1 hown' hgrow hat hlt')
      have hat' : v3.ownBlock = some gg ∨ W2.heap.size ≤ gg := hat.imp id (fun e => by have := hX2.size; omega)
      rw [HROW.out] at hgrow
      have hgB := (grown_row (r := row) hX3).andThen hgrow (fun j hj => .inr hj)
      refine ⟨inGx hgB, ?_⟩
      refine mix_nil rfl ?_
      have T3 := HT3.out.step3 (by rw [HROW.out]; exact hgB) hown' hat'
      have qp1 := HT3.out.qp.grown hgB hn3
      have e2 : w1.cell? ⟨w.heap.size + 1 + 1, 2, none⟩ = some v3 := qp1.cell 2
      have f2 := qp1.frozen 2
      have lp1 := qp1.lt
      go_wp2_with fail
      generalize hWW : w1.setCell ⟨w.heap.size + 1 + 1, 2, none⟩ (.slice (some ⟨gg, 0, none⟩) (l3.length + 1) cap) = W3 at *
      generalize hVV : Value.slice (some ⟨gg, 0, none⟩) (l3.length + 1) cap = u3 at *
      clear hWW hVV e1 e2 f2 lp1 qp1 hgB hat hat' hgrow hown' hlt' y4 hbase hX3 hX2 hX1 hX0 HROW hn2 hn3 lg lp hown hwr hwrs HT3 c63 cby a0 a1 a2 a3 a4
      go_roundw
      case rel => exact ⟨k + 1, _, _, _, _, _, _, by omega, by go_num, T3, by simp [HL1.out], by simp [HL2.out], by simp [HL3.out], dayOk_snoc HL1.out HL2.out HL3.out HDAYS.out ⟨hy1, hz1⟩ ⟨hy2, hz2⟩ ⟨hy3, hz3⟩⟩
      case measure => simp [intOf]; omega
    · have HKH : Hid (k = h.length) := Lib.hid (by omega)
      obtain ⟨A1, c1, rfl, _, s1⟩ := own_sl T0.o1
      obtain ⟨A2, c2, rfl, _, s2⟩ := own_sl T0.o2
      obtain ⟨A3, c3, rfl, _, s3⟩ := own_sl T0.o3
      have b0 : wr.cell? ⟨w.heap.size + 1 + 1, 0, none⟩ = some (.slice A1 l1.length c1) := T0.qp.cell 0
      have b1 : wr.cell? ⟨w.heap.size + 1 + 1, 1, none⟩ = some (.slice A2 l2.length c2) := T0.qp.cell 1
      have b2 : wr.cell? ⟨w.heap.size + 1 + 1, 2, none⟩ = some (.slice A3 l3.length c3) := T0.qp.cell 2
      have lp := T0.qp.lt
      have d0 : wr.cell? ⟨w.heap.size + 1, 0, none⟩ = some (.slice none 0 0) := T0.qr.cell 0
      have d1 : wr.cell? ⟨w.heap.size + 1, 1, none⟩ = some (.slice none 0 0) := T0.qr.cell 1
      have d2 : wr.cell? ⟨w.heap.size + 1, 2, none⟩ = some (.slice none 0 0) := T0.qr.cell 2
      have f0 := T0.qr.frozen 0
      have f1 := T0.qr.frozen 1
      have f2 := T0.qr.frozen 2
      have lr := T0.qr.lt
      have r5 := ((T0.qr.set_ 0 (.slice A1 l1.length c1)).set_ 1 (.slice A2 l2.length c2)).set_ 2 (.slice A3 l3.length c3)
      simp only [List.setIfInBounds_toArray, List.set_cons_zero, List.set_cons_succ] at r5
      have hf : Fr (fun b => b = w.heap.size + 1) wr (((wr.setCell ⟨w.heap.size + 1, 0, none⟩ (.slice A1 l1.length c1)).setCell ⟨w.heap.size + 1, 1, none⟩ (.slice A2 l2.length c2)).setCell ⟨w.heap.size + 1, 2, none⟩ (.slice A3 l3.length c3)) :=
        (((Fr.refl (fun b => b = w.heap.size + 1) wr).andSet rfl).andSet rfl).andSet rfl
      have hB := hf.toBelow T0.bw T0.bw.size (fun x hx => by omega)
      go_wp2
      refine bodyPost_ret (results_cell_row rfl _ _ (w.heap.size + 1) 143 #[.slice A1 l1.length c1, .slice A2 l2.length c2, .slice A3 l3.length c3] (0, 0) _ rfl r5 rfl rfl rfl) rfl ?_
      have o1 := own_fr T0.o1 hf (fun b hb hbp => own_blkne T0.o1 T0.qr (by decide) (hbp ▸ hb))
      have o2 := own_fr T0.o2 hf (fun b hb hbp => own_blkne T0.o2 T0.qr (by decide) (hbp ▸ hb))
      have o3 := own_fr T0.o3 hf (fun b hb hbp => own_blkne T0.o3 T0.qr (by decide) (hbp ▸ hb))
      obtain ⟨A1', c1', e1, _, s1'⟩ := own_sl o1
      obtain ⟨A2', c2', e2, _, s2'⟩ := own_sl o2
      obtain ⟨A3', c3', e3, _, s3'⟩ := own_sl o3
      injection e1 with e1a e1b e1c
      injection e2 with e2a e2b e2c
      injection e3 with e3a e3b e3c
      subst e1a e2a e3a
      exact ⟨⟨_, _, _, c1, c2, c3, l1, l2, l3, rfl, truthB_iff.2 ⟨⟨HL1.out.trans HKH.out, HL2.out.trans HKH.out, HL3.out.trans HKH.out⟩, fun d hd => HDAYS.out d (by rw [HKH.out]; exact hd)⟩, s1', s2', s3'⟩, hB⟩

end Go.Proofs.YtkaogjhnogkcdaaGreat
end

section
namespace Go.Proofs.YtkaogjhnogkcdaaGreat
open Go.RowKit
attribute [local go_sem] Ex.cell? Ex.frozen? Gx.cell?

theorem icR_info : (Tryz.prog.info? 91).map (fun i => (i.zero, i.size, i.bytes)) = some (some (.agg #[.int .i64 0, .int .i64 0, .int .i64 0]), 3, 24) := by kernel_rfl

def bitOff (b : Int) (i : Nat) : Prop := ¬ (b / 2 ^ i).tmod 2 = 1
def ReadIs (zs : List Int) (b : Int) (l : List Ic) : Prop := ∀ i, i < l.length → (0 ≤ (gC l i).day ∧ (gC l i).day < zs.length) ∧ (0 ≤ (gC l i).err ∧ (gC l i).err ≤ 3) ∧ (bitOff b i → -(gC l i).err ≤ gI zs (gC l i).day.toNat - (gC l i).zero ∧ gI zs (gC l i).day.toNat - (gC l i).zero ≤ (gC l i).err)

theorem gC_snoc {l : List Ic} {x : Ic} {j : Nat} (h : j < l.length) : gC (l ++ [x]) j = gC l j := by simp [gC, List.getElem?_append, h]
theorem gC_last {l : List Ic} {x : Ic} : gC (l ++ [x]) l.length = x := by simp [gC]
theorem ReadIs.snoc {zs : List Int} {b : Int} {l : List Ic} {d : Nat} {z er : Int} (h : ReadIs zs b l) (hd : d < zs.length) (h0 : 0 ≤ er) (h3 : er ≤ 3) (hz : bitOff b l.length → -er ≤ gI zs d - z ∧ gI zs d - z ≤ er) : ReadIs zs b (l ++ [⟨(d : Int), z, er⟩]) := fun i hi => by
  rw [List.length_append, List.length_singleton] at hi
  rcases Nat.lt_succ_iff_lt_or_eq.1 hi with hj | hj
  · rw [gC_snoc hj]; exact h i hj
  · subst hj
    rw [gC_last]
    exact ⟨⟨by simp, by simpa using hd⟩, ⟨h0, h3⟩, by simpa using hz⟩
theorem gI_play {g : Gl} {t1 t2 t3 : List Int} {n d : Nat} (hd : d < n) : gI (playTo g t1 t2 t3 n) d = zAt g t1 t2 t3 d := by simp [gI, playTo, hd]

set_option maxRecDepth 100000 in
set_option maxHeartbeats 6400000 in
theorem Read_any (g : Gl) (Ab Ad Aw : Option Addr) (cb cd cw : Nat) (h : List Rg) (ws : List Int) (m b : Int) (w : World) (hg : GlIn w w.heap.size g Ab Ad) (A1 A2 A3 : Option Addr) (c1 c2 c3 : Nat) (t1 t2 t3 : List Int) (k1 : SlAt w w.heap.size 1 A1 t1.length (fI t1)) (k2 : SlAt w w.heap.size 1 A2 t2.length (fI t2)) (k3 : SlAt w w.heap.size 1 A3 t3.length (fI t3)) (hw : SlAt w w.heap.size 1 Aw ws.length (fU ws))
    (hwb : ∀ k, k < ws.length → 0 ≤ gI ws k ∧ gI ws k ≤ 65535) (hwl : ws.length ≤ maxLen) (hok : Ok g h) (ht : truthB g h t1 t2 t3 = true) (hm0 : 0 ≤ m) (hm1 : m ≤ 255) (hb0 : 0 ≤ b) (hb1 : b ≤ 255) :
    Calls Tryz.prog 77 #[.agg #[.int .i64 g.base, .slice Ab g.bands.length cb, .slice Ad g.depths.length cd, .int .i64 g.blo, .int .i64 g.bhi], .agg #[.slice A1 t1.length c1, .slice A2 t2.length c2, .slice A3 t3.length c3], .slice Aw ws.length cw, .int .u8 m, .int .u8 b] w fun e w' => (∃ A c l, e = .returned (.slice A (l : List Ic).length c) ∧ l.length ≤ 4 ∧ l.length ≤ c ∧ c ≤ maxLen ∧ ReadIs (playTo g t1 t2 t3 h.length) b l ∧
      SlAt w' w'.heap.size 3 A l.length (fC l)) ∧ Below w.heap.size w w' := by
  obtain ⟨i0, hi0, hz0', hz1', hz2'⟩ := info_parts icR_info
  have HI := Lib.hid hi0
  clear hi0
  have hbb := ex_alloc (ex_alloc (Below.refl w.heap.size w) (.cells #[.int .i64 g.base, .slice Ab g.bands.length cb, .slice Ad g.depths.length cd, .int .i64 g.blo, .int .i64 g.bhi] 27)) (.cells #[.slice A1 t1.length c1, .slice A2 t2.length c2, .slice A3 t3.length c3] 143)
  have hnh := hok.nh
  have hzb : ∀ d, d < h.length → -1000000 ≤ gI (playTo g t1 t2 t3 h.length) d ∧ gI (playTo g t1 t2 t3 h.length) d ≤ 1000000 := fun d hd => by rw [gI_play hd]; exact zAt_bd hok ht hd
  obtain ⟨M, hM⟩ : ∃ M : Nat, m % 5 = (M : Int) := ⟨(m % 5).toNat, by omega⟩
  have hM4 : M ≤ 4 := by omega
  have HM := Lib.hid hM
  clear hM
  go_enter Tryz.func77, Tryz.ntmps77
  go_wp2_with fail
  refine (PlayR_any g _ _ _ _ h _ ((hg.below hbb).up hbb.size) _ _ _ _ _ _ t1 t2 t3 ((k1.below hbb).up hbb.size) ((k2.below hbb).up hbb.size) ((k3.below hbb).up hbb.size) hok ht).mono ?_
  rintro e w1 ⟨⟨vz, rfl, hvz⟩, hx1⟩
  obtain ⟨Az, cz, rfl, _, hsz⟩ := own_sl hvz
  have hB1 := ex_trans hbb hx1
  have hlz : (playTo g t1 t2 t3 h.length).length = h.length := playTo_len
  clear hvz hbb hx1 hok ht k1 k2 k3 hg
  generalize hzs : playTo g t1 t2 t3 h.length = zs at *
  have HZS := Lib.hid hzs
  clear hzs
  have HLZ := Lib.hid hlz
  clear hlz
  go_wp2_with fail
  go_loopw [12, 13] (fun v i wr => ∃ (k : Nat) (l : List Ic), k ≤ M ∧ i = .int .i64 k ∧ Below w1.heap.size w1 wr ∧ wr.ownsRow w1.heap.size 91 3 v l.length (l.flatMap cC) ∧ l.length = k ∧ ReadIs zs b l)
    (fun _ i _ => M - (intOf i).toNat)
  case atStart => exact ⟨0, [], by omega, rfl, Below.refl _ _, ⟨rfl, .inl ⟨rfl, rfl⟩⟩, rfl, fun i hi => by simp at hi⟩
  case round =>
    obtain ⟨k, l, hk, rfl, hbl, hown, hlk, hR⟩ := hrel
    have HLK := Lib.hid hlk
    have HRD := Lib.hid hR
    clear hlk hR
    by_cases hlt : k < M
    · have hlt' : (k : Int) < m % 5 := by rw [HM.out]; omega
      have hB2 := ex_trans hB1 hbl
      go_wp2_with fail
      refine (word_any _ _ ws _ wr ((hw.below hB2).up hB2.size) hwb (by omega) (by omega) hwl).mono ?_
      rintro e x1 ⟨⟨n, rfl, hn0, hn65⟩, hx1⟩
      have hX1 := ex_trans hbl hx1
      have hzn : (1 : Int) ≤ (zs.length : Int) := by have := HLZ.out; omega
      have hr0 := Int.emod_nonneg n (show (zs.length : Int) ≠ 0 by omega)
      have hr1 := Int.emod_lt_of_pos n (show (0 : Int) < (zs.length : Int) by omega)
      obtain ⟨d, hd⟩ : ∃ d : Nat, n % (zs.length : Int) = (d : Int) := ⟨(n % (zs.length : Int)).toNat, by omega⟩
      have hdl : d < zs.length := by omega
      obtain ⟨er, her⟩ : ∃ er : Int, n / 32 % 4 = er := ⟨_, rfl⟩
      have her0 : 0 ≤ er := by omega
      have her3 : er ≤ 3 := by omega
      have hzn0 : ((zs.length : Int) == 0) = false := by rw [beq_eq_false_iff_ne]; omega
      have hzn0' : (zs.length == 0) = false := by rw [beq_eq_false_iff_ne]; omega
      clear hr0 hr1
      obtain ⟨bz, oz, rfl, hbz, p0⟩ := IsInts.at_ (hsz.below hX1) hdl
      have hzd := hzb d (by rw [← HLZ.out]; exact hdl)
      have hbz1 : bz < x1.heap.size := by have := hX1.size; omega
      go_wp2_with fail
      have hX2 := ex_alloc hX1 (.cells #[.int .i64 (d : Int), .int .i64 0, .int .i64 er] 91)
      have q0 : Blk (x1.alloc (.cells #[.int .i64 (d : Int), .int .i64 0, .int .i64 er] 91)) x1.heap.size 91 #[.int .i64 (d : Int), .int .i64 0, .int .i64 er] := Blk.new _ _ _
      have hXW := ex_alloc hx1 (.cells #[.int .i64 (d : Int), .int .i64 0, .int .i64 er] 91)
      have hsx := hx1.size
      have hsx1 := hX1.size
      have hsz1 : (x1.alloc (.cells #[.int .i64 (d : Int), .int .i64 0, .int .i64 er] 91)).heap.size = x1.heap.size + 1 := by simp
      generalize x1.alloc (.cells #[.int .i64 (d : Int), .int .i64 0, .int .i64 er] 91) = W at *
      generalize x1.heap.size = px at *
      have c0 : W.cell? ⟨px, 0, none⟩ = some (.int .i64 (d : Int)) := q0.cell 0
      have cc1 : W.cell? ⟨px, 1, none⟩ = some (.int .i64 0) := q0.cell 1
      have c2 : W.cell? ⟨px, 2, none⟩ = some (.int .i64 er) := q0.cell 2
      have lq := q0.lt
      have fq := q0.frozen 1
      obtain ⟨_, _, eA, _, p1⟩ := IsInts.at_ (hsz.below hX2) hdl
      injection eA with eA
      injection eA with eA1 eA2
      subst eA1 eA2
      have w0 : (2 * er + 1 == 0) = false := by rw [beq_eq_false_iff_ne]; omega
      have w1' : IntKind.i64.wrap (2 * er) = 2 * er := IntWalk.i64_in _ (by omega)
      have w2' : IntKind.i64.wrap (2 * er + 1) = 2 * er + 1 := IntWalk.i64_in _ (by omega)
      have w3 : IntKind.i64.wrap (n.tdiv 128) = n / 128 := by rw [Int.tdiv_eq_ediv_of_nonneg hn0]; exact IntWalk.i64_in _ (by omega)
      have v0 : 0 ≤ (n / 128) % (2 * er + 1) := Int.emod_nonneg _ (by omega)
      have v1 : (n / 128) % (2 * er + 1) < 2 * er + 1 := Int.emod_lt_of_pos _ (by omega)
      have w4 : IntKind.i64.wrap ((n / 128).tmod (2 * er + 1)) = (n / 128) % (2 * er + 1) := by rw [Int.tmod_eq_emod_of_nonneg (by omega)]; exact IntWalk.i64_in _ (by omega)
      have w5 : IntKind.i64.wrap (gI zs d + (n / 128) % (2 * er + 1)) = gI zs d + (n / 128) % (2 * er + 1) := IntWalk.i64_in _ (by omega)
      have w6 : IntKind.i64.wrap (gI zs d + (n / 128) % (2 * er + 1) - er) = gI zs d + (n / 128) % (2 * er + 1) - er := IntWalk.i64_in _ (by omega)
      refine wp_region_ext_mix 16 [(false, 0), (false, 1), (false, 2), (false, 3), (false, 4), (false, 5), (false, 6), (false, 7), (false, 8), (false, 9), (false, 10), (false, 11), (false, 12), (false, 13), (false, 14), (false, 15)] (by kernel_rfl) (by kernel_rfl) (by intro d _ _ _ _ h; cases d <;> exact h) ?_
      repeat (refine mix_quiet rfl ?_; go_big_quiet_step (fail); refine wpQuiet_nil ?_)
      refine mix_nil rfl ?_
      generalize (n / 128) % (2 * er + 1) = ry at *
      have HX2 := Lib.hid hX2
      have HXW := Lib.hid hXW
      have HQ0 := Lib.hid q0
      clear hX2 hXW q0 hX1 hx1 hB2
      by_cases hbit : (b / 2 ^ k).tmod 2 = 1
      · have ebit : ((b / 2 ^ k).tmod 2 == 1) = true := by simp [hbit]
        have HBIT : Hid (¬ bitOff b k) := Lib.hid (fun h => h hbit)
        clear hbit
        have hf : Fr (fun b => b = px) W ((W.setCell ⟨px, 1, none⟩ (.int .i64 (gI zs d + ry - er))).setCell ⟨px, 1, none⟩ (.int .i64 (gI zs d + ry - er + (5 + n / 8 % 20)))) := ((Fr.refl (fun b => b = px) W).andSet rfl).andSet rfl
        have qV : Blk ((W.setCell ⟨px, 1, none⟩ (.int .i64 (gI zs d + ry - er))).setCell ⟨px, 1, none⟩ (.int .i64 (gI zs d + ry - er + (5 + n / 8 % 20)))) px 91 #[.int .i64 (d : Int), .int .i64 (gI zs d + ry - er + (5 + n / 8 % 20)), .int .i64 er] := by
          have q2 := (HQ0.out.set_ 1 (.int .i64 (gI zs d + ry - er))).set_ 1 (.int .i64 (gI zs d + ry - er + (5 + n / 8 % 20)))
          simpa only [List.setIfInBounds_toArray, List.set_cons_zero, List.set_cons_succ] using q2
        have hsV : ((W.setCell ⟨px, 1, none⟩ (.int .i64 (gI zs d + ry - er))).setCell ⟨px, 1, none⟩ (.int .i64 (gI zs d + ry - er + (5 + n / 8 % 20)))).heap.size = px + 1 := by simp [hsz1]
        have ownV : ((W.setCell ⟨px, 1, none⟩ (.int .i64 (gI zs d + ry - er))).setCell ⟨px, 1, none⟩ (.int .i64 (gI zs d + ry - er + (5 + n / 8 % 20)))).ownsRow w1.heap.size 91 3 u12 l.length (l.flatMap cC) := own_fr (own_below hown HXW.out) hf (fun b hb hbp => by have := own_lt hown hb; omega)
        have BV : Below w1.heap.size w1 ((W.setCell ⟨px, 1, none⟩ (.int .i64 (gI zs d + ry - er))).setCell ⟨px, 1, none⟩ (.int .i64 (gI zs d + ry - er + (5 + n / 8 % 20)))) := hf.toBelow HX2.out HX2.out.size (fun x hx => by omega)
        have y4 : (((W.setCell ⟨px, 1, none⟩ (.int .i64 (gI zs d + ry - er))).setCell ⟨px, 1, none⟩ (.int .i64 (gI zs d + ry - er + (5 + n / 8 % 20)))).alloc (.cells #[.int .i64 (d : Int), .int .i64 (gI zs d + ry - er + (5 + n / 8 % 20)), .int .i64 er] 91)).drew.ownsRow w1.heap.size 91 3 u12 l.length (l.flatMap cC) := own_below ownV ((Below.refl _ _).alloc (Nat.le_refl _) _).drew
        have BY : Below w1.heap.size w1 (((W.setCell ⟨px, 1, none⟩ (.int .i64 (gI zs d + ry - er))).setCell ⟨px, 1, none⟩ (.int .i64 (gI zs d + ry - er + (5 + n / 8 % 20)))).alloc (.cells #[.int .i64 (d : Int), .int .i64 (gI zs d + ry - er + (5 + n / 8 % 20)), .int .i64 er] 91)).drew := (ex_alloc BV _).drew
        have hnew : ∀ j u, ([.int .i64 (d : Int), .int .i64 (gI zs d + ry - er + (5 + n / 8 % 20)), .int .i64 er] : List Value)[j]? = some u → (((W.setCell ⟨px, 1, none⟩ (.int .i64 (gI zs d + ry - er))).setCell ⟨px, 1, none⟩ (.int .i64 (gI zs d + ry - er + (5 + n / 8 % 20)))).alloc (.cells #[.int .i64 (d : Int), .int .i64 (gI zs d + ry - er + (5 + n / 8 % 20)), .int .i64 er] 91)).drew.cell? ((⟨px + 1, 0, none⟩ : Addr).add j) = some u :=
          World.news_of_block (by have h := heap_alloc_new ((W.setCell ⟨px, 1, none⟩ (.int .i64 (gI zs d + ry - er))).setCell ⟨px, 1, none⟩ (.int .i64 (gI zs d + ry - er + (5 + n / 8 % 20)))) (.cells #[.int .i64 (d : Int), .int .i64 (gI zs d + ry - er + (5 + n / 8 % 20)), .int .i64 er] 91); rw [hsV] at h; exact h)
        have c63 : l.length + 1 ≤ maxLen := by have := HLK.out; unfold maxLen; omega
        have cby : (l.length + 1) * 24 ≤ 140737488355328 := by have := HLK.out; omega
        have hbase : w1.heap.size ≤ (((W.setCell ⟨px, 1, none⟩ (.int .i64 (gI zs d + ry - er))).setCell ⟨px, 1, none⟩ (.int .i64 (gI zs d + ry - er + (5 + n / 8 % 20)))).alloc (.cells #[.int .i64 (d : Int), .int .i64 (gI zs d + ry - er + (5 + n / 8 % 20)), .int .i64 er] 91)).drew.heap.size := BY.size
        have hH : (((W.setCell ⟨px, 1, none⟩ (.int .i64 (gI zs d + ry - er))).setCell ⟨px, 1, none⟩ (.int .i64 (gI zs d + ry - er + (5 + n / 8 % 20)))).alloc (.cells #[.int .i64 (d : Int), .int .i64 (gI zs d + ry - er + (5 + n / 8 % 20)), .int .i64 er] 91)).drew.heap.size = px + 1 + 1 := by simp [hsz1]
        go_wp2_with (at_builtin; refine wpList_append_lies _ rfl _ _ _ rfl w1.heap.size 91 i0 _ 3 24 Tryz.underlying31 HI.out hz0' hz1' hz2' rfl (by omega) u12 _ _ rfl y4 ⟨px + 1, 0, none⟩ 1 1 [.int .i64 (d : Int), .int .i64 (gI zs d + ry - er + (5 + n / 8 % 20)), .int .i64 er] rfl rfl hnew (by simp [Value.oneCell']) (by omega) c63 cby hbase (px + 1 + 1) hH ?_; intro gg cap w' hown' hgrow hat hlt')
        go_roundw
        case rel => exact ⟨k + 1, l ++ [⟨(d : Int), gI zs d + ry - er + (5 + n / 8 % 20), er⟩], by omega, by go_num, BY.grown hgrow BY.size (fun j hj => own_ge hown hj), by simpa [List.flatMap_append, cC] using hown', by simp [HLK.out], HRD.out.snoc hdl her0 her3 (fun h => absurd (by rw [← HLK.out]; exact h) HBIT.out)⟩
        case measure => simp [intOf]; omega
      · have ebit : ((b / 2 ^ k).tmod 2 == 1) = false := by simp [hbit]
        clear hbit
        have hf : Fr (fun b => b = px) W (W.setCell ⟨px, 1, none⟩ (.int .i64 (gI zs d + ry - er))) := (Fr.refl (fun b => b = px) W).andSet rfl
        have qV : Blk (W.setCell ⟨px, 1, none⟩ (.int .i64 (gI zs d + ry - er))) px 91 #[.int .i64 (d : Int), .int .i64 (gI zs d + ry - er), .int .i64 er] := by
          have q2 := HQ0.out.set_ 1 (.int .i64 (gI zs d + ry - er))
          simpa only [List.setIfInBounds_toArray, List.set_cons_zero, List.set_cons_succ] using q2
        have hsV : (W.setCell ⟨px, 1, none⟩ (.int .i64 (gI zs d + ry - er))).heap.size = px + 1 := by simp [hsz1]
        have ownV : (W.setCell ⟨px, 1, none⟩ (.int .i64 (gI zs d + ry - er))).ownsRow w1.heap.size 91 3 u12 l.length (l.flatMap cC) := own_fr (own_below hown HXW.out) hf (fun b hb hbp => by have := own_lt hown hb; omega)
        have BV : Below w1.heap.size w1 (W.setCell ⟨px, 1, none⟩ (.int .i64 (gI zs d + ry - er))) := hf.toBelow HX2.out HX2.out.size (fun x hx => by omega)
        have y4 : ((W.setCell ⟨px, 1, none⟩ (.int .i64 (gI zs d + ry - er))).alloc (.cells #[.int .i64 (d : Int), .int .i64 (gI zs d + ry - er), .int .i64 er] 91)).drew.ownsRow w1.heap.size 91 3 u12 l.length (l.flatMap cC) := own_below ownV ((Below.refl _ _).alloc (Nat.le_refl _) _).drew
        have BY : Below w1.heap.size w1 ((W.setCell ⟨px, 1, none⟩ (.int .i64 (gI zs d + ry - er))).alloc (.cells #[.int .i64 (d : Int), .int .i64 (gI zs d + ry - er), .int .i64 er] 91)).drew := (ex_alloc BV _).drew
        have hnew : ∀ j u, ([.int .i64 (d : Int), .int .i64 (gI zs d + ry - er), .int .i64 er] : List Value)[j]? = some u → ((W.setCell ⟨px, 1, none⟩ (.int .i64 (gI zs d + ry - er))).alloc (.cells #[.int .i64 (d : Int), .int .i64 (gI zs d + ry - er), .int .i64 er] 91)).drew.cell? ((⟨px + 1, 0, none⟩ : Addr).add j) = some u :=
          World.news_of_block (by have h := heap_alloc_new (W.setCell ⟨px, 1, none⟩ (.int .i64 (gI zs d + ry - er))) (.cells #[.int .i64 (d : Int), .int .i64 (gI zs d + ry - er), .int .i64 er] 91); rw [hsV] at h; exact h)
        have c63 : l.length + 1 ≤ maxLen := by have := HLK.out; unfold maxLen; omega
        have cby : (l.length + 1) * 24 ≤ 140737488355328 := by have := HLK.out; omega
        have hbase : w1.heap.size ≤ ((W.setCell ⟨px, 1, none⟩ (.int .i64 (gI zs d + ry - er))).alloc (.cells #[.int .i64 (d : Int), .int .i64 (gI zs d + ry - er), .int .i64 er] 91)).drew.heap.size := BY.size
        have hH : ((W.setCell ⟨px, 1, none⟩ (.int .i64 (gI zs d + ry - er))).alloc (.cells #[.int .i64 (d : Int), .int .i64 (gI zs d + ry - er), .int .i64 er] 91)).drew.heap.size = px + 1 + 1 := by simp [hsz1]
        go_wp2_with (at_builtin; refine wpList_append_lies _ rfl _ _ _ rfl w1.heap.size 91 i0 _ 3 24 Tryz.underlying31 HI.out hz0' hz1' hz2' rfl (by omega) u12 _ _ rfl y4 ⟨px + 1, 0, none⟩ 1 1 [.int .i64 (d : Int), .int .i64 (gI zs d + ry - er), .int .i64 er] rfl rfl hnew (by simp [Value.oneCell']) (by omega) c63 cby hbase (px + 1 + 1) hH ?_; intro gg cap w' hown' hgrow hat hlt')
        go_roundw
        case rel => exact ⟨k + 1, l ++ [⟨(d : Int), gI zs d + ry - er, er⟩], by omega, by go_num, BY.grown hgrow BY.size (fun j hj => own_ge hown hj), by simpa [List.flatMap_append, cC] using hown', by simp [HLK.out], HRD.out.snoc hdl her0 her3 (fun _ => ⟨by omega, by omega⟩)⟩
        case measure => simp [intOf]; omega
    · have hlt' : ¬ (k : Int) < m % 5 := by rw [HM.out]; omega
      obtain ⟨A, c, rfl, h1, h2, h3⟩ := own_C hown
      go_wp2
      go_ret
      exact ⟨⟨A, c, l, rfl, by have := HLK.out; omega, h1, h2, by rw [HZS.out]; exact HRD.out, h3⟩, ex_trans hB1 hbl⟩

end Go.Proofs.YtkaogjhnogkcdaaGreat
end

section
namespace Go.Proofs.YtkaogjhnogkcdaaGreat

theorem bitOff_zero (i : Nat) : bitOff 0 i := by simp [bitOff]

def AllOf (zs : List Int) (l : List Ic) : Prop := ∀ i, i < l.length → -(gC l i).err ≤ gI zs (gC l i).day.toNat - (gC l i).zero ∧ gI zs (gC l i).day.toNat - (gC l i).zero ≤ (gC l i).err
theorem ReadIs.all {zs : List Int} {l : List Ic} (h : ReadIs zs 0 l) : AllOf zs l := fun i hi => (h i hi).2.2 (bitOff_zero i)
theorem AllOf.take {zs : List Int} {l : List Ic} (h : AllOf zs l) (k : Nat) : AllOf zs (l.take k) := fun i hi => by
 rw [List.length_take] at hi
 rw [gC_take (by omega)]
 exact h i (by omega)
theorem AllOf.fits {zs : List Int} {l : List Ic} (h : AllOf zs l) (o : Nat → Bool) (d : Nat) : fitsB l o (d : Int) (gI zs d) = true := by
 unfold fitsB
 rw [allTo_iff]
 intro k hk
 have hk' := h k hk
 unfold fitOk
 by_cases hd : (gC l k).day = (d : Int)
 ·
  rw [hd] at hk'
  have : inB (gI zs d - (gC l k).zero) (-(gC l k).err) (gC l k).err = true := inB_iff.2 (by simpa using hk')
  rw [this]
  simp
 ·
  simp [hd]

section
variable {g : Gl} {h : List Rg} {l : List Ic} {t1 t2 t3 : List Int}
theorem AllOf.fits' (ha : AllOf (playTo g t1 t2 t3 h.length) l) (o : Nat → Bool) : ∀ d, d < h.length → fitsB l o (d : Int) (zAt g t1 t2 t3 d) = true := fun d hd => by
 have := ha.fits o d
 rwa [gI_play hd] at this
theorem AllOf.can (hok : Ok g h) (ht : truthB g h t1 t2 t3 = true) (ha : AllOf (playTo g t1 t2 t3 h.length) l) (o : Nat → Bool) : ∃ s, Can g h l o h.length s :=
 ⟨_, can_st hok (truthB_iff.1 ht).2 (ha.fits' o) (Nat.le_refl _)⟩
theorem AllOf.agree (hok : Ok g h) (ht : truthB g h t1 t2 t3 = true) (ha : AllOf (playTo g t1 t2 t3 h.length) l) (o : Nat → Bool) : agreeB g h l o = true := agreeB_iff.2 (ha.can hok ht o)
theorem AllOf.shows (hok : Ok g h) (ht : truthB g h t1 t2 t3 = true) (ha : AllOf (playTo g t1 t2 t3 h.length) l) {e : Ending} (he : ShowsIs (fun j => agreeB g h (l.take (j + 1)) off0) l.length e) : e = .returned (.tuple #[.int .i64 0, .int .i64 7]) := by
 rcases he with ⟨k, _, _, h2, _⟩ | ⟨_, h2⟩
 ·
  have := (ha.take (k + 1)).agree hok ht off0
  rw [show (fun j => agreeB g h (l.take (j + 1)) off0) k = agreeB g h (l.take (k + 1)) off0 from rfl, this] at h2
  cases h2
 ·
  exact h2
theorem AllOf.within (hok : Ok g h) (ht : truthB g h t1 t2 t3 = true) (ha : AllOf (playTo g t1 t2 t3 h.length) l) {zs : List Rg} (hz : ZsOf g h l zs) {d : Nat} (hd : d < h.length) : (gR zs d).lo ≤ gI (playTo g t1 t2 t3 h.length) d ∧ gI (playTo g t1 t2 t3 h.length) d ≤ (gR zs d).hi := by
 rw [gI_play hd]
 exact (hz.2 d hd).2.2 _ ⟨_, goes_st hok (truthB_iff.1 ht).2 (ha.fits' off0) (by omega), rfl⟩
end
theorem iced_of {g : Gl} {h : List Rg} {l : List Ic} (h1 : lived g h = 0) (h2 : icsF h.length l = 0) : iced g h l = 0 := by
 rw [iced_eq', if_neg (by simp [h1])]; exact h2

end Go.Proofs.YtkaogjhnogkcdaaGreat
end

section
namespace Go.Proofs.YtkaogjhnogkcdaaGreat

section
variable {g : Gl} {h : List Rg} {l : List Ic}
theorem path_bd (hok : Ok g h) {σ : Nat → St} {n : Nat} (p : Path g h σ n) : ∀ {d : Nat}, d ≤ n → (0 ≤ (σ d).1 ∧ (σ d).1 ≤ 3 * d) ∧ (0 ≤ (σ d).2 ∧ (σ d).2 ≤ 30)
 | 0, _ => by rw [p.1]; simp
 | d + 1, hd => by
  obtain ⟨h1, h2⟩ := path_bd hok p (d := d) (by omega)
  obtain ⟨x, b, c, hx, hb, hc, he⟩ := p.2 d (by omega)
  have k1 := hok.creep d
  have k2 := hok.back
  have k3 := hok.sinks x
  have k4 := mx3_bd ((σ d).2 - b) 0 (sinks g x)
  rw [he]
  simp only
  omega
theorem zat_bd (hok : Ok g h) {i : Nat} (hi : i < h.length) {z : Int} (hz : ZAt g h l i z) : -2000 ≤ z ∧ z ≤ 2000 := by
 obtain ⟨σ, p, _, rfl⟩ := hz
 have h1 := path_bd hok p (d := i + 1) (by omega)
 have h2 := hok.base
 have h3 := hok.nh
 unfold zero
 omega
end

def endT (g : Gl) (h : List Rg) (high : Bool) : List Int × List Int × List Int :=
 ((List.range h.length).map (fun d => if high then (gR h d).lo else (gR h d).hi), (List.range h.length).map (fun d => if high then (creep g d).hi else (creep g d).lo), (List.range h.length).map (fun _ => if high then g.bhi else g.blo))
section
variable {g : Gl} {h : List Rg}
end
end Go.Proofs.YtkaogjhnogkcdaaGreat
end

section
namespace Go.Proofs.YtkaogjhnogkcdaaGreat

def upG (g : Gl) (b : Int) : Gl := ⟨g.base + b, g.bands, g.depths, g.blo, g.bhi⟩
def upI (b : Int) (c : Ic) : Ic := ⟨c.day, c.zero + b, c.err⟩
section
variable {g : Gl} {h : List Rg} {l : List Ic} {b : Int}
end
end Go.Proofs.YtkaogjhnogkcdaaGreat
end

section
namespace Go.Proofs.YtkaogjhnogkcdaaGreat

def cnt (O : Nat → Bool) (n : Nat) : Nat → Nat
 | 0 => 0
 | f + 1 => (if O n then 1 else 0) + cnt O (n + 1) f
section
variable {g : Gl} {h : List Rg} {l : List Ic}
end
end Go.Proofs.YtkaogjhnogkcdaaGreat
end

section
namespace Go.Proofs.YtkaogjhnogkcdaaGreat
open Go.RowKit

def ZerosV (g : Gl) (h : List Rg) (l : List Ic) (n : Nat) (ev : Int) (zs : List Rg) : Prop := (agreeB g h l off0 = false ∧ ev = 9 ∧ n = 0) ∨ (agreeB g h l off0 = true ∧ ev = 0 ∧ n = h.length ∧ ZsOf g h l zs)
def ShowsV (g : Gl) (h : List Rg) (l : List Ic) (k ev : Int) : Prop := (∃ j : Nat, k = (j : Int) ∧ j < l.length ∧ (∀ i, i < j → agreeB g h (l.take (i + 1)) off0 = true) ∧ agreeB g h (l.take (j + 1)) off0 = false ∧ ev = 0) ∨ ((∀ j, j < l.length → agreeB g h (l.take (j + 1)) off0 = true) ∧ k = 0 ∧ ev = 7)
def BlameV (g : Gl) (h : List Rg) (l : List Ic) (k ev : Int) : Prop := ((agreeB g h l off0 = true ∨ (listsL g h l 1).length ≠ 1) ∧ k = 0 ∧ ev = 7) ∨ (agreeB g h l off0 = false ∧ listsL g h l 1 = [[k]] ∧ ev = 0)
section
variable {g : Gl} {h : List Rg} {l : List Ic} {b : Int}
end
end Go.Proofs.YtkaogjhnogkcdaaGreat
end

section
namespace Go.Proofs.YtkaogjhnogkcdaaGreat
open Go.RowKit

structure Paused (p : Prop) : Prop where
 out : p
theorem pause_at {P : Program} {rest : List Oper} {A : Array Oper} {o : Oper} {a : Act} {w : World} {Q : Exit → Act → World → Prop} (d : Nat) (hd : o.dst = some d) (h : Paused (wpList P A Q (o :: rest) a w)) : wpList P A Q (o :: rest) a w := h.out

def upTo (b : Int) (l : List Ic) : Nat → List Ic
 | 0 => l
 | k + 1 => (upTo b l k).set k ⟨(gC l k).day, IntKind.i64.wrap ((gC l k).zero + b), (gC l k).err⟩
end Go.Proofs.YtkaogjhnogkcdaaGreat
end

section
namespace Go.Proofs.YtkaogjhnogkcdaaGreat
open Go.RowKit
attribute [local go_sem] Ex.cell? Ex.frozen? run_store_fn

def woTo (r : Rd) (q : Ki) (air rate off : Int) : Nat → Int
  | 0 => r.shown + off
  | 1 => r.shown + off + stemP r q.k air
  | 2 => r.shown + off + stemP r q.k air + rate * q.lag
  | _ => woP r q air rate off
set_option maxRecDepth 100000 in
set_option maxHeartbeats 1600000 in
theorem without_any (t : Tb) (Ab Ad : Option Addr) (cb cd : Nat) (r : Rd) (q : Ki) (air rate off : Int) (w : World) (hr : RdBd r) (hq : KiBd q) (ha : -100 ≤ air ∧ air ≤ 100) (hra : -20 ≤ rate ∧ rate ≤ 20) (ho : -20 ≤ off ∧ off ≤ 20) :
    Calls Tryz.prog 88 #[.agg #[.int .i64 t.g.base, .slice Ab t.g.bands.length cb, .slice Ad t.g.depths.length cd, .int .i64 t.g.blo, .int .i64 t.g.bhi, .int .i64 t.k.lo, .int .i64 t.k.hi, .int .i64 t.lag.lo, .int .i64 t.lag.hi, .int .i64 t.sq.lo, .int .i64 t.sq.hi, .int .i64 t.term, .int .i64 r.day, .int .i64 r.shown, .int .i64 r.err, .int .i64 r.bare, .int .i64 r.air.lo, .int .i64 r.air.hi, .int .i64 r.rate.lo, .int .i64 r.rate.hi, .int .i64 r.deep, .bool r.broken], .agg #[.int .i64 q.k, .int .i64 q.lag, .int .i64 q.sq], .int .i64 air, .int .i64 rate, .int .i64 off] w fun e w' => e = .returned (.int .i64 (woP r q air rate off)) ∧ Below w.heap.size w w' := by
  have hb1 := ex_alloc (ex_alloc (Below.refl w.heap.size w) (.cells #[.int .i64 t.g.base, .slice Ab t.g.bands.length cb, .slice Ad t.g.depths.length cd, .int .i64 t.g.blo, .int .i64 t.g.bhi, .int .i64 t.k.lo, .int .i64 t.k.hi, .int .i64 t.lag.lo, .int .i64 t.lag.hi, .int .i64 t.sq.lo, .int .i64 t.sq.hi, .int .i64 t.term, .int .i64 r.day, .int .i64 r.shown, .int .i64 r.err, .int .i64 r.bare, .int .i64 r.air.lo, .int .i64 r.air.hi, .int .i64 r.rate.lo, .int .i64 r.rate.hi, .int .i64 r.deep, .bool r.broken] 170)) (.cells #[.int .i64 q.k, .int .i64 q.lag, .int .i64 q.sq] 137)
  have q1 : Blk ((w.alloc (.cells #[.int .i64 t.g.base, .slice Ab t.g.bands.length cb, .slice Ad t.g.depths.length cd, .int .i64 t.g.blo, .int .i64 t.g.bhi, .int .i64 t.k.lo, .int .i64 t.k.hi, .int .i64 t.lag.lo, .int .i64 t.lag.hi, .int .i64 t.sq.lo, .int .i64 t.sq.hi, .int .i64 t.term, .int .i64 r.day, .int .i64 r.shown, .int .i64 r.err, .int .i64 r.bare, .int .i64 r.air.lo, .int .i64 r.air.hi, .int .i64 r.rate.lo, .int .i64 r.rate.hi, .int .i64 r.deep, .bool r.broken] 170)).alloc (.cells #[.int .i64 q.k, .int .i64 q.lag, .int .i64 q.sq] 137)) w.heap.size 170 #[.int .i64 t.g.base, .slice Ab t.g.bands.length cb, .slice Ad t.g.depths.length cd, .int .i64 t.g.blo, .int .i64 t.g.bhi, .int .i64 t.k.lo, .int .i64 t.k.hi, .int .i64 t.lag.lo, .int .i64 t.lag.hi, .int .i64 t.sq.lo, .int .i64 t.sq.hi, .int .i64 t.term, .int .i64 r.day, .int .i64 r.shown, .int .i64 r.err, .int .i64 r.bare, .int .i64 r.air.lo, .int .i64 r.air.hi, .int .i64 r.rate.lo, .int .i64 r.rate.hi, .int .i64 r.deep, .bool r.broken] := (Blk.new _ _ _).alloc _
  have q2 : Blk ((w.alloc (.cells #[.int .i64 t.g.base, .slice Ab t.g.bands.length cb, .slice Ad t.g.depths.length cd, .int .i64 t.g.blo, .int .i64 t.g.bhi, .int .i64 t.k.lo, .int .i64 t.k.hi, .int .i64 t.lag.lo, .int .i64 t.lag.hi, .int .i64 t.sq.lo, .int .i64 t.sq.hi, .int .i64 t.term, .int .i64 r.day, .int .i64 r.shown, .int .i64 r.err, .int .i64 r.bare, .int .i64 r.air.lo, .int .i64 r.air.hi, .int .i64 r.rate.lo, .int .i64 r.rate.hi, .int .i64 r.deep, .bool r.broken] 170)).alloc (.cells #[.int .i64 q.k, .int .i64 q.lag, .int .i64 q.sq] 137)) (w.heap.size + 1) 137 #[.int .i64 q.k, .int .i64 q.lag, .int .i64 q.sq] := Blk.new' _ _ _ (by simp)
  have s1 := hr.shown
  have s2 := (stem_bd hr hq.k ha).2.2
  have s3 := late_bd hq hra
  have s4 := deep_bd hq hr
  go_enter Tryz.func88, Tryz.ntmps88
  go_wp2_with fail
  refine (sm_parts _).mono ?_
  rintro e w1 ⟨rfl, hw1⟩
  have hB := ex_trans hb1 hw1
  replace q1 := q1.below hw1 q1.lt
  replace q2 := q2.below hw1 q2.lt
  go_wp2_with fail
  go_loopw [11, 13, 20] (fun n p i wr => ∃ k : Nat, k ≤ 3 ∧ i = .int .i64 (k : Int) ∧ n = .int .i64 (woTo r q air rate off k) ∧ Below w.heap.size w wr ∧ Blk wr w.heap.size 170 #[.int .i64 t.g.base, .slice Ab t.g.bands.length cb, .slice Ad t.g.depths.length cd, .int .i64 t.g.blo, .int .i64 t.g.bhi, .int .i64 t.k.lo, .int .i64 t.k.hi, .int .i64 t.lag.lo, .int .i64 t.lag.hi, .int .i64 t.sq.lo, .int .i64 t.sq.hi, .int .i64 t.term, .int .i64 r.day, .int .i64 r.shown, .int .i64 r.err, .int .i64 r.bare, .int .i64 r.air.lo, .int .i64 r.air.hi, .int .i64 r.rate.lo, .int .i64 r.rate.hi, .int .i64 r.deep, .bool r.broken] ∧ Blk wr (w.heap.size + 1) 137 #[.int .i64 q.k, .int .i64 q.lag, .int .i64 q.sq])
    (fun _ _ i _ => 3 - (intOf i).toNat)
  case atStart => exact ⟨0, by omega, rfl, rfl, hB, q1, q2⟩
  case round =>
    obtain ⟨k, hk, rfl, rfl, hbl, hq1, hq2⟩ := hrel
    clear q1 q2 hB hw1 hb1
    rcases (show k = 0 ∨ k = 1 ∨ k = 2 ∨ k = 3 by omega) with rfl | rfl | rfl | rfl
    · have b0 : wr.cell? ⟨w.heap.size + 1, 0, none⟩ = some (.int .i64 q.k) := hq2.cell 0
      have b1 : wr.cell? ⟨w.heap.size + 1, 1, none⟩ = some (.int .i64 q.lag) := hq2.cell 1
      have b2 : wr.cell? ⟨w.heap.size + 1, 2, none⟩ = some (.int .i64 q.sq) := hq2.cell 2
      have lb := hq2.lt
      have hI : ∀ W, (Instr.index 211 (.agg #[.func (.func 142) #[] #[], .func (.func 143) #[] #[], .func (.func 144) #[] #[]]) (.int .i64 0)).run Tryz.prog W = .ok (.agg #[.func (.func 142) #[] #[]]) W := fun W => by kernel_rfl
      have hb2 := ex_alloc (Below.refl wr.heap.size wr) (.cells #[.func (.func 142) #[] #[]] 209)
      have hwr : IntKind.i64.wrap (woTo r q air rate off 0 + stemP r q.k air) = woTo r q air rate off 1 := IntWalk.i64_in _ (by simp only [woTo]; omega)
      go_wp2_with (refine pause_at 26 rfl ?_)
      refine Paused.mk ?_
      refine wpList_load_row rfl 170 _ rfl _ rfl 170 _ (0, 0) _ (hq1.alloc _) Tryz.underlying170 rfl (by kernel_rfl) ?_
      go_wp2_with fail
      refine (sm_stem t Ab Ad cb cd r q air rate _ hr hq.k ha).mono ?_
      rintro e w2 ⟨rfl, hw2⟩
      have hB2 := ex_trans hb2 hw2
      replace hq1 := hq1.below hB2 hq1.lt
      replace hq2 := hq2.below hB2 hq2.lt
      clear b0 b1 b2 lb
      go_wp2
      go_roundw
      case rel => exact ⟨1, by omega, by go_num, rfl, ex_trans hbl hB2, hq1, hq2⟩
      case measure => simp [intOf]
    · have b0 : wr.cell? ⟨w.heap.size + 1, 0, none⟩ = some (.int .i64 q.k) := hq2.cell 0
      have b1 : wr.cell? ⟨w.heap.size + 1, 1, none⟩ = some (.int .i64 q.lag) := hq2.cell 1
      have b2 : wr.cell? ⟨w.heap.size + 1, 2, none⟩ = some (.int .i64 q.sq) := hq2.cell 2
      have lb := hq2.lt
      have hI : ∀ W, (Instr.index 211 (.agg #[.func (.func 142) #[] #[], .func (.func 143) #[] #[], .func (.func 144) #[] #[]]) (.int .i64 1)).run Tryz.prog W = .ok (.agg #[.func (.func 143) #[] #[]]) W := fun W => by kernel_rfl
      have hb2 := ex_alloc (Below.refl wr.heap.size wr) (.cells #[.func (.func 143) #[] #[]] 209)
      have hwr : IntKind.i64.wrap (woTo r q air rate off 1 + rate * q.lag) = woTo r q air rate off 2 := IntWalk.i64_in _ (by simp only [woTo]; omega)
      go_wp2_with (refine pause_at 26 rfl ?_)
      refine Paused.mk ?_
      refine wpList_load_row rfl 170 _ rfl _ rfl 170 _ (0, 0) _ (hq1.alloc _) Tryz.underlying170 rfl (by kernel_rfl) ?_
      go_wp2_with fail
      refine (sm_late t Ab Ad cb cd r q air rate _ hq hra).mono ?_
      rintro e w2 ⟨rfl, hw2⟩
      have hB2 := ex_trans hb2 hw2
      replace hq1 := hq1.below hB2 hq1.lt
      replace hq2 := hq2.below hB2 hq2.lt
      clear b0 b1 b2 lb
      go_wp2
      go_roundw
      case rel => exact ⟨2, by omega, by go_num, rfl, ex_trans hbl hB2, hq1, hq2⟩
      case measure => simp [intOf]
    · have b0 : wr.cell? ⟨w.heap.size + 1, 0, none⟩ = some (.int .i64 q.k) := hq2.cell 0
      have b1 : wr.cell? ⟨w.heap.size + 1, 1, none⟩ = some (.int .i64 q.lag) := hq2.cell 1
      have b2 : wr.cell? ⟨w.heap.size + 1, 2, none⟩ = some (.int .i64 q.sq) := hq2.cell 2
      have lb := hq2.lt
      have hI : ∀ W, (Instr.index 211 (.agg #[.func (.func 142) #[] #[], .func (.func 143) #[] #[], .func (.func 144) #[] #[]]) (.int .i64 2)).run Tryz.prog W = .ok (.agg #[.func (.func 144) #[] #[]]) W := fun W => by kernel_rfl
      have hb2 := ex_alloc (Below.refl wr.heap.size wr) (.cells #[.func (.func 144) #[] #[]] 209)
      have hwr : IntKind.i64.wrap (woTo r q air rate off 2 + -(q.sq * r.deep)) = woTo r q air rate off 3 := IntWalk.i64_in _ (by simp only [woTo]; omega)
      go_wp2_with (refine pause_at 26 rfl ?_)
      refine Paused.mk ?_
      refine wpList_load_row rfl 170 _ rfl _ rfl 170 _ (0, 0) _ (hq1.alloc _) Tryz.underlying170 rfl (by kernel_rfl) ?_
      go_wp2_with fail
      refine (sm_squeezed t Ab Ad cb cd r q air rate _ hq hr).mono ?_
      rintro e w2 ⟨rfl, hw2⟩
      have hB2 := ex_trans hb2 hw2
      replace hq1 := hq1.below hB2 hq1.lt
      replace hq2 := hq2.below hB2 hq2.lt
      clear b0 b1 b2 lb
      go_wp2
      go_roundw
      case rel => exact ⟨3, by omega, by go_num, rfl, ex_trans hbl hB2, hq1, hq2⟩
      case measure => simp [intOf]
    · go_wp2
      go_ret
      exact ⟨rfl, hbl⟩

def mnTo (xs : List Int) : Nat → Int
  | 0 => gI xs 0
  | k + 1 => min (mnTo xs k) (gI xs k)
theorem min_any (A : Option Addr) (c B n : Nat) (xs : List Int) (w : World) (h1 : 1 ≤ n) (hl : n ≤ 1000000) (hA : SlAt w B 1 A n (fI xs)) :
    Calls Tryz.prog 102 #[.slice A n c] w fun e w' => e = .returned (.int .i64 (mnTo xs n)) ∧ w = w' := by
  obtain ⟨b, off, rfl, hb, hc⟩ := hA (by omega)
  have hc0 : w.cell? ⟨b, off, none⟩ = some (.int .i64 (gI xs 0)) := by simpa [fI] using hc 0 0 (by omega) (by omega)
  have hc : ∀ k, k < n → w.cell? ⟨b, off + k, none⟩ = some (.int .i64 (gI xs k)) := fun k hk => by simpa [fI] using hc k 0 hk (by omega)
  go_enter Tryz.func102, Tryz.ntmps102
  go_wp2
  go_loop [3, 4] (fun m i => ∃ k : Nat, 1 ≤ k ∧ k ≤ n ∧ i = .int .i64 k ∧ m = .int .i64 (mnTo xs k)) (fun _ i => n - (intOf i).toNat)
  case atStart => exact ⟨1, by omega, by omega, rfl, by simp [mnTo]⟩
  case round =>
    obtain ⟨k, hk1, hk, rfl, rfl⟩ := hrel
    by_cases hlt : k < n
    · have hcell := hc k hlt
      go_wp2
      go_round
      case rel => exact ⟨k + 1, by omega, by omega, by go_num, by first | (simp only [mnTo]; done) | (simp only [mnTo]; congr 1; done) | (simp only [mnTo]; congr 1; split <;> omega)⟩
      case measure => simp [intOf]; omega
    · have : k = n := by omega
      subst this
      go_wp2
      go_ret
      exact ⟨rfl, rfl⟩
theorem sm_least (A : Option Addr) (c B n : Nat) (xs : List Int) (w : World) (h1 : 1 ≤ n) (hl : n ≤ 1000000) (hA : SlAt w B 1 A n (fI xs)) :
    Calls Tryz.prog 70 #[.slice A n c] w fun e w' => e = .returned (.int .i64 (mnTo xs n)) ∧ w = w' := by
  go_enter Tryz.func70, Tryz.ntmps70
  go_wp2_with (go_at_call 102; refine (min_any _ _ _ _ _ _ h1 hl hA).mono ?_; rintro e w' ⟨rfl, rfl⟩)
  go_ret
  exact ⟨rfl, rfl⟩
theorem sm_greatest (A : Option Addr) (c B n : Nat) (xs : List Int) (w : World) (h1 : 1 ≤ n) (hl : n ≤ 1000000) (hA : SlAt w B 1 A n (fI xs)) :
    Calls Tryz.prog 71 #[.slice A n c] w fun e w' => e = .returned (.int .i64 (mxTo xs n)) ∧ w = w' := by
  go_enter Tryz.func71, Tryz.ntmps71
  go_wp2_with (go_at_call 103; refine (max_any _ _ _ _ _ _ h1 hl hA).mono ?_; rintro e w' ⟨rfl, rfl⟩)
  go_ret
  exact ⟨rfl, rfl⟩
theorem two_ints {w : World} {b : Nat} {x y : Int} (h : Blk w b 3 #[.int .i64 x, .int .i64 y]) : SlAt w (b + 1) 1 (some ⟨b, 0, none⟩) 2 (fI [x, y]) := fun _ => ⟨b, 0, rfl, by omega, fun k j hk hj => by
  rw [h.cell]
  obtain rfl : j = 0 := by omega
  match k, hk with
  | 0, _ => rfl
  | 1, _ => rfl⟩
theorem sm_least2 (b c : Nat) (x y : Int) (w : World) (h : Blk w b 3 #[.int .i64 x, .int .i64 y]) :
    Calls Tryz.prog 70 #[.slice (some ⟨b, 0, none⟩) 2 c] w fun e w' => e = .returned (.int .i64 (min x y)) ∧ w = w' := by
  refine (sm_least _ c (b + 1) 2 [x, y] w (by omega) (by omega) (two_ints h)).mono ?_
  rintro e w' ⟨rfl, rfl⟩
  exact ⟨ret_int (by simp [mnTo, gI]), rfl⟩
theorem sm_greatest2 (b c : Nat) (x y : Int) (w : World) (h : Blk w b 3 #[.int .i64 x, .int .i64 y]) :
    Calls Tryz.prog 71 #[.slice (some ⟨b, 0, none⟩) 2 c] w fun e w' => e = .returned (.int .i64 (max x y)) ∧ w = w' := by
  refine (sm_greatest _ c (b + 1) 2 [x, y] w (by omega) (by omega) (two_ints h)).mono ?_
  rintro e w' ⟨rfl, rfl⟩
  exact ⟨ret_int (by simp [mxTo, gI]), rfl⟩
end Go.Proofs.YtkaogjhnogkcdaaGreat
end

section
namespace Go.Proofs.YtkaogjhnogkcdaaGreat
open Go.RowKit
theorem wpQuiet_load_row {P : Program} {ops : Array Oper} {C : World → Prop} {Q : Act → Prop} {rest : List Oper} {o : Oper} {a : Act} (hgd : o.guard = none) (ty : TypeId) (x : Operand) (ho : o.op = .load ty x)
  (g : Nat) (hx : a.eval x = .pointer (some ⟨g, 0, none⟩)) (t : TypeId) (cs : Array Value) (fr : Nat × Nat) (d : TypeDesc) (hg : ∀ w, C w → w.heap[g]? = some (.cells cs t fr))
  (hu : P.underlying ty = some d) (hd : (match d with | .struct _ | .array _ _ => true | _ => false) = true) (hi : (P.info? ty).map (·.size) = some cs.size)
  (h : wpQuiet P ops C Q rest (a.put o.dst (.agg cs))) : wpQuiet P ops C Q (o :: rest) a := by
 unfold wpQuiet
 rw [if_pos (by simp [Region.wanted, hgd])]
 refine ⟨.agg cs, fun w hw => ?_, h⟩
 unfold Oper.quietAt execOp
 simp only [ho, hx, Instr.loadAt, Instr.sureAddr, Sem.run_bind, Sem.run_pure, Result.andThen_ok, run_loadVar_row w g t ty cs fr d (hg w hw) hu hd hi]
 exact ⟨rfl, rfl⟩
theorem Blk.ex {w : World} {g : Nat} {t : TypeId} {cs : Array Value} (h : Blk w g t cs) : ∀ w', (∃ x : Ex w, w' = x.W) → w'.heap[g]? = some (.cells cs t (0, 0)) := by
 rintro w' ⟨x, rfl⟩
 exact h.below x.h h.lt
end Go.Proofs.YtkaogjhnogkcdaaGreat
end

section
namespace Go.Proofs.YtkaogjhnogkcdaaGreat
open Go.RowKit
attribute [local go_sem] Ex.cell? Ex.frozen?

set_option maxRecDepth 100000 in
set_option maxHeartbeats 3200000 in
theorem sm_span (t : Tb) (Ab Ad : Option Addr) (cb cd : Nat) (r : Rd) (q : Ki) (rate : Int) (w : World) (hr : RdBd r) (hq : KiBd q) (hra : -20 ≤ rate ∧ rate ≤ 20) :
  Calls Tryz.prog 121 #[.agg #[.int .i64 t.g.base, .slice Ab t.g.bands.length cb, .slice Ad t.g.depths.length cd, .int .i64 t.g.blo, .int .i64 t.g.bhi, .int .i64 t.k.lo, .int .i64 t.k.hi, .int .i64 t.lag.lo, .int .i64 t.lag.hi, .int .i64 t.sq.lo, .int .i64 t.sq.hi, .int .i64 t.term, .int .i64 r.day, .int .i64 r.shown, .int .i64 r.err, .int .i64 r.bare, .int .i64 r.air.lo, .int .i64 r.air.hi, .int .i64 r.rate.lo, .int .i64 r.rate.hi, .int .i64 r.deep, .bool r.broken], .agg #[.int .i64 q.k, .int .i64 q.lag, .int .i64 q.sq], .int .i64 rate] w fun e w' => e = .returned (.agg #[.int .i64 (spanP r q rate).lo, .int .i64 (spanP r q rate).hi]) ∧ Below w.heap.size w w' := by
 have ha1 : -100 ≤ r.air.lo ∧ r.air.lo ≤ 100 := by have := hr.air; omega
 have ha2 : -100 ≤ r.air.hi ∧ r.air.hi ≤ 100 := by have := hr.air; omega
 have hw1 := woP_bd hq hr ha1 hra (off := 0) (by omega)
 have hw2 := woP_bd hq hr ha2 hra (off := 0) (by omega)
 have he := hr.err
 have hb1 := ex_alloc (ex_alloc (ex_alloc (Below.refl w.heap.size w) (.cells #[.int .i64 t.g.base, .slice Ab t.g.bands.length cb, .slice Ad t.g.depths.length cd, .int .i64 t.g.blo, .int .i64 t.g.bhi, .int .i64 t.k.lo, .int .i64 t.k.hi, .int .i64 t.lag.lo, .int .i64 t.lag.hi, .int .i64 t.sq.lo, .int .i64 t.sq.hi, .int .i64 t.term, .int .i64 r.day, .int .i64 r.shown, .int .i64 r.err, .int .i64 r.bare, .int .i64 r.air.lo, .int .i64 r.air.hi, .int .i64 r.rate.lo, .int .i64 r.rate.hi, .int .i64 r.deep, .bool r.broken] 170)) (.cells #[.int .i64 q.k, .int .i64 q.lag, .int .i64 q.sq] 137)) (.cells #[.int .i64 0, .int .i64 0] 41)
 have q1 : Blk (((w.alloc (.cells #[.int .i64 t.g.base, .slice Ab t.g.bands.length cb, .slice Ad t.g.depths.length cd, .int .i64 t.g.blo, .int .i64 t.g.bhi, .int .i64 t.k.lo, .int .i64 t.k.hi, .int .i64 t.lag.lo, .int .i64 t.lag.hi, .int .i64 t.sq.lo, .int .i64 t.sq.hi, .int .i64 t.term, .int .i64 r.day, .int .i64 r.shown, .int .i64 r.err, .int .i64 r.bare, .int .i64 r.air.lo, .int .i64 r.air.hi, .int .i64 r.rate.lo, .int .i64 r.rate.hi, .int .i64 r.deep, .bool r.broken] 170)).alloc (.cells #[.int .i64 q.k, .int .i64 q.lag, .int .i64 q.sq] 137)).alloc (.cells #[.int .i64 0, .int .i64 0] 41)) w.heap.size 170 #[.int .i64 t.g.base, .slice Ab t.g.bands.length cb, .slice Ad t.g.depths.length cd, .int .i64 t.g.blo, .int .i64 t.g.bhi, .int .i64 t.k.lo, .int .i64 t.k.hi, .int .i64 t.lag.lo, .int .i64 t.lag.hi, .int .i64 t.sq.lo, .int .i64 t.sq.hi, .int .i64 t.term, .int .i64 r.day, .int .i64 r.shown, .int .i64 r.err, .int .i64 r.bare, .int .i64 r.air.lo, .int .i64 r.air.hi, .int .i64 r.rate.lo, .int .i64 r.rate.hi, .int .i64 r.deep, .bool r.broken] := ((Blk.new _ _ _).alloc _).alloc _
 have q2 : Blk (((w.alloc (.cells #[.int .i64 t.g.base, .slice Ab t.g.bands.length cb, .slice Ad t.g.depths.length cd, .int .i64 t.g.blo, .int .i64 t.g.bhi, .int .i64 t.k.lo, .int .i64 t.k.hi, .int .i64 t.lag.lo, .int .i64 t.lag.hi, .int .i64 t.sq.lo, .int .i64 t.sq.hi, .int .i64 t.term, .int .i64 r.day, .int .i64 r.shown, .int .i64 r.err, .int .i64 r.bare, .int .i64 r.air.lo, .int .i64 r.air.hi, .int .i64 r.rate.lo, .int .i64 r.rate.hi, .int .i64 r.deep, .bool r.broken] 170)).alloc (.cells #[.int .i64 q.k, .int .i64 q.lag, .int .i64 q.sq] 137)).alloc (.cells #[.int .i64 0, .int .i64 0] 41)) (w.heap.size + 1) 137 #[.int .i64 q.k, .int .i64 q.lag, .int .i64 q.sq] := (Blk.new' _ _ _ (by simp)).alloc _
 have q3 : Blk (((w.alloc (.cells #[.int .i64 t.g.base, .slice Ab t.g.bands.length cb, .slice Ad t.g.depths.length cd, .int .i64 t.g.blo, .int .i64 t.g.bhi, .int .i64 t.k.lo, .int .i64 t.k.hi, .int .i64 t.lag.lo, .int .i64 t.lag.hi, .int .i64 t.sq.lo, .int .i64 t.sq.hi, .int .i64 t.term, .int .i64 r.day, .int .i64 r.shown, .int .i64 r.err, .int .i64 r.bare, .int .i64 r.air.lo, .int .i64 r.air.hi, .int .i64 r.rate.lo, .int .i64 r.rate.hi, .int .i64 r.deep, .bool r.broken] 170)).alloc (.cells #[.int .i64 q.k, .int .i64 q.lag, .int .i64 q.sq] 137)).alloc (.cells #[.int .i64 0, .int .i64 0] 41)) (w.heap.size + 1 + 1) 41 #[.int .i64 0, .int .i64 0] := Blk.new' _ _ _ (by simp)
 go_enter Tryz.func121, Tryz.ntmps121
 go_upto_region 1 with fail
 show Code.wp _ _ _ _ (((w.alloc (.cells #[.int .i64 t.g.base, .slice Ab t.g.bands.length cb, .slice Ad t.g.depths.length cd, .int .i64 t.g.blo, .int .i64 t.g.bhi, .int .i64 t.k.lo, .int .i64 t.k.hi, .int .i64 t.lag.lo, .int .i64 t.lag.hi, .int .i64 t.sq.lo, .int .i64 t.sq.hi, .int .i64 t.term, .int .i64 r.day, .int .i64 r.shown, .int .i64 r.err, .int .i64 r.bare, .int .i64 r.air.lo, .int .i64 r.air.hi, .int .i64 r.rate.lo, .int .i64 r.rate.hi, .int .i64 r.deep, .bool r.broken] 170)).alloc (.cells #[.int .i64 q.k, .int .i64 q.lag, .int .i64 q.sq] 137)).alloc (.cells #[.int .i64 0, .int .i64 0] 41))
 generalize ((w.alloc (.cells #[.int .i64 t.g.base, .slice Ab t.g.bands.length cb, .slice Ad t.g.depths.length cd, .int .i64 t.g.blo, .int .i64 t.g.bhi, .int .i64 t.k.lo, .int .i64 t.k.hi, .int .i64 t.lag.lo, .int .i64 t.lag.hi, .int .i64 t.sq.lo, .int .i64 t.sq.hi, .int .i64 t.term, .int .i64 r.day, .int .i64 r.shown, .int .i64 r.err, .int .i64 r.bare, .int .i64 r.air.lo, .int .i64 r.air.hi, .int .i64 r.rate.lo, .int .i64 r.rate.hi, .int .i64 r.deep, .bool r.broken] 170)).alloc (.cells #[.int .i64 q.k, .int .i64 q.lag, .int .i64 q.sq] 137)).alloc (.cells #[.int .i64 0, .int .i64 0] 41) = V at *
 have a14 : V.cell? ⟨w.heap.size, 14, none⟩ = some (.int .i64 r.err) := q1.cell 14
 have a16 : V.cell? ⟨w.heap.size, 16, none⟩ = some (.int .i64 r.air.lo) := q1.cell 16
 have a17 : V.cell? ⟨w.heap.size, 17, none⟩ = some (.int .i64 r.air.hi) := q1.cell 17
 have la := q1.lt
 have b0 : V.cell? ⟨w.heap.size + 1, 0, none⟩ = some (.int .i64 q.k) := q2.cell 0
 have b1 : V.cell? ⟨w.heap.size + 1, 1, none⟩ = some (.int .i64 q.lag) := q2.cell 1
 have b2 : V.cell? ⟨w.heap.size + 1, 2, none⟩ = some (.int .i64 q.sq) := q2.cell 2
 have lb := q2.lt
 go_wp2_with fail
 refine wp_region_ext (by kernel_rfl) (by kernel_rfl) ?_
 refine wpQuiet_load_row rfl 170 _ rfl _ rfl 170 _ (0, 0) _ q1.ex Tryz.underlying170 rfl (by kernel_rfl) ?_
 simp only [Act.put, List.setIfInBounds_toArray, List.set_cons_zero, List.set_cons_succ]
 repeat (go_big_quiet_step ((go_at_call 88; first | exact Calls.ext_of (without_any t Ab Ad cb cd r q _ _ _ _ hr hq ha1 hra (by omega)) | exact Calls.ext_of (without_any t Ab Ad cb cd r q _ _ _ _ hr hq ha2 hra (by omega)))))
 refine wpQuiet_load_row rfl 170 _ rfl _ rfl 170 _ (0, 0) _ q1.ex Tryz.underlying170 rfl (by kernel_rfl) ?_
 simp only [Act.put, List.setIfInBounds_toArray, List.set_cons_zero, List.set_cons_succ]
 repeat (go_big_quiet_step ((go_at_call 88; first | exact Calls.ext_of (without_any t Ab Ad cb cd r q _ _ _ _ hr hq ha1 hra (by omega)) | exact Calls.ext_of (without_any t Ab Ad cb cd r q _ _ _ _ hr hq ha2 hra (by omega)))))
 refine wpQuiet_nil ?_; intro _ hw'; obtain ⟨X, rfl⟩ := hw'
 clear b0 b1 b2 lb
 clear a14 a16 a17 la
 replace q1 := q1.below X.h q1.lt
 replace q2 := q2.below X.h q2.lt
 replace q3 := q3.below X.h q3.lt
 have B_X.W := ex_trans hb1 X.h
 generalize X.W = V2 at *
 go_wp2_with fail
 have a14 : V2.cell? ⟨w.heap.size, 14, none⟩ = some (.int .i64 r.err) := q1.cell 14
 have la := q1.lt
 generalize hA : woP r q r.air.lo rate 0 = x at *
 generalize hB : woP r q r.air.hi rate 0 = y at *
 have HA := Lib.hid hA
 have HB := Lib.hid hB
 clear hA hB
 refine wp_region_ext_tq 17 (.quiet 0 (.quiet 1 (.quiet 4 (.quiet 5 (.quiet 6 (.quiet 8 (.quiet 9 (.quiet 12 (.quiet 13 (.quiet 14 (.fork 2 (.fork 3 (.quiet 7 (.loud 10 (.loud 11 (.quiet 15 (.quiet 16 .done))))) 10 (.loud 3 (.quiet 7 (.loud 11 (.quiet 15 (.quiet 16 .done)))))) 10 (.loud 2 (.loud 3 (.quiet 7 (.loud 11 (.quiet 15 (.quiet 16 .done))))))))))))))))) (by kernel_rfl) (by kernel_rfl) (by intro d _ _ _ _ h; cases d <;> exact h) ?_
 have D0 := (Below.refl V2.heap.size V2).drew
 repeat (refine tq_quiet rfl ?_; go_big_quiet_step (fail); refine wpQuiet_nil ?_)
 refine tq_fork rfl rfl ?_ ?_
 ·
  go_wp2_with fail
  have N1 := ex_alloc (Below.refl V2.heap.size V2) (.cells #[.int .i64 (x), .int .i64 (y)] 3)
  have b1 : Blk (V2.alloc (.cells #[.int .i64 (x), .int .i64 (y)] 3)) (V2.heap.size) 3 #[.int .i64 (x), .int .i64 (y)] := Blk.new' _ _ _ (by simp)
  refine ⟨inEx N1.drew, ?_⟩
  repeat (refine tq_quiet rfl ?_; go_big_quiet_step (fail); refine wpQuiet_nil ?_)
  refine tq_fork rfl rfl ?_ ?_
  ·
   go_wp2_with fail
   refine (sm_least2 _ _ _ _ _ b1.drew).mono ?_
   rintro e w' ⟨rfl, rfl⟩
   go_wp2_with fail
   refine ⟨inEx N1.drew, ?_⟩
   repeat (refine tq_quiet rfl ?_; go_big_quiet_step (fail); refine wpQuiet_nil ?_)
   refine tq_loud rfl ?_
   go_wp2_with fail
   have N2 := ex_alloc N1 (.cells #[.int .i64 (x), .int .i64 (y)] 3)
   have b2 : Blk ((V2.alloc (.cells #[.int .i64 (x), .int .i64 (y)] 3)).alloc (.cells #[.int .i64 (x), .int .i64 (y)] 3)) (V2.heap.size + 1) 3 #[.int .i64 (x), .int .i64 (y)] := Blk.new' _ _ _ (by simp)
   replace b1 := b1.alloc (.cells #[.int .i64 (x), .int .i64 (y)] 3)
   refine ⟨inEx N2.drew, ?_⟩
   repeat (refine tq_quiet rfl ?_; go_big_quiet_step (fail); refine wpQuiet_nil ?_)
   refine tq_loud rfl ?_
   go_wp2_with fail
   refine (sm_greatest2 _ _ _ _ _ b2.drew).mono ?_
   rintro e w' ⟨rfl, rfl⟩
   go_wp2_with fail
   refine ⟨inEx N2.drew, ?_⟩
   repeat (refine tq_quiet rfl ?_; go_big_quiet_step (fail); refine wpQuiet_nil ?_)
   refine tq_done (r := [_]) rfl ?_
   replace q3 := q3.below N2.drew q3.lt
   have B_V1 := ex_trans B_X.W N2.drew
   clear a14 la
   clear D0 N2 b2 N1 b1
   generalize ((V2.alloc (.cells #[.int .i64 (x), .int .i64 (y)] 3)).alloc (.cells #[.int .i64 (x), .int .i64 (y)] 3)).drew = V1 at *
   have m0 := q3.cell 0
   have m2 := q3.cell 1
   simp at m0 m2
   have mf := q3.frozen0
   have ml := q3.lt
   have m3 := (q3.set_ 0 (.int .i64 (min x y - r.err))).set_ 1 (.int .i64 (max x y + r.err))
   simp only [List.setIfInBounds_toArray, List.set_cons_zero, List.set_cons_succ] at m3
   have e0 : w.heap.size ≤ w.heap.size + 1 + 1 := by omega
   go_wp2
   refine bodyPost_ret (results_cell_row rfl _ _ _ 41 #[.int .i64 (min x y - r.err), .int .i64 (max x y + r.err)] (0, 0) _ rfl m3 rfl rfl rfl) rfl ?_
   rw [← HA.out, ← HB.out]
   exact ⟨rfl, ex_set (p := ⟨w.heap.size + 1 + 1, 1, none⟩) (ex_set (p := ⟨w.heap.size + 1 + 1, 0, none⟩) B_V1 e0 _) e0 _⟩
  ·
   go_wp2_with fail
   have N2 := ex_alloc N1 (.cells #[.int .i64 (x), .int .i64 (y)] 3)
   have b2 : Blk ((V2.alloc (.cells #[.int .i64 (x), .int .i64 (y)] 3)).alloc (.cells #[.int .i64 (x), .int .i64 (y)] 3)) (V2.heap.size + 1) 3 #[.int .i64 (x), .int .i64 (y)] := Blk.new' _ _ _ (by simp)
   replace b1 := b1.alloc (.cells #[.int .i64 (x), .int .i64 (y)] 3)
   refine ⟨inEx N2.drew, ?_⟩
   repeat (refine tq_quiet rfl ?_; go_big_quiet_step (fail); refine wpQuiet_nil ?_)
   refine tq_loud rfl ?_
   go_wp2_with fail
   refine (sm_least2 _ _ _ _ _ b1.drew).mono ?_
   rintro e w' ⟨rfl, rfl⟩
   go_wp2_with fail
   refine ⟨inEx N2.drew, ?_⟩
   repeat (refine tq_quiet rfl ?_; go_big_quiet_step (fail); refine wpQuiet_nil ?_)
   refine tq_loud rfl ?_
   go_wp2_with fail
   refine (sm_greatest2 _ _ _ _ _ b2.drew).mono ?_
   rintro e w' ⟨rfl, rfl⟩
   go_wp2_with fail
   refine ⟨inEx N2.drew, ?_⟩
   repeat (refine tq_quiet rfl ?_; go_big_quiet_step (fail); refine wpQuiet_nil ?_)
   refine tq_done (r := [_]) rfl ?_
   replace q3 := q3.below N2.drew q3.lt
   have B_V2 := ex_trans B_X.W N2.drew
   clear a14 la
   clear D0 N2 b2 N1 b1
   generalize ((V2.alloc (.cells #[.int .i64 (x), .int .i64 (y)] 3)).alloc (.cells #[.int .i64 (x), .int .i64 (y)] 3)).drew = V2 at *
   have m0 := q3.cell 0
   have m2 := q3.cell 1
   simp at m0 m2
   have mf := q3.frozen0
   have ml := q3.lt
   have m3 := (q3.set_ 0 (.int .i64 (min x y - r.err))).set_ 1 (.int .i64 (max x y + r.err))
   simp only [List.setIfInBounds_toArray, List.set_cons_zero, List.set_cons_succ] at m3
   have e0 : w.heap.size ≤ w.heap.size + 1 + 1 := by omega
   go_wp2
   refine bodyPost_ret (results_cell_row rfl _ _ _ 41 #[.int .i64 (min x y - r.err), .int .i64 (max x y + r.err)] (0, 0) _ rfl m3 rfl rfl rfl) rfl ?_
   rw [← HA.out, ← HB.out]
   exact ⟨rfl, ex_set (p := ⟨w.heap.size + 1 + 1, 1, none⟩) (ex_set (p := ⟨w.heap.size + 1 + 1, 0, none⟩) B_V2 e0 _) e0 _⟩
 ·
  go_wp2_with fail
  have N2 := ex_alloc (Below.refl V2.heap.size V2) (.cells #[.int .i64 (x), .int .i64 (y)] 3)
  have b2 : Blk (V2.alloc (.cells #[.int .i64 (x), .int .i64 (y)] 3)) (V2.heap.size) 3 #[.int .i64 (x), .int .i64 (y)] := Blk.new' _ _ _ (by simp)
  refine ⟨inEx N2.drew, ?_⟩
  repeat (refine tq_quiet rfl ?_; go_big_quiet_step (fail); refine wpQuiet_nil ?_)
  refine tq_loud rfl ?_
  go_wp2_with fail
  have N1 := ex_alloc N2 (.cells #[.int .i64 (x), .int .i64 (y)] 3)
  have b1 : Blk ((V2.alloc (.cells #[.int .i64 (x), .int .i64 (y)] 3)).alloc (.cells #[.int .i64 (x), .int .i64 (y)] 3)) (V2.heap.size + 1) 3 #[.int .i64 (x), .int .i64 (y)] := Blk.new' _ _ _ (by simp)
  replace b2 := b2.alloc (.cells #[.int .i64 (x), .int .i64 (y)] 3)
  refine ⟨inEx N1.drew, ?_⟩
  repeat (refine tq_quiet rfl ?_; go_big_quiet_step (fail); refine wpQuiet_nil ?_)
  refine tq_loud rfl ?_
  go_wp2_with fail
  refine (sm_least2 _ _ _ _ _ b1.drew).mono ?_
  rintro e w' ⟨rfl, rfl⟩
  go_wp2_with fail
  refine ⟨inEx N1.drew, ?_⟩
  repeat (refine tq_quiet rfl ?_; go_big_quiet_step (fail); refine wpQuiet_nil ?_)
  refine tq_loud rfl ?_
  go_wp2_with fail
  refine (sm_greatest2 _ _ _ _ _ b2.drew).mono ?_
  rintro e w' ⟨rfl, rfl⟩
  go_wp2_with fail
  refine ⟨inEx N1.drew, ?_⟩
  repeat (refine tq_quiet rfl ?_; go_big_quiet_step (fail); refine wpQuiet_nil ?_)
  refine tq_done (r := [_]) rfl ?_
  replace q3 := q3.below N1.drew q3.lt
  have B_V3 := ex_trans B_X.W N1.drew
  clear a14 la
  clear D0 N1 b1 N2 b2
  generalize ((V2.alloc (.cells #[.int .i64 (x), .int .i64 (y)] 3)).alloc (.cells #[.int .i64 (x), .int .i64 (y)] 3)).drew = V3 at *
  have m0 := q3.cell 0
  have m2 := q3.cell 1
  simp at m0 m2
  have mf := q3.frozen0
  have ml := q3.lt
  have m3 := (q3.set_ 0 (.int .i64 (min x y - r.err))).set_ 1 (.int .i64 (max x y + r.err))
  simp only [List.setIfInBounds_toArray, List.set_cons_zero, List.set_cons_succ] at m3
  have e0 : w.heap.size ≤ w.heap.size + 1 + 1 := by omega
  go_wp2
  refine bodyPost_ret (results_cell_row rfl _ _ _ 41 #[.int .i64 (min x y - r.err), .int .i64 (max x y + r.err)] (0, 0) _ rfl m3 rfl rfl rfl) rfl ?_
  rw [← HA.out, ← HB.out]
  exact ⟨rfl, ex_set (p := ⟨w.heap.size + 1 + 1, 1, none⟩) (ex_set (p := ⟨w.heap.size + 1 + 1, 0, none⟩) B_V3 e0 _) e0 _⟩

end Go.Proofs.YtkaogjhnogkcdaaGreat
end
