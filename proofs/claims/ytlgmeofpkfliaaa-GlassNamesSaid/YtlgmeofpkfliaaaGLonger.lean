/- The law GlassLonger (plain): one day more, with no ice on it. · The law GlassLonger (walk). · The row GlassLonger: with one day more the zeros of all days before have the same ranges. -/
import Derived.WalkKit
import Derived.ProofKit
import Derived.OpenShut
import Derived.SizedLaws
import Derived.Test.YtlgmeofpkfliaaaGj
import Derived.Test.YtlgmeofpkfliaaaGf
import Derived.Test.YtlgmeofpkfliaaaGk
import Derived.Test.YtlgmeofpkfliaaaRows
import Derived.Test.YtlgmeofpkfliaaaGi
set_option linter.unusedVariables false
set_option linter.unusedSimpArgs false
set_option linter.unusedSectionVars false
section
namespace Go.Proofs.Ytlgmeofpkfliaaa

theorem gR_app {h : List Rg} {day : Rg} {d : Nat} (hd : d < h.length) : gR (h ++ [day]) d = gR h d := by simp [gR, List.getElem?_append, hd]
section
variable {g : Gl} {h : List Rg} {day : Rg} {l : List Ic}
theorem step_app {d : Nat} (hd : d < h.length) {s t : St} : Step g (h ++ [day]) d s t ↔ Step g h d s t := by unfold Step; rw [gR_app hd]
theorem path_app {σ : Nat → St} : Path g (h ++ [day]) σ h.length ↔ Path g h σ h.length := by
  unfold Path
  exact and_congr_right fun _ => forall_congr' fun d => forall_congr' fun hd => step_app hd
theorem fits_none {o : Nat → Bool} {d z : Int} (hl : ∀ i, i < l.length → (gC l i).day ≠ d) : fitsB l o d z = true := by
  unfold fitsB
  rw [allTo_iff]
  intro k hk
  unfold fitOk
  have := hl k hk
  simp [this]
theorem one_more (hx : Ok g (h ++ [day])) (hl : ∀ i, i < l.length → (gC l i).day < h.length) {σ : Nat → St} (p : Path g h σ h.length) (f : Fits g l off0 σ h.length) :
    ∃ τ, Path g (h ++ [day]) τ (h ++ [day]).length ∧ Fits g l off0 τ (h ++ [day]).length ∧ ∀ d, d ≤ h.length → τ d = σ d := by
  have hlen : (h ++ [day]).length = h.length + 1 := by simp
  have k1 := hx.heats h.length (by omega)
  have k2 := hx.creep h.length
  have k3 := hx.back
  have hst : ∃ t, Step g (h ++ [day]) h.length (σ h.length) t := ⟨_, (gR (h ++ [day]) h.length).lo, g.blo, (creep g h.length).lo, ⟨by omega, by omega⟩, ⟨by omega, by omega⟩, ⟨by omega, by omega⟩, rfl⟩
  obtain ⟨t, ht⟩ := hst
  rw [hlen]
  refine ⟨fun j => if j ≤ h.length then σ j else t, ⟨by simpa using p.1, fun d hd => ?_⟩, fun d hd => ?_, fun d hd => if_pos hd⟩
  · rcases Nat.lt_succ_iff_lt_or_eq.1 hd with hd | hd
    · simp only [show d ≤ h.length by omega, show d + 1 ≤ h.length by omega, if_true]
      exact (step_app hd).2 (p.2 d hd)
    · subst hd
      simp only [Nat.le_refl, if_true, show ¬ (h.length + 1 ≤ h.length) by omega, if_false]
      exact ht
  · rcases Nat.lt_succ_iff_lt_or_eq.1 hd with hd | hd
    · simp only [show d + 1 ≤ h.length by omega, if_true]
      exact f d hd
    · subst hd
      exact fits_none fun i hi => by have := hl i hi; omega
theorem longer_agree (hok : Ok g h) (hx : Ok g (h ++ [day])) (hl : ∀ i, i < l.length → (gC l i).day < h.length) (ha : agreeB g h l off0 = true) : agreeB g (h ++ [day]) l off0 = true := by
  obtain ⟨σ, p, f⟩ := (agree_iff hok).1 ha
  obtain ⟨τ, q, f2, _⟩ := one_more hx hl p f
  exact (agree_iff hx).2 ⟨τ, q, f2⟩
theorem longer_same (hok : Ok g h) (hx : Ok g (h ++ [day])) (hl : ∀ i, i < l.length → (gC l i).day < h.length) {zs zs' : List Rg} (hz : ZsOf g h l zs) (hz' : ZsOf g (h ++ [day]) l zs') {d : Nat} (hd : d < h.length) : gR zs d = gR zs' d := by
  have e1 := ((zs_iff hok).1 hz).2 d hd
  have e2 := ((zs_iff hx).1 hz').2 d (by simp; omega)
  have : ZAt g (h ++ [day]) l d = ZAt g h l d := by
    funext z
    refine propext ⟨?_, ?_⟩
    · rintro ⟨σ, p, f, rfl⟩
      have hlen : h.length ≤ (h ++ [day]).length := by simp
      exact ⟨σ, path_app.1 (p.to hlen), f.to hlen, rfl⟩
    · rintro ⟨σ, p, f, rfl⟩
      obtain ⟨τ, q, f2, e⟩ := one_more hx hl p f
      exact ⟨τ, q, f2, by rw [e (d + 1) (by omega)]⟩
  rw [this] at e2
  have := e1.uniq e2
  cases hz1 : gR zs d
  cases hz2 : gR zs' d
  rw [hz1, hz2] at this
  simp only at this
  rw [this.1, this.2]
end
theorem ReadIs.days {zs : List Int} {b : Int} {l : List Ic} (h : ReadIs zs b l) : ∀ i, i < l.length → (gC l i).day < zs.length := fun i hi => (h i hi).1.2

end Go.Proofs.Ytlgmeofpkfliaaa
end

section
namespace Go.Proofs.Ytlgmeofpkfliaaa
open Go.RowKit
attribute [local go_sem] Ex.cell? Ex.frozen? Gx.cell?

theorem rgR_info : (Try.prog.info? 25).map (fun i => (i.zero, i.size, i.bytes)) = some (some (.agg #[.int .i64 0, .int .i64 0]), 2, 16) := by kernel_rfl
theorem cR_len (c : Rg) : (cR c).length = 2 := rfl
theorem cR_at (l : List Rg) (k : Nat) (hk : k < l.length) (j : Nat) (hj : j < 2) : (cR l[k])[j]? = some (fR l k j) := by
  have e : gR l k = l[k] := gR_at hk
  match j, hj with
  | 0, _ => simp [cR, fR, e]
  | 1, _ => simp [cR, fR, e]
theorem rg_row (a b : Int) (j : Nat) (hj : j < 2) : (#[.int .i64 a, .int .i64 b] : Array Value)[j]? = some (fR [⟨a, b⟩] 0 j) := by
  match j, hj with
  | 0, _ => rfl
  | 1, _ => rfl
theorem cR_one (c : Rg) (u : Value) (hu : u ∈ cR c) : u.oneCell' = true := by
  simp only [cR, List.mem_cons, List.not_mem_nil, or_false] at hu
  rcases hu with rfl | rfl <;> rfl
theorem ics_more {n m : Nat} {l : List Ic} (h0 : icsF n l = 0) (hm : n ≤ m) : icsF m l = 0 := by
  obtain ⟨h8, hb⟩ := ics_bd h0
  unfold icsF
  rw [if_neg (by omega), if_neg]
  rw [Bool.not_eq_false, allTo_iff]
  intro k hk
  have := hb k hk
  unfold iceOk
  simp only [Bool.and_eq_true, inB_iff]
  omega
/-- what both tell, with one day more. -/
theorem longer_all {g : Gl} {h : List Rg} {day : Rg} {l : List Ic} (hok : Ok g h) (hx : Ok g (h ++ [day])) (hl : ∀ i, i < l.length → (gC l i).day < h.length) (ha : agreeB g h l off0 = true) {n n' : Nat} {ev ev' : Int} {zs zs' : List Rg}
    (h1 : ZerosV g h l n ev zs) (h2 : ZerosV g (h ++ [day]) l n' ev' zs') : ev = 0 ∧ ev' = 0 ∧ n = h.length ∧ n' = (h ++ [day]).length ∧ ∀ d, d < h.length → gR zs d = gR zs' d := by
  rcases h1 with ⟨a1, _⟩ | ⟨_, rfl, rfl, hz⟩
  · rw [ha] at a1; cases a1
  · rcases h2 with ⟨b1, _⟩ | ⟨_, rfl, rfl, hz'⟩
    · rw [longer_agree hok hx hl ha] at b1; cases b1
    · exact ⟨rfl, rfl, rfl, rfl, fun d hd => longer_same hok hx hl hz hz' hd⟩

set_option maxRecDepth 100000 in
def LQ (Ah Aw : Option Addr) (ch cw : Nat) (h : List Rg) (rg : Rg) (ws : List Int) (m3 : Int) (w V : World) (e : Exit) (a' : Act) (W' : World) : Prop :=
  e = .normal ∧ ∃ X Ax cx, Hid (X = h ++ [rg]) ∧ Below V.heap.size V W' ∧ SlAt W' W'.heap.size 2 Ax X.length (fR X) ∧ ∃ u : Nat → Value, a' = ⟨List.toArray (u 0 :: .slice Ah h.length ch :: .slice Aw ws.length cw :: .int .u8 m3 :: u 4 :: .pointer (some ⟨w.heap.size, 0, none⟩) :: u 6 :: u 7 :: u 8 :: u 9 :: u 10 :: .slice Ax X.length cx :: u 12 :: u 13 :: u 14 :: u 15 :: u 16 :: u 17 :: u 18 :: u 19 :: u 20 :: u 21 :: u 22 :: u 23 :: u 24 :: u 25 :: u 26 :: u 27 :: u 28 :: u 29 :: u 30 :: u 31 :: u 32 :: u 33 :: u 34 :: u 35 :: u 36 :: u 37 :: u 38 :: u 39 :: u 40 :: u 41 :: u 42 :: u 43 :: u 44 :: u 45 :: u 46 :: u 47 :: u 48 :: u 49 :: u 50 :: u 51 :: u 52 :: u 53 :: u 54 :: u 55 :: u 56 :: u 57 :: u 58 :: u 59 :: u 60 :: u 61 :: u 62 :: u 63 :: u 64 :: u 65 :: u 66 :: u 67 :: u 68 :: u 69 :: u 70 :: u 71 :: u 72 :: u 73 :: u 74 :: u 75 :: u 76 :: u 77 :: u 78 :: u 79 :: u 80 :: u 81 :: u 82 :: u 83 :: u 84 :: u 85 :: u 86 :: u 87 :: u 88 :: u 89 :: u 90 :: u 91 :: u 92 :: u 93 :: u 94 :: u 95 :: u 96 :: u 97 :: u 98 :: u 99 :: u 100 :: u 101 :: u 102 :: u 103 :: []), []⟩

set_option maxRecDepth 100000 in
set_option maxHeartbeats 6400000 in
theorem LongerLaw_any (g : Gl) (Ab Ad Ah Aw : Option Addr) (cb cd ch cw : Nat) (h : List Rg) (ws : List Int) (w : World) (hg : GlIn w w.heap.size g Ab Ad) (hh : SlAt w w.heap.size 2 Ah h.length (fR h)) (hw : SlAt w w.heap.size 1 Aw ws.length (fU ws))
    (hwb : ∀ k, k < ws.length → 0 ≤ gI ws k ∧ gI ws k ≤ 65535) (hwl : ws.length ≤ maxLen) (m3 : Int) (rg : Rg) (hm3 : 0 ≤ m3 ∧ m3 ≤ 255) (hsz : (h.length + 1) * 16 ≤ 140737488355328) (hsz1 : h.length + 1 ≤ maxLen) :
    Calls Try.prog 7 #[.agg #[.int .i64 g.base, .slice Ab g.bands.length cb, .slice Ad g.depths.length cd, .int .i64 g.blo, .int .i64 g.bhi], .slice Ah h.length ch, .slice Aw ws.length cw, .int .u8 m3, .agg #[.int .i64 rg.lo, .int .i64 rg.hi]] w fun e w' => e = .returned (.bool true) ∧ Below w.heap.size w w' := by
  obtain ⟨i0, hi0, hz0', hz1', hz2'⟩ := info_parts rgR_info
  have HI := Lib.hid hi0
  clear hi0
  have hbV := ex_alloc (ex_alloc (Below.refl w.heap.size w) (.cells #[.int .i64 g.base, .slice Ab g.bands.length cb, .slice Ad g.depths.length cd, .int .i64 g.blo, .int .i64 g.bhi] 27)) (.cells #[.int .i64 rg.lo, .int .i64 rg.hi] 25)
  have q1 : Blk ((w.alloc (.cells #[.int .i64 g.base, .slice Ab g.bands.length cb, .slice Ad g.depths.length cd, .int .i64 g.blo, .int .i64 g.bhi] 27)).alloc (.cells #[.int .i64 rg.lo, .int .i64 rg.hi] 25)) w.heap.size 27 #[.int .i64 g.base, .slice Ab g.bands.length cb, .slice Ad g.depths.length cd, .int .i64 g.blo, .int .i64 g.bhi] := (Blk.new _ _ _).alloc _
  have qr : Blk ((w.alloc (.cells #[.int .i64 g.base, .slice Ab g.bands.length cb, .slice Ad g.depths.length cd, .int .i64 g.blo, .int .i64 g.bhi] 27)).alloc (.cells #[.int .i64 rg.lo, .int .i64 rg.hi] 25)) (w.heap.size + 1) 25 #[.int .i64 rg.lo, .int .i64 rg.hi] := Blk.new' _ _ _ (by simp)
  go_enter Try.func7, Try.ntmps7
  go_wp2_with fail
  generalize (w.alloc (.cells #[.int .i64 g.base, .slice Ab g.bands.length cb, .slice Ad g.depths.length cd, .int .i64 g.blo, .int .i64 g.bhi] 27)).alloc (.cells #[.int .i64 rg.lo, .int .i64 rg.hi] 25) = V at *
  have r0 : V.cell? ⟨w.heap.size + 1, 0, none⟩ = some (.int .i64 rg.lo) := qr.cell 0
  have r1 : V.cell? ⟨w.heap.size + 1, 1, none⟩ = some (.int .i64 rg.hi) := qr.cell 1
  have lr := qr.lt
  refine Code.wp_mono (Q := LQ Ah Aw ch cw h rg ws m3 w V) ?_ ?_
  rotate_left
  · refine wp_region_ext_tree 5 (.quiet 1 (.quiet 3 (.fork 0 (.fork 2 (.loud 4 .done) 4 (.loud 2 .done)) 4 (.loud 0 (.loud 2 .done))))) (by kernel_rfl) (by kernel_rfl) (by rintro d v c a w ⟨h, _⟩; cases h) ?_
    repeat (refine tree_quiet rfl ?_; go_big_quiet_step (fail); refine wpQuiet_nil ?_)
    refine tree_fork rfl rfl ?_ ?_
    · have hE : Below V.heap.size V (V.alloc (.cells #[] 25)).drew := (ex_alloc (Below.refl _ _) _).drew
      have qe : Blk (V.alloc (.cells #[] 25)).drew V.heap.size 25 #[] := Blk.new _ _ _
      go_wp2_with fail
      refine ⟨inEx hE, ?_⟩
      refine tree_fork rfl rfl ?_ ?_
      · go_wp2_with (at_builtin; refine wpList_append_list (f := cR) (F := fR) (sz := 2) cR_len cR_at cR_one rfl _ _ _ rfl V.heap.size 25 i0 _ 16 Try.underlying28 HI.out hz0' hz1' hz2' rfl (by omega) (some ⟨V.heap.size, 0, none⟩) 0 [] rfl (own_empty qe (Nat.le_refl _)) Ah ch h rfl ((hh.below (ex_trans hbV hE)).up (ex_trans hbV hE).size) (by simp; omega) (by simp; omega) hE.size (V.heap.size + 1) (by simp) ?_; intro L1 B1 k1 v1 HL1 o1 g1 n1)
        obtain rfl : h = L1 := HL1.out.symm
        have hE2 : Below V.heap.size V v1 := hE.grown g1 hE.size (fun j hj => Nat.le_of_eq (by simpa [Value.ownBlock] using hj))
        refine ⟨inEx hE2, ?_⟩
        refine tree_loud rfl ?_
        have hE3 := ex_alloc hE2 (.cells #[.int .i64 rg.lo, .int .i64 rg.hi] 25)
        go_wp2_with fail
        refine ⟨inEx hE3, ?_⟩
        refine tree_done (r := [_, _]) rfl ?_
        go_wp2_with (at_builtin; refine wpList_append_list (f := cR) (F := fR) (sz := 2) cR_len cR_at cR_one rfl _ _ _ rfl V.heap.size 25 i0 _ 16 Try.underlying28 HI.out hz0' hz1' hz2' rfl (by omega) B1 k1 h rfl (own_below o1 ((Below.refl _ _).alloc (Nat.le_refl _) _)) (some ⟨v1.heap.size, 0, none⟩) 1 [rg] rfl (one_at (Blk.new _ _ _) (rg_row rg.lo rg.hi)) (by simp; omega) (by simp; omega) hE3.size (v1.heap.size + 1) (by simp) ?_; intro L2 B2 k2 v2 HL2 o2 g2 n2)
        have hE4 : Below V.heap.size V v2 := hE3.grown g2 hE3.size (fun j hj => own_ge o1 hj)
        obtain ⟨Ax, cx, hv, _, _, hs⟩ := own_R o2
        injection hv with hva hvb hvc
        subst hva
        exact ⟨rfl, L2, _, k2, HL2, hE4, hs, exFrame' (by kernel_rfl)⟩
      · have hP := ex_alloc hE (.cells #[.int .i64 rg.lo, .int .i64 rg.hi] 25)
        have qp : Blk ((V.alloc (.cells #[] 25)).drew.alloc (.cells #[.int .i64 rg.lo, .int .i64 rg.hi] 25)) (V.heap.size + 1) 25 #[.int .i64 rg.lo, .int .i64 rg.hi] := Blk.new' _ _ _ (by simp)
        have qe2 := qe.alloc (.cells #[.int .i64 rg.lo, .int .i64 rg.hi] 25)
        go_wp2_with fail
        refine ⟨inEx hP, ?_⟩
        refine tree_loud rfl ?_
        go_wp2_with (at_builtin; refine wpList_append_list (f := cR) (F := fR) (sz := 2) cR_len cR_at cR_one rfl _ _ _ rfl V.heap.size 25 i0 _ 16 Try.underlying28 HI.out hz0' hz1' hz2' rfl (by omega) (some ⟨V.heap.size, 0, none⟩) 0 [] rfl (own_empty qe2 (Nat.le_refl _)) Ah ch h rfl ((hh.below (ex_trans hbV hP)).up (ex_trans hbV hP).size) (by simp; omega) (by simp; omega) hP.size (V.heap.size + 1 + 1) (by simp) ?_; intro L1 B1 k1 v1 HL1 o1 g1 n1)
        obtain rfl : h = L1 := HL1.out.symm
        have hE2 : Below V.heap.size V v1 := hP.grown g1 hP.size (fun j hj => Nat.le_of_eq (by simpa [Value.ownBlock] using hj))
        have q3 := qp.grown g1 (by simp [Value.ownBlock])
        refine ⟨inEx hE2, ?_⟩
        refine tree_done (r := [_, _]) rfl ?_
        go_wp2_with (at_builtin; refine wpList_append_list (f := cR) (F := fR) (sz := 2) cR_len cR_at cR_one rfl _ _ _ rfl V.heap.size 25 i0 _ 16 Try.underlying28 HI.out hz0' hz1' hz2' rfl (by omega) B1 k1 h rfl o1 (some ⟨V.heap.size + 1, 0, none⟩) 1 [rg] rfl (one_at q3 (rg_row rg.lo rg.hi)) (by simp; omega) (by simp; omega) hE2.size (v1.heap.size) (by simp) ?_; intro L2 B2 k2 v2 HL2 o2 g2 n2)
        have hE4 : Below V.heap.size V v2 := hE2.grown g2 hE2.size (fun j hj => own_ge o1 hj)
        obtain ⟨Ax, cx, hv, _, _, hs⟩ := own_R o2
        injection hv with hva hvb hvc
        subst hva
        exact ⟨rfl, L2, _, k2, HL2, hE4, hs, exFrame' (by kernel_rfl)⟩
    · have hP : Below V.heap.size V (V.alloc (.cells #[.int .i64 rg.lo, .int .i64 rg.hi] 25)).drew := (ex_alloc (Below.refl _ _) _).drew
      have qp : Blk (V.alloc (.cells #[.int .i64 rg.lo, .int .i64 rg.hi] 25)).drew V.heap.size 25 #[.int .i64 rg.lo, .int .i64 rg.hi] := Blk.new _ _ _
      go_wp2_with fail
      refine ⟨inEx hP, ?_⟩
      refine tree_loud rfl ?_
      have hE := ex_alloc hP (.cells #[] 25)
      have qe : Blk ((V.alloc (.cells #[.int .i64 rg.lo, .int .i64 rg.hi] 25)).drew.alloc (.cells #[] 25)) (V.heap.size + 1) 25 #[] := Blk.new' _ _ _ (by simp)
      have qp2 := qp.alloc (.cells #[] 25)
      go_wp2_with fail
      refine ⟨inEx hE, ?_⟩
      refine tree_loud rfl ?_
      go_wp2_with (at_builtin; refine wpList_append_list (f := cR) (F := fR) (sz := 2) cR_len cR_at cR_one rfl _ _ _ rfl V.heap.size 25 i0 _ 16 Try.underlying28 HI.out hz0' hz1' hz2' rfl (by omega) (some ⟨V.heap.size + 1, 0, none⟩) 0 [] rfl (own_empty qe (by omega)) Ah ch h rfl ((hh.below (ex_trans hbV hE)).up (ex_trans hbV hE).size) (by simp; omega) (by simp; omega) hE.size (V.heap.size + 1 + 1) (by simp) ?_; intro L1 B1 k1 v1 HL1 o1 g1 n1)
      obtain rfl : h = L1 := HL1.out.symm
      have hE2 : Below V.heap.size V v1 := hE.grown g1 hE.size (fun j hj => by have : V.heap.size + 1 = j := by simpa [Value.ownBlock] using hj
                                                                               omega)
      have q3 := qp2.grown g1 (by simp [Value.ownBlock])
      refine ⟨inEx hE2, ?_⟩
      refine tree_done (r := [_, _]) rfl ?_
      go_wp2_with (at_builtin; refine wpList_append_list (f := cR) (F := fR) (sz := 2) cR_len cR_at cR_one rfl _ _ _ rfl V.heap.size 25 i0 _ 16 Try.underlying28 HI.out hz0' hz1' hz2' rfl (by omega) B1 k1 h rfl o1 (some ⟨V.heap.size, 0, none⟩) 1 [rg] rfl (one_at q3 (rg_row rg.lo rg.hi)) (by simp; omega) (by simp; omega) hE2.size (v1.heap.size) (by simp) ?_; intro L2 B2 k2 v2 HL2 o2 g2 n2)
      have hE4 : Below V.heap.size V v2 := hE2.grown g2 hE2.size (fun j hj => own_ge o1 hj)
      obtain ⟨Ax, cx, hv, _, _, hs⟩ := own_R o2
      injection hv with hva hvb hvc
      subst hva
      exact ⟨rfl, L2, _, k2, HL2, hE4, hs, exFrame' (by kernel_rfl)⟩
  rintro e a' W1 ⟨rfl, X, Ax, cx, HX, hbX, hX, u, rfl⟩
  clear r0 r1 lr qr
  have p1 := q1.below hbX q1.lt
  clear q1
  have hB1 := ex_trans hbV hbX
  have HXL : Hid (X.length = h.length + 1) := Lib.hid (by rw [HX.out]; simp)
  have a0 : W1.cell? ⟨w.heap.size, 0, none⟩ = some (.int .i64 g.base) := p1.cell 0
  have a1 : W1.cell? ⟨w.heap.size, 1, none⟩ = some (.slice Ab g.bands.length cb) := p1.cell 1
  have a2 : W1.cell? ⟨w.heap.size, 2, none⟩ = some (.slice Ad g.depths.length cd) := p1.cell 2
  have a3 : W1.cell? ⟨w.heap.size, 3, none⟩ = some (.int .i64 g.blo) := p1.cell 3
  have a4 : W1.cell? ⟨w.heap.size, 4, none⟩ = some (.int .i64 g.bhi) := p1.cell 4
  have l1 := p1.lt
  go_wp2_with fail
  refine (ready_any g _ _ _ _ _ _ h _ ((hg.below hB1).up hB1.size) ((hh.below hB1).up hB1.size)).mono ?_
  rintro e wr1 ⟨rfl, hr1⟩
  have hBr := ex_trans hB1 hr1
  replace p1 := p1.below hr1 l1
  clear a0 a1 a2 a3 a4 l1
  cases hr : readyB g h
  · clear hr
    go_wp2_with fail
    refine (awake_any _).mono ?_
    rintro e w3 ⟨rfl, hb3⟩
    go_wp2
    go_ret
    exact ⟨rfl, ex_trans hBr hb3⟩
  unfold readyB at hr
  simp only [Bool.and_eq_true, decide_eq_true_eq] at hr
  obtain ⟨hth, hlv⟩ := hr
  obtain ⟨hnb, hnd, hnh, _⟩ := thinB_iff.1 hth
  have hok := ok_of_lived hlv
  have hpos := hok.nh.1
  have HK := Lib.hid hok
  have HLV := Lib.hid hlv
  clear hth hlv hok
  have a0 : wr1.cell? ⟨w.heap.size, 0, none⟩ = some (.int .i64 g.base) := p1.cell 0
  have a1 : wr1.cell? ⟨w.heap.size, 1, none⟩ = some (.slice Ab g.bands.length cb) := p1.cell 1
  have a2 : wr1.cell? ⟨w.heap.size, 2, none⟩ = some (.slice Ad g.depths.length cd) := p1.cell 2
  have a3 : wr1.cell? ⟨w.heap.size, 3, none⟩ = some (.int .i64 g.blo) := p1.cell 3
  have a4 : wr1.cell? ⟨w.heap.size, 4, none⟩ = some (.int .i64 g.bhi) := p1.cell 4
  have l1 := p1.lt
  go_wp2_with fail
  refine (ready_any g _ _ _ _ _ _ X _ ((hg.below hBr).up hBr.size) ((hX.below hr1).up hr1.size)).mono ?_
  rintro e w2 ⟨rfl, hr2⟩
  have hB2 := ex_trans hBr hr2
  replace p1 := p1.below hr2 l1
  clear a0 a1 a2 a3 a4 l1
  cases hr : readyB g X
  · clear hr
    go_wp2_with fail
    refine (awake_any _).mono ?_
    rintro e w3 ⟨rfl, hb3⟩
    go_wp2
    go_ret
    exact ⟨rfl, ex_trans hB2 hb3⟩
  unfold readyB at hr
  simp only [Bool.and_eq_true, decide_eq_true_eq] at hr
  obtain ⟨hth, hlv⟩ := hr
  obtain ⟨_, _, hnX, _⟩ := thinB_iff.1 hth
  have HKX := Lib.hid (ok_of_lived hlv)
  have HLX := Lib.hid hlv
  clear hth hlv
  have a0 : w2.cell? ⟨w.heap.size, 0, none⟩ = some (.int .i64 g.base) := p1.cell 0
  have a1 : w2.cell? ⟨w.heap.size, 1, none⟩ = some (.slice Ab g.bands.length cb) := p1.cell 1
  have a2 : w2.cell? ⟨w.heap.size, 2, none⟩ = some (.slice Ad g.depths.length cd) := p1.cell 2
  have a3 : w2.cell? ⟨w.heap.size, 3, none⟩ = some (.int .i64 g.blo) := p1.cell 3
  have a4 : w2.cell? ⟨w.heap.size, 4, none⟩ = some (.int .i64 g.bhi) := p1.cell 4
  have l1 := p1.lt
  go_wp2_with fail
  refine wp_region_ext_mix 8 [(false, 0), (false, 1), (false, 2), (false, 3), (false, 5), (false, 6), (true, 4), (true, 7)] (by kernel_rfl) (by kernel_rfl) (by intro d _ _ _ _ h; cases d <;> exact h) ?_
  have hW0 := (Below.refl w2.heap.size w2).drew
  repeat (refine mix_quiet rfl ?_; go_big_quiet_step (fail); refine wpQuiet_nil ?_)
  refine mix_loud rfl ?_
  go_wp2_with fail
  refine (Picked_any g _ _ _ _ _ _ _ _ h ws w2.drew ((hg.below (ex_trans hB2 hW0)).up (ex_trans hB2 hW0).size) ((hh.below (ex_trans hB2 hW0)).up (ex_trans hB2 hW0).size) ((hw.below (ex_trans hB2 hW0)).up (ex_trans hB2 hW0).size) hwb hwl HK.out).mono ?_
  rintro e w3 ⟨⟨A1, A2, A3, c1, c2, c3, t1, t2, t3, rfl, ht, k1, k2, k3⟩, hb3⟩
  have hW3 := ex_trans hW0 hb3
  have hB3 := ex_trans hB2 hW3
  have HT := Lib.hid ht
  clear ht
  go_wp2_with fail
  refine ⟨inEx hW3, ?_⟩
  refine mix_loud rfl ?_
  go_wp2_with fail
  refine (Read_any g _ _ _ _ _ _ h ws m3 0 w3 ((hg.below hB3).up hB3.size) _ _ _ _ _ _ t1 t2 t3 k1 k2 k3 ((hw.below hB3).up hB3.size) hwb hwl HK.out HT.out hm3.1 hm3.2 (by omega) (by omega)).mono ?_
  rintro e w5 ⟨⟨Ai, ci, l, rfl, hl4, hci1, hci2, hR, hi⟩, hb5⟩
  have hW5 := ex_trans hW3 hb5
  have hB5 := ex_trans hB2 hW5
  go_wp2_with fail
  refine ⟨inEx hW5, ?_⟩
  refine mix_nil rfl ?_
  replace p1 := p1.below hW5 l1
  clear a0 a1 a2 a3 a4 l1 k1 k2 k3
  go_wp2_with fail
  refine (IcesFault_any _ _ _ _ h.length l _ (by omega) hi).mono ?_
  rintro e w6 ⟨rfl, hb6⟩
  have hB6 := ex_trans hB5 hb6
  by_cases hic : icsF h.length l ≠ 0
  · have e1 : (icsF h.length l != 0) = true := by simp [hic]
    clear hic
    go_wp2_with fail
    refine (awake_any _).mono ?_
    rintro e w7 ⟨rfl, hb7⟩
    go_wp2
    go_ret
    exact ⟨rfl, ex_trans hB6 hb7⟩
  have e0 : icsF h.length l = 0 := by simpa using hic
  have HIC := Lib.hid (iced_of HLV.out e0)
  have HIX := Lib.hid (iced_of (l := l) HLX.out (ics_more e0 (by have := HXL.out; omega)))
  rw [e0]
  clear hic e0
  have HAG := Lib.hid (hR.all.agree HK.out HT.out off0)
  have HDY : Hid (∀ i, i < l.length → (gC l i).day < h.length) := Lib.hid (by have := hR.days; rwa [playTo_len] at this)
  clear hR
  replace p1 := p1.below hb6 p1.lt
  have X6 := ex_trans (ex_trans (ex_trans hr1 hr2) hW5) hb6
  have a0 : w6.cell? ⟨w.heap.size, 0, none⟩ = some (.int .i64 g.base) := p1.cell 0
  have a1 : w6.cell? ⟨w.heap.size, 1, none⟩ = some (.slice Ab g.bands.length cb) := p1.cell 1
  have a2 : w6.cell? ⟨w.heap.size, 2, none⟩ = some (.slice Ad g.depths.length cd) := p1.cell 2
  have a3 : w6.cell? ⟨w.heap.size, 3, none⟩ = some (.int .i64 g.blo) := p1.cell 3
  have a4 : w6.cell? ⟨w.heap.size, 4, none⟩ = some (.int .i64 g.bhi) := p1.cell 4
  have l1 := p1.lt
  go_wp2_with fail
  refine (Glass_any g _ _ _ _ w6 ((hg.below hB6).up hB6.size) (by omega) (by omega)).mono ?_
  rintro e ya1 ⟨⟨Ab_ya1, Ad_ya1, cb_ya1, cd_ya1, rfl, hg_ya1⟩, hya1⟩
  have B_ya1 := ex_trans hB6 hya1
  go_wp2_with fail
  refine (History_any _ _ h ya1 (by omega) ((hh.below B_ya1).up B_ya1.size)).mono ?_
  rintro e ya2 ⟨⟨Ah_ya2, ch_ya2, rfl, _, _, hh_ya2⟩, hya2⟩
  have B_ya2 := ex_trans B_ya1 hya2
  have I_ya2 := ex_trans hb6 (ex_trans hya1 hya2)
  go_wp2_with fail
  refine (Ices_any _ _ l ya2 (by omega) ((hi.below I_ya2).up I_ya2.size)).mono ?_
  rintro e ya3 ⟨⟨Ai_ya3, ci_ya3, rfl, hc1_ya3, hc2_ya3, hi_ya3⟩, hya3⟩
  have B_ya3 := ex_trans B_ya2 hya3
  have I_ya3 := ex_trans I_ya2 hya3
  go_wp2_with fail
  refine (Zeros_v g _ _ _ _ _ _ _ _ h l _ ((hg_ya1.below (ex_trans hya2 hya3)).up (ex_trans hya2 hya3).size) ((hh_ya2.below hya3).up hya3.size) hi_ya3 HIC.out).mono ?_
  rintro e ya4 ⟨⟨Az1, n1, ev1, zs1, rfl, HZ1, sz1⟩, hya4⟩
  have B_ya := ex_trans B_ya3 hya4
  have I_ya := ex_trans I_ya3 hya4
  have X_ya := ex_trans (ex_trans (ex_trans hya1 hya2) hya3) hya4
  clear hg_ya1 hh_ya2 hi_ya3
  replace p1 := p1.below X_ya l1
  clear a0 a1 a2 a3 a4 l1
  have Kya_X := ex_trans X6 X_ya
  have a0 : ya4.cell? ⟨w.heap.size, 0, none⟩ = some (.int .i64 g.base) := p1.cell 0
  have a1 : ya4.cell? ⟨w.heap.size, 1, none⟩ = some (.slice Ab g.bands.length cb) := p1.cell 1
  have a2 : ya4.cell? ⟨w.heap.size, 2, none⟩ = some (.slice Ad g.depths.length cd) := p1.cell 2
  have a3 : ya4.cell? ⟨w.heap.size, 3, none⟩ = some (.int .i64 g.blo) := p1.cell 3
  have a4 : ya4.cell? ⟨w.heap.size, 4, none⟩ = some (.int .i64 g.bhi) := p1.cell 4
  have l1 := p1.lt
  go_wp2_with fail
  refine (Glass_any g _ _ _ _ ya4 ((hg.below B_ya).up B_ya.size) (by omega) (by omega)).mono ?_
  rintro e yb1 ⟨⟨Ab_yb1, Ad_yb1, cb_yb1, cd_yb1, rfl, hg_yb1⟩, hyb1⟩
  have B_yb1 := ex_trans B_ya hyb1
  go_wp2_with fail
  refine (History_any _ _ X yb1 (by omega) ((hX.below (ex_trans Kya_X hyb1)).up (ex_trans Kya_X hyb1).size)).mono ?_
  rintro e yb2 ⟨⟨Ah_yb2, ch_yb2, rfl, _, _, hh_yb2⟩, hyb2⟩
  have B_yb2 := ex_trans B_yb1 hyb2
  have I_yb2 := ex_trans I_ya (ex_trans hyb1 hyb2)
  go_wp2_with fail
  refine (Ices_any _ _ l yb2 (by omega) ((hi.below I_yb2).up I_yb2.size)).mono ?_
  rintro e yb3 ⟨⟨Ai_yb3, ci_yb3, rfl, hc1_yb3, hc2_yb3, hi_yb3⟩, hyb3⟩
  have B_yb3 := ex_trans B_yb2 hyb3
  have I_yb3 := ex_trans I_yb2 hyb3
  go_wp2_with fail
  refine (Zeros_v g _ _ _ _ _ _ _ _ X l _ ((hg_yb1.below (ex_trans hyb2 hyb3)).up (ex_trans hyb2 hyb3).size) ((hh_yb2.below hyb3).up hyb3.size) hi_yb3 HIX.out).mono ?_
  rintro e yb4 ⟨⟨Az2, n2, ev2, zs2, rfl, HZ2, sz2⟩, hyb4⟩
  have B_yb := ex_trans B_yb3 hyb4
  have I_yb := ex_trans I_yb3 hyb4
  have X_yb := ex_trans (ex_trans (ex_trans hyb1 hyb2) hyb3) hyb4
  clear hg_yb1 hh_yb2 hi_yb3
  replace p1 := p1.below X_yb l1
  clear a0 a1 a2 a3 a4 l1
  have Kyb_X := ex_trans Kya_X X_yb
  obtain ⟨rfl, rfl, rfl, hn2, hall⟩ := longer_all HK.out (by rw [← HX.out]; exact HKX.out) HDY.out HAG.out HZ1.out (by rw [← HX.out]; exact HZ2.out)
  rw [← HX.out] at hn2
  subst hn2
  have HALL := Lib.hid hall
  have S1 : SlAt yb4 yb4.heap.size 2 Az1 h.length (fR zs1) := (sz1.below X_yb).up X_yb.size
  have S2 : SlAt yb4 yb4.heap.size 2 Az2 X.length (fR zs2) := sz2
  have hXL := HXL.out
  have HHX := Lib.hid (show h.length ≤ X.length by omega)
  clear HZ1 HZ2 hall sz1 sz2 hXL
  go_wp2_with fail
  refine wp_loop (fun a W => ∃ d : Nat, d ≤ h.length ∧ Below yb4.heap.size yb4 W ∧ ∃ u : Nat → Value, a = ⟨List.toArray (u 0 :: u 1 :: u 2 :: u 3 :: u 4 :: u 5 :: u 6 :: u 7 :: u 8 :: u 9 :: u 10 :: u 11 :: u 12 :: .slice Az1 h.length h.length :: u 14 :: .slice Az2 X.length X.length :: u 16 :: .int .i64 (d : Int) :: u 18 :: u 19 :: u 20 :: u 21 :: u 22 :: u 23 :: u 24 :: u 25 :: u 26 :: u 27 :: u 28 :: u 29 :: u 30 :: u 31 :: u 32 :: u 33 :: u 34 :: u 35 :: u 36 :: u 37 :: u 38 :: u 39 :: u 40 :: u 41 :: u 42 :: u 43 :: u 44 :: u 45 :: u 46 :: u 47 :: u 48 :: u 49 :: u 50 :: u 51 :: u 52 :: u 53 :: u 54 :: u 55 :: u 56 :: u 57 :: u 58 :: u 59 :: u 60 :: u 61 :: u 62 :: u 63 :: u 64 :: u 65 :: u 66 :: u 67 :: u 68 :: u 69 :: u 70 :: u 71 :: u 72 :: u 73 :: u 74 :: u 75 :: u 76 :: u 77 :: u 78 :: u 79 :: u 80 :: u 81 :: u 82 :: u 83 :: u 84 :: u 85 :: u 86 :: u 87 :: u 88 :: u 89 :: u 90 :: u 91 :: u 92 :: u 93 :: u 94 :: u 95 :: u 96 :: u 97 :: u 98 :: u 99 :: u 100 :: u 101 :: u 102 :: u 103 :: []), []⟩)
    (fun a _ => h.length - (intOf (a.tmps.getD 17 undef)).toNat) ⟨0, by omega, Below.refl _ _, exFrame (by kernel_rfl)⟩ ?_
  rintro a wz ⟨d, hd, hbl, u, rfl⟩
  by_cases hlt : d < h.length
  · have hltX : d < X.length := by have := HHX.out; omega
    obtain ⟨b1, o1, rfl, hb1, g0, g1⟩ := IsRgs.at_ (S1.below hbl) hlt
    obtain ⟨b2, o2, rfl, hb2, g2, g3⟩ := IsRgs.at_ (S2.below hbl) hltX
    have hws := hbl.size
    have hb1' : b1 < wz.heap.size := by omega
    have hb2' : b2 < wz.heap.size := by omega
    rw [← HALL.out d hlt] at g2 g3
    generalize (gR zs1 d).lo = z1 at *
    generalize (gR zs1 d).hi = z2 at *
    go_wp2_with fail
    refine wp_region_ext (by kernel_rfl) (by kernel_rfl) ?_
    repeat (any_goals (go_big_quiet_step (fail)))
    refine wpQuiet_nil ?_; intro _ hw'; obtain ⟨X', rfl⟩ := hw'
    go_wp2_with fail
    refine ⟨⟨d + 1, by omega, ex_trans hbl X'.h, exFrame (by kernel_rfl)⟩, ?_⟩
    show h.length - (intOf (.int .i64 ((d : Int) + 1))).toNat < h.length - (intOf (.int .i64 (d : Int))).toNat
    simp [intOf]
    omega
  go_wp2_with fail
  refine (awake_any _).mono ?_
  rintro e we ⟨rfl, hbe⟩
  go_wp2
  go_ret
  exact ⟨rfl, ex_trans (ex_trans B_yb hbl) hbe⟩
end Go.Proofs.Ytlgmeofpkfliaaa
end

section
namespace Go.Proofs.Ytlgmeofpkfliaaa.glassLonger
open Go.ChangeShapes Go.WideShapes Go.ChangeAt Go.RowKit
set_option linter.unusedVariables false

theorem rgs_sized {H : Type} {enc : TypeId × Value → H} {w : World} {base : Nat} {spare : Nat → Bool} {held : Bool} {ts : List TypeId} {ds : List (DataW H)} {j : Nat} (hsz : (DataW.weightsEach Try.prog ts ds).all (· ≤ reachBytes) = true) (ht : ts[j]? = some 28) {d : DataW H} (hd : ds[j]? = some d) {A : Option Addr} {n c : Nat} {p : List MemPlace} (h : DataW.Trod enc Try.prog w base spare held 28 (.slice A n c) d p) : n * 16 ≤ reachBytes := by
  obtain ⟨fuel, hf⟩ := h
  have hb : Try.prog.bytesOf 25 = 16 := by kernel_rfl
  rcases Go.Deep.open_slice Try.underlying28 hf with ⟨h1, _⟩ | ⟨a, len, cap, m, k, D, Pl, h1, _, hl, hm, hmm, h2, _⟩
  · injection h1 with h1 _
    injection h1 with h1 h3 h4
    omega
  · injection h1 with h1 _
    injection h1 with h1 h3 h4
    have hx := (Prod.mk.inj h2).1
    subst hx
    have := sized_slice hsz ht hd Try.underlying28
    rw [hb] at this
    simp only [List.length_map, List.length_range] at this
    have h5 : len * 16 ≤ (len + (m - len)) * 16 := Nat.mul_le_mul_right _ (by omega)
    omega

set_option maxRecDepth 100000 in
theorem lifted (os : Os) (started : os.Started) (H : Type) (enc : TypeId × Value → H) :
    ReturnsInHanded {} Try.checked os 7 .any (Rows.glassLongerSpec.pre6 enc Try.prog Try.f7 Rows.glassLongerRow.domain false) (Rows.glassLongerSpec.post enc Try.prog Try.f7 false true false false) := by
  refine returnsInHanded_of_change_sized (C := Try.checked) own started (by kernel_rfl) Try.func7
    (ChangeSpec.witness6 (enc := enc) (C := Try.checked) false ⟨#[], #[.agg #[.int .i64 0, .slice none 0 0, .slice none 0 0, .int .i64 0, .int .i64 0], .slice none 0 0, .slice none 0 0, .int .u8 0, .agg #[.int .i64 0, .int .i64 0]], []⟩ 8 (by kernel_rfl) (by kernel_rfl) (by kernel_rfl) (by kernel_rfl)) ?_
  intro W base args ds gs before hval0 hW hcnd hsz0 _
  have hval : ∀ (j : Nat) t v, Try.f7.params[j]? = some t → args[j]? = some v → Value.okWide Try.prog W .any base t v := hval0
  have hW0 := hW
  obtain ⟨p, q, hA0, hV, rfl, hfz, hnd⟩ := hW
  have hA : DataW.TrodAll enc Try.prog W 0 (fun _ => true) true Try.f7.params.toList args.toList ds p := hA0
  rw [Try.params7] at hA hval
  obtain ⟨v0, vs0, d0, ds0, p0, q0, ea0, ed0, ep0, h0, hA0⟩ := trodAll_cons hA
  obtain ⟨v1, vs1, d1, ds1, p1, q1, ea1, ed1, ep1, h1, hA1⟩ := trodAll_cons hA0
  obtain ⟨v2, vs2, d2, ds2, p2, q2, ea2, ed2, ep2, h2, hA2⟩ := trodAll_cons hA1
  obtain ⟨v3, vs3, d3, ds3, p3, q3, ea3, ed3, ep3, h3, hA3⟩ := trodAll_cons hA2
  obtain ⟨v4, vs4, d4, ds4, p4, q4, ea4, ed4, ep4, h4, hA4⟩ := trodAll_cons hA3
  obtain ⟨ea, ed, ep⟩ := trodAll_nil hA4
  have eargs : args = #[v0, v1, v2, v3, v4] := by rw [← Array.toArray_toList (xs := args), ea0, ea1, ea2, ea3, ea4, ea]
  have eds : ds = [d0, d1, d2, d3, d4] := by rw [ed0, ed1, ed2, ed3, ed4, ed]
  subst eargs eds
  rw [Try.params7] at hsz0
  obtain ⟨rfl, rfl⟩ := trodVars_none hV
  obtain ⟨g, Ab, Ad, cb, cd, rfl, _, hg⟩ := open_glass (hval 0 _ _ rfl rfl) h0
  obtain ⟨Ah, h, ch, rfl, _, _, hh⟩ := open_rgs (hval 1 _ _ rfl rfl) h1
  obtain ⟨Aw, ws, cw, rfl, hwl, hw, hwb⟩ := open_words (hval 2 _ _ rfl rfl) h2
  obtain ⟨m3, rfl, hm3⟩ := open_int Try.underlying5 (hval 3 _ _ rfl rfl) h3
  obtain ⟨rg, rfl⟩ := open_rg (hval 4 _ _ rfl rfl) h4
  have hs1 := rgs_sized (j := 1) hsz0 rfl rfl h1
  have hl1 : (h.length + 1) * 16 ≤ 140737488355328 := by
    have : reachBytes = 140737488351232 := rfl
    omega
  have hl2 : h.length + 1 ≤ maxLen := by unfold maxLen; omega
  refine (LongerLaw_any g Ab Ad Ah Aw cb cd ch cw h ws W hg hh hw hwb hwl m3 rg (wf_u8 hm3) hl1 hl2).mono fun e W' he => ?_
  obtain ⟨rfl, hb⟩ := he
  exact ⟨_, rfl, post_law rfl hW0 rfl rfl ⟨⟨by kernel_rfl, of_decide_eq_true (by kernel_rfl)⟩, ⟨by kernel_rfl, of_decide_eq_true (by kernel_rfl)⟩, ⟨by kernel_rfl, of_decide_eq_true (by kernel_rfl)⟩, ⟨by kernel_rfl, of_decide_eq_true (by kernel_rfl)⟩, ⟨by kernel_rfl, of_decide_eq_true (by kernel_rfl)⟩, trivial⟩ hb⟩

theorem over : Rows.glassLongerRow.holds Try.pinned (OpenSpec.ofChange Rows.glassLongerSpec) :=
  OpenClaim.holds_of_wide 7 Try.f7 rfl rfl rfl rfl rfl rfl rfl ⟨rfl, rfl, rfl, rfl, rfl⟩ rfl rfl rfl rfl rfl (by kernel_rfl) Try.func7 (by kernel_rfl)
    (of_decide_eq_true (by kernel_rfl)) (by unfold Func.isWrapper; first | (rw [if_pos (by decide +kernel)]; kernel_rfl) | (rw [if_neg (by decide +kernel)]; exact ⟨rfl, rfl⟩))
    (fun os started H enc _ => lifted os started H enc)

/-- the statement. -/
theorem proved : Rows.GlassLongerSaid :=
  over
#print axioms proved
end Go.Proofs.Ytlgmeofpkfliaaa.glassLonger
end
