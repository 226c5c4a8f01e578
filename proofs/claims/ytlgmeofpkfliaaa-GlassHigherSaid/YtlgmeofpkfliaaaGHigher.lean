/- The law GlassHigher (walk). · The row GlassHigher: Base, and all that ice has told, higher by the same number. -/
import Derived.WalkKit
import Derived.ProofKit
import Derived.OpenShut
import Derived.Test.YtlgmeofpkfliaaaGj
import Derived.Test.YtlgmeofpkfliaaaGk
import Derived.Test.YtlgmeofpkfliaaaRows
import Derived.Test.YtlgmeofpkfliaaaGi
set_option linter.unusedVariables false
set_option linter.unusedSimpArgs false
set_option linter.unusedSectionVars false
section
namespace Go.Proofs.Ytlgmeofpkfliaaa
open Go.RowKit
attribute [local go_sem] Ex.cell? Ex.frozen? Gx.cell?

/-- the box of a glass, and a row of ices, made after V. -/
structure HS (V : World) (gc : Array Value) (p : Nat) (v : Value) (L : List Ic) (W : World) : Prop where
  bv : Below V.heap.size V W
  hp : V.heap.size ≤ p
  qp : Blk W p 27 gc
  ow : W.ownsRow V.heap.size 62 3 v L.length (L.flatMap cC)
theorem HS.below {V : World} {gc : Array Value} {p : Nat} {v : Value} {L : List Ic} {W W' : World} (h : HS V gc p v L W) (hb : Below W.heap.size W W') : HS V gc p v L W' :=
  ⟨ex_trans h.bv hb, h.hp, h.qp.below hb h.qp.lt, own_below h.ow hb⟩
theorem HS.zero {V : World} {gc : Array Value} {p : Nat} {v : Value} {L : List Ic} {W : World} (h : HS V gc p v L W) {gg : Nat} (hg : v.ownBlock = some gg) {k : Nat} (hk : k < L.length) (x : Int) : HS V gc p v (L.set k ⟨(gC L k).day, x, (gC L k).err⟩) (W.setCell ⟨gg, k * 3 + 1, none⟩ (.int .i64 x)) := by
  have hf : Fr (fun b => b = gg) W (W.setCell ⟨gg, k * 3 + 1, none⟩ (.int .i64 x)) := (Fr.refl (fun b => b = gg) W).andSet rfl
  exact ⟨hf.toBelow h.bv h.bv.size (fun y hy => by rw [hy]; exact own_ge h.ow hg), h.hp, h.qp.fr hf (fun e => own_blkne h.ow h.qp (by decide) (e ▸ hg)), ics_zero h.ow hg hk x⟩
theorem HS.base {V : World} {b : Int} {v1 v2 v3 v4 : Value} {p : Nat} {v : Value} {L : List Ic} {W : World} (h : HS V #[.int .i64 b, v1, v2, v3, v4] p v L W) (x : Int) : HS V #[.int .i64 x, v1, v2, v3, v4] p v L (W.setCell ⟨p, 0, none⟩ (.int .i64 x)) := by
  have hf : Fr (fun b => b = p) W (W.setCell ⟨p, 0, none⟩ (.int .i64 x)) := (Fr.refl (fun b => b = p) W).andSet rfl
  have hq := h.qp.set_ 0 (.int .i64 x)
  simp only [List.setIfInBounds_toArray, List.set_cons_zero] at hq
  exact ⟨hf.toBelow h.bv h.bv.size (fun y hy => by rw [hy]; exact h.hp), h.hp, hq, own_fr h.ow hf (fun b hb e => own_blkne h.ow h.qp (by decide) (e ▸ hb))⟩
theorem HS.fill {V : World} {c0 c1 c2 c3 c4 u0 u1 u2 u3 u4 : Value} {p : Nat} {v : Value} {L : List Ic} {W : World} (h : HS V #[c0, c1, c2, c3, c4] p v L W) :
    HS V #[u0, u1, u2, u3, u4] p v L (((((W.setCell ⟨p, 0, none⟩ u0).setCell ⟨p, 1, none⟩ u1).setCell ⟨p, 2, none⟩ u2).setCell ⟨p, 3, none⟩ u3).setCell ⟨p, 4, none⟩ u4) := by
  have hf : Fr (fun b => b = p) W (((((W.setCell ⟨p, 0, none⟩ u0).setCell ⟨p, 1, none⟩ u1).setCell ⟨p, 2, none⟩ u2).setCell ⟨p, 3, none⟩ u3).setCell ⟨p, 4, none⟩ u4) := (((((Fr.refl (fun b => b = p) W).andSet rfl).andSet rfl).andSet rfl).andSet rfl).andSet rfl
  have hq := ((((h.qp.set_ 0 u0).set_ 1 u1).set_ 2 u2).set_ 3 u3).set_ 4 u4
  simp only [List.setIfInBounds_toArray, List.set_cons_zero, List.set_cons_succ] at hq
  exact ⟨hf.toBelow h.bv h.bv.size (fun y hy => by rw [hy]; exact h.hp), h.hp, hq, own_fr h.ow hf (fun b hb e => own_blkne h.ow h.qp (by decide) (e ▸ hb))⟩

set_option maxRecDepth 100000 in
def HIQ (g : Gl) (Ab Ad Ah Ai : Option Addr) (cb cd ch ci : Nat) (h : List Rg) (l : List Ic) (m5 : Int) (w V : World) (e : Exit) (a' : Act) (W' : World) : Prop :=
  e = .normal ∧ ∃ p Ay cy, HS V #[.int .i64 g.base, .slice Ab g.bands.length cb, .slice Ad g.depths.length cd, .int .i64 g.blo, .int .i64 g.bhi] p (.slice Ay l.length cy) l W' ∧ ∃ u : Nat → Value, a' = ⟨List.toArray (u 0 :: .slice Ah h.length ch :: u 2 :: u 3 :: u 4 :: .int .i16 m5 :: .pointer (some ⟨w.heap.size, 0, none⟩) :: u 7 :: u 8 :: u 9 :: u 10 :: u 11 :: u 12 :: .slice Ai l.length ci :: .pointer (some ⟨p, 0, none⟩) :: .slice Ay l.length cy :: u 16 :: u 17 :: u 18 :: u 19 :: u 20 :: u 21 :: u 22 :: u 23 :: u 24 :: u 25 :: u 26 :: u 27 :: u 28 :: u 29 :: u 30 :: u 31 :: u 32 :: u 33 :: u 34 :: u 35 :: u 36 :: u 37 :: u 38 :: u 39 :: u 40 :: u 41 :: u 42 :: u 43 :: u 44 :: u 45 :: u 46 :: u 47 :: u 48 :: u 49 :: u 50 :: u 51 :: u 52 :: u 53 :: u 54 :: u 55 :: u 56 :: u 57 :: u 58 :: u 59 :: u 60 :: u 61 :: u 62 :: u 63 :: u 64 :: u 65 :: u 66 :: u 67 :: u 68 :: u 69 :: u 70 :: u 71 :: u 72 :: u 73 :: u 74 :: u 75 :: u 76 :: u 77 :: u 78 :: u 79 :: u 80 :: u 81 :: u 82 :: u 83 :: u 84 :: u 85 :: u 86 :: u 87 :: u 88 :: u 89 :: u 90 :: u 91 :: u 92 :: u 93 :: u 94 :: u 95 :: u 96 :: u 97 :: u 98 :: u 99 :: u 100 :: u 101 :: u 102 :: u 103 :: u 104 :: u 105 :: u 106 :: u 107 :: u 108 :: u 109 :: u 110 :: u 111 :: u 112 :: u 113 :: u 114 :: u 115 :: u 116 :: u 117 :: u 118 :: u 119 :: u 120 :: u 121 :: u 122 :: u 123 :: u 124 :: u 125 :: u 126 :: u 127 :: u 128 :: u 129 :: u 130 :: u 131 :: u 132 :: u 133 :: u 134 :: u 135 :: u 136 :: u 137 :: u 138 :: u 139 :: u 140 :: u 141 :: u 142 :: u 143 :: u 144 :: u 145 :: u 146 :: u 147 :: u 148 :: u 149 :: u 150 :: u 151 :: u 152 :: u 153 :: u 154 :: u 155 :: u 156 :: u 157 :: u 158 :: u 159 :: u 160 :: u 161 :: u 162 :: u 163 :: u 164 :: u 165 :: u 166 :: u 167 :: u 168 :: u 169 :: u 170 :: u 171 :: u 172 :: u 173 :: u 174 :: u 175 :: u 176 :: u 177 :: u 178 :: u 179 :: u 180 :: u 181 :: u 182 :: []), []⟩
theorem intsB_refl {l : List Int} : intsB l l = true := by simp [intsB]

set_option maxRecDepth 100000 in
set_option maxHeartbeats 6400000 in
theorem HigherLaw_any (g : Gl) (Ab Ad Ah Aw : Option Addr) (cb cd ch cw : Nat) (h : List Rg) (ws : List Int) (w : World) (hg : GlIn w w.heap.size g Ab Ad) (hh : SlAt w w.heap.size 2 Ah h.length (fR h)) (hw : SlAt w w.heap.size 1 Aw ws.length (fU ws))
    (hwb : ∀ k, k < ws.length → 0 ≤ gI ws k ∧ gI ws k ≤ 65535) (hwl : ws.length ≤ maxLen) (m3 m4 m5 : Int) (hm3 : 0 ≤ m3 ∧ m3 ≤ 255) (hm4 : 0 ≤ m4 ∧ m4 ≤ 255) (hm5 : -32768 ≤ m5 ∧ m5 ≤ 32767) :
    Calls Try.prog 8 #[.agg #[.int .i64 g.base, .slice Ab g.bands.length cb, .slice Ad g.depths.length cd, .int .i64 g.blo, .int .i64 g.bhi], .slice Ah h.length ch, .slice Aw ws.length cw, .int .u8 m3, .int .u8 m4, .int .i16 m5] w fun e w' => e = .returned (.bool true) ∧ Below w.heap.size w w' := by
  obtain ⟨i0, hi0, hz0', hz1', hz2'⟩ := info_parts icR_info
  have HI := Lib.hid hi0
  clear hi0
  have hb1 := ex_alloc (Below.refl w.heap.size w) (.cells #[.int .i64 g.base, .slice Ab g.bands.length cb, .slice Ad g.depths.length cd, .int .i64 g.blo, .int .i64 g.bhi] 27)
  have q1 : Blk (w.alloc (.cells #[.int .i64 g.base, .slice Ab g.bands.length cb, .slice Ad g.depths.length cd, .int .i64 g.blo, .int .i64 g.bhi] 27)) w.heap.size 27 #[.int .i64 g.base, .slice Ab g.bands.length cb, .slice Ad g.depths.length cd, .int .i64 g.blo, .int .i64 g.bhi] := Blk.new _ _ _
  cases hr : readyB g h
  · have HR := Lib.hid hr
    clear hr
    go_enter Try.func8, Try.ntmps8
    go_wp2_with fail
    refine (ready_any g _ _ _ _ _ _ h _ ((hg.below hb1).up hb1.size) ((hh.below hb1).up hb1.size)).mono ?_
    rintro e w2 ⟨rfl, hb2⟩
    rw [HR.out]
    go_wp2_with fail
    refine (awake_any _).mono ?_
    rintro e w3 ⟨rfl, hb3⟩
    go_wp2
    go_ret
    exact ⟨rfl, ex_trans (ex_trans hb1 hb2) hb3⟩
  have HR := Lib.hid hr
  unfold readyB at hr
  simp only [Bool.and_eq_true, decide_eq_true_eq] at hr
  obtain ⟨hth, hlv⟩ := hr
  obtain ⟨hnb, hnd, hnh, _⟩ := thinB_iff.1 hth
  have hok := ok_of_lived hlv
  have hpos := hok.nh.1
  have HK := Lib.hid hok
  have HLV := Lib.hid hlv
  clear hth hlv hok
  go_enter Try.func8, Try.ntmps8
  go_wp2_with fail
  refine (ready_any g _ _ _ _ _ _ h _ ((hg.below hb1).up hb1.size) ((hh.below hb1).up hb1.size)).mono ?_
  rintro e w2 ⟨rfl, hb2⟩
  have hB2 := ex_trans hb1 hb2
  rw [HR.out]
  have p1 := q1.below hb2 q1.lt
  clear q1
  have a0 : w2.cell? ⟨w.heap.size, 0, none⟩ = some (.int .i64 g.base) := p1.cell 0
  have a1 : w2.cell? ⟨w.heap.size, 1, none⟩ = some (.slice Ab g.bands.length cb) := p1.cell 1
  have a2 : w2.cell? ⟨w.heap.size, 2, none⟩ = some (.slice Ad g.depths.length cd) := p1.cell 2
  have a3 : w2.cell? ⟨w.heap.size, 3, none⟩ = some (.int .i64 g.blo) := p1.cell 3
  have a4 : w2.cell? ⟨w.heap.size, 4, none⟩ = some (.int .i64 g.bhi) := p1.cell 4
  have l1 := p1.lt
  go_wp2_with fail
  refine wp_region_ext_mix 9 [(false, 0), (false, 1), (false, 2), (false, 3), (false, 5), (false, 6), (false, 7), (true, 4), (true, 8)] (by kernel_rfl) (by kernel_rfl) (by intro d _ _ _ _ h; cases d <;> exact h) ?_
  have hW0 := (Below.refl w2.heap.size w2).drew
  repeat (refine mix_quiet rfl ?_; go_big_quiet_step (fail); refine wpQuiet_nil ?_)
  refine mix_loud rfl ?_
  go_wp2_with fail
  refine (Picked_any g _ _ _ _ _ _ _ _ h ws w2.drew ((hg.below (ex_trans hB2 hW0)).up (ex_trans hB2 hW0).size) ((hh.below (ex_trans hB2 hW0)).up (ex_trans hB2 hW0).size) ((hw.below (ex_trans hB2 hW0)).up (ex_trans hB2 hW0).size) hwb hwl HK.out).mono ?_
  rintro e w3 ⟨⟨A1, A2, A3, c1, c2, c3, t1, t2, t3, rfl, ht, k1, k2, k3⟩, hb3⟩
  have hW3 := ex_trans hW0 hb3
  have hB3 := ex_trans hB2 hW3
  have HT := Lib.hid ht
  clear ht
  go_wp2_with fail
  refine ⟨inEx hW3, ?_⟩
  refine mix_loud rfl ?_
  go_wp2_with fail
  refine (Read_any g _ _ _ _ _ _ h ws m3 m4 w3 ((hg.below hB3).up hB3.size) _ _ _ _ _ _ t1 t2 t3 k1 k2 k3 ((hw.below hB3).up hB3.size) hwb hwl HK.out HT.out hm3.1 hm3.2 (by omega) (by omega)).mono ?_
  rintro e w5 ⟨⟨Ai, ci, l, rfl, hl4, hci1, hci2, hR, hi⟩, hb5⟩
  have hW5 := ex_trans hW3 hb5
  have hB5 := ex_trans hB2 hW5
  go_wp2_with fail
  refine ⟨inEx hW5, ?_⟩
  refine mix_nil rfl ?_
  replace p1 := p1.below hW5 l1
  clear a0 a1 a2 a3 a4 l1 k1 k2 k3
  have a0 : w5.cell? ⟨w.heap.size, 0, none⟩ = some (.int .i64 g.base) := p1.cell 0
  have a1 : w5.cell? ⟨w.heap.size, 1, none⟩ = some (.slice Ab g.bands.length cb) := p1.cell 1
  have a2 : w5.cell? ⟨w.heap.size, 2, none⟩ = some (.slice Ad g.depths.length cd) := p1.cell 2
  have a3 : w5.cell? ⟨w.heap.size, 3, none⟩ = some (.int .i64 g.blo) := p1.cell 3
  have a4 : w5.cell? ⟨w.heap.size, 4, none⟩ = some (.int .i64 g.bhi) := p1.cell 4
  have l1 := p1.lt
  have ab := HK.out.base
  go_wp2_with fail
  have hX0 := (Below.refl w5.heap.size w5).drew
  have hws := hB5.size
  refine Code.wp_mono (Q := HIQ g Ab Ad Ah Ai cb cd ch ci h l m5 w w5) ?_ ?_
  rotate_left
  · refine wp_region_ext_tree 5 (.quiet 0 (.quiet 2 (.fork 1 (.fork 3 (.loud 4 .done) 4 (.loud 3 .done)) 4 (.loud 1 (.loud 3 .done))))) (by kernel_rfl) (by kernel_rfl) (by rintro d v c a w ⟨h, _⟩; cases h) ?_
    repeat (refine tree_quiet rfl ?_; go_big_quiet_step (fail); refine wpQuiet_nil ?_)
    refine tree_fork rfl rfl ?_ ?_
    · have hE : Below w5.heap.size w5 (w5.alloc (.cells #[] 62)).drew := (ex_alloc (Below.refl _ _) _).drew
      have qe : Blk (w5.alloc (.cells #[] 62)).drew w5.heap.size 62 #[] := Blk.new _ _ _
      go_wp2_with fail
      refine ⟨inEx hE, ?_⟩
      refine tree_fork rfl rfl ?_ ?_
      · go_wp2_with (at_builtin; refine wpList_append_list (f := cC) (F := fC) (sz := 3) cC_len cC_at cC_one rfl _ _ _ rfl w5.heap.size 62 i0 _ 24 Try.underlying29 HI.out hz0' hz1' hz2' rfl (by omega) (some ⟨w5.heap.size, 0, none⟩) 0 [] rfl (own_empty qe (Nat.le_refl _)) Ai ci l rfl ((hi.below hE).up (hE).size) (by simp; unfold maxLen; omega) (by simp; omega) hE.size (w5.heap.size + 1) (by simp) ?_; intro L1 Ay cy v1 HL1 o1 g1 n1)
        obtain rfl : l = L1 := HL1.out.symm
        have hE2 : Below w5.heap.size w5 v1 := hE.grown g1 hE.size (fun j hj => by have : w5.heap.size = j := by simpa [Value.ownBlock] using hj
                                                                                   omega)
        refine ⟨inEx hE2, ?_⟩
        refine tree_loud rfl ?_
        go_wp2_with fail
        refine ⟨inEx (ex_alloc hE2 _), ?_⟩
        refine tree_done rfl ?_
        go_wp2
        exact ⟨rfl, v1.heap.size, Ay, cy, ⟨ex_alloc hE2 _, hE2.size, Blk.new _ _ _, o1.alloc _⟩, exFrame' (by kernel_rfl)⟩
      · have hP := ex_alloc hE (.cells #[.int .i64 0, .slice none 0 0, .slice none 0 0, .int .i64 0, .int .i64 0] 27)
        have qp : Blk ((w5.alloc (.cells #[] 62)).drew.alloc (.cells #[.int .i64 0, .slice none 0 0, .slice none 0 0, .int .i64 0, .int .i64 0] 27)) (w5.heap.size + 1) 27 #[.int .i64 0, .slice none 0 0, .slice none 0 0, .int .i64 0, .int .i64 0] := Blk.new' _ _ _ (by simp)
        have qe2 := qe.alloc (.cells #[.int .i64 0, .slice none 0 0, .slice none 0 0, .int .i64 0, .int .i64 0] 27)
        go_wp2_with fail
        refine ⟨inEx hP, ?_⟩
        refine tree_loud rfl ?_
        go_wp2_with (at_builtin; refine wpList_append_list (f := cC) (F := fC) (sz := 3) cC_len cC_at cC_one rfl _ _ _ rfl w5.heap.size 62 i0 _ 24 Try.underlying29 HI.out hz0' hz1' hz2' rfl (by omega) (some ⟨w5.heap.size, 0, none⟩) 0 [] rfl (own_empty qe2 (Nat.le_refl _)) Ai ci l rfl ((hi.below hP).up (hP).size) (by simp; unfold maxLen; omega) (by simp; omega) hP.size (w5.heap.size + 1 + 1) (by simp) ?_; intro L1 Ay cy v1 HL1 o1 g1 n1)
        obtain rfl : l = L1 := HL1.out.symm
        have hE2 : Below w5.heap.size w5 v1 := hP.grown g1 hP.size (fun j hj => by have : w5.heap.size = j := by simpa [Value.ownBlock] using hj
                                                                                   omega)
        have q3 := qp.grown g1 (by simp [Value.ownBlock])
        have hS : HS w5 _ (w5.heap.size + 1) (.slice Ay l.length cy) l v1 := ⟨hE2, by omega, q3, o1⟩
        refine ⟨inEx hE2, ?_⟩
        refine tree_done rfl ?_
        have b0 := q3.cell 0
        have b1 := q3.cell 1
        have b2 := q3.cell 2
        have b3 := q3.cell 3
        have b4 := q3.cell 4
        have f0 := q3.frozen 0
        have f1 := q3.frozen 1
        have f2 := q3.frozen 2
        have f3 := q3.frozen 3
        have f4 := q3.frozen 4
        have lr := q3.lt
        simp at b0 b1 b2 b3 b4
        go_wp2
        exact ⟨rfl, _, Ay, cy, hS.fill, exFrame' (by kernel_rfl)⟩
    · have hP : Below w5.heap.size w5 (w5.alloc (.cells #[.int .i64 0, .slice none 0 0, .slice none 0 0, .int .i64 0, .int .i64 0] 27)).drew := (ex_alloc (Below.refl _ _) _).drew
      have qp : Blk (w5.alloc (.cells #[.int .i64 0, .slice none 0 0, .slice none 0 0, .int .i64 0, .int .i64 0] 27)).drew w5.heap.size 27 #[.int .i64 0, .slice none 0 0, .slice none 0 0, .int .i64 0, .int .i64 0] := Blk.new _ _ _
      go_wp2_with fail
      refine ⟨inEx hP, ?_⟩
      refine tree_loud rfl ?_
      have hE := ex_alloc hP (.cells #[] 62)
      have qe : Blk ((w5.alloc (.cells #[.int .i64 0, .slice none 0 0, .slice none 0 0, .int .i64 0, .int .i64 0] 27)).drew.alloc (.cells #[] 62)) (w5.heap.size + 1) 62 #[] := Blk.new' _ _ _ (by simp)
      have qp2 := qp.alloc (.cells #[] 62)
      go_wp2_with fail
      refine ⟨inEx hE, ?_⟩
      refine tree_loud rfl ?_
      go_wp2_with (at_builtin; refine wpList_append_list (f := cC) (F := fC) (sz := 3) cC_len cC_at cC_one rfl _ _ _ rfl w5.heap.size 62 i0 _ 24 Try.underlying29 HI.out hz0' hz1' hz2' rfl (by omega) (some ⟨w5.heap.size + 1, 0, none⟩) 0 [] rfl (own_empty qe (by omega)) Ai ci l rfl ((hi.below hE).up (hE).size) (by simp; unfold maxLen; omega) (by simp; omega) hE.size (w5.heap.size + 1 + 1) (by simp) ?_; intro L1 Ay cy v1 HL1 o1 g1 n1)
      obtain rfl : l = L1 := HL1.out.symm
      have hE2 : Below w5.heap.size w5 v1 := hE.grown g1 hE.size (fun j hj => by have : w5.heap.size + 1 = j := by simpa [Value.ownBlock] using hj
                                                                                 omega)
      have q3 := qp2.grown g1 (by simp [Value.ownBlock])
      have hS : HS w5 _ w5.heap.size (.slice Ay l.length cy) l v1 := ⟨hE2, by omega, q3, o1⟩
      refine ⟨inEx hE2, ?_⟩
      refine tree_done rfl ?_
      have b0 := q3.cell 0
      have b1 := q3.cell 1
      have b2 := q3.cell 2
      have b3 := q3.cell 3
      have b4 := q3.cell 4
      have f0 := q3.frozen 0
      have f1 := q3.frozen 1
      have f2 := q3.frozen 2
      have f3 := q3.frozen 3
      have f4 := q3.frozen 4
      have lr := q3.lt
      simp at b0 b1 b2 b3 b4
      go_wp2
      exact ⟨rfl, _, Ay, cy, hS.fill, exFrame' (by kernel_rfl)⟩
  rintro e a' W1 ⟨rfl, p, Ay, cy, hS, u, rfl⟩
  clear a0 a1 a2 a3 a4 l1 hX0
  obtain ⟨x, hx⟩ : ∃ x : Gl, x = upG g m5 := ⟨_, rfl⟩
  have exb : x.base = g.base + m5 := by rw [hx]; rfl
  have hgx : GlIn w w.heap.size x Ab Ad := by rw [hx]; exact ⟨hg.b, hg.d⟩
  have hnbx : x.bands.length ≤ 5 := by rw [hx]; exact hnb
  have hndx : x.depths.length ≤ 6 := by rw [hx]; exact hnd
  have w1' : IntKind.i64.wrap m5 = m5 := IntWalk.i64_in _ (by omega)
  have w2' : IntKind.i64.wrap (g.base + m5) = g.base + m5 := IntWalk.i64_in _ (by omega)
  have b0 : W1.cell? ⟨p, 0, none⟩ = some (.int .i64 g.base) := hS.qp.cell 0
  have f0 := hS.qp.frozen 0
  have l2 := hS.qp.lt
  have hS1 : HS w5 #[.int .i64 x.base, .slice Ab x.bands.length cb, .slice Ad x.depths.length cd, .int .i64 x.blo, .int .i64 x.bhi] p (.slice Ay l.length cy) l (W1.setCell ⟨p, 0, none⟩ (.int .i64 (g.base + m5))) := by
    have := hS.base (g.base + m5)
    rw [hx]; exact this
  have HX := Lib.hid hx
  have EXB := Lib.hid exb
  clear hx exb
  go_wp2_with fail
  generalize W1.setCell ⟨p, 0, none⟩ (.int .i64 (g.base + m5)) = W2 at *
  clear hS b0 f0 l2
  refine wp_loop (fun a W => ∃ k : Nat, k ≤ l.length ∧ HS w5 #[.int .i64 x.base, .slice Ab x.bands.length cb, .slice Ad x.depths.length cd, .int .i64 x.blo, .int .i64 x.bhi] p (.slice Ay l.length cy) (upTo m5 l k) W ∧ ∃ u : Nat → Value, a = ⟨List.toArray (u 0 :: .slice Ah h.length ch :: u 2 :: u 3 :: u 4 :: .int .i16 m5 :: .pointer (some ⟨w.heap.size, 0, none⟩) :: u 7 :: u 8 :: u 9 :: u 10 :: u 11 :: u 12 :: .slice Ai l.length ci :: .pointer (some ⟨p, 0, none⟩) :: .slice Ay l.length cy :: .int .i64 (k : Int) :: u 17 :: u 18 :: u 19 :: u 20 :: u 21 :: u 22 :: u 23 :: u 24 :: u 25 :: u 26 :: u 27 :: u 28 :: u 29 :: u 30 :: u 31 :: u 32 :: u 33 :: u 34 :: u 35 :: u 36 :: u 37 :: u 38 :: u 39 :: u 40 :: u 41 :: u 42 :: u 43 :: u 44 :: u 45 :: u 46 :: u 47 :: u 48 :: u 49 :: u 50 :: u 51 :: u 52 :: u 53 :: u 54 :: u 55 :: u 56 :: u 57 :: u 58 :: u 59 :: u 60 :: u 61 :: u 62 :: u 63 :: u 64 :: u 65 :: u 66 :: u 67 :: u 68 :: u 69 :: u 70 :: u 71 :: u 72 :: u 73 :: u 74 :: u 75 :: u 76 :: u 77 :: u 78 :: u 79 :: u 80 :: u 81 :: u 82 :: u 83 :: u 84 :: u 85 :: u 86 :: u 87 :: u 88 :: u 89 :: u 90 :: u 91 :: u 92 :: u 93 :: u 94 :: u 95 :: u 96 :: u 97 :: u 98 :: u 99 :: u 100 :: u 101 :: u 102 :: u 103 :: u 104 :: u 105 :: u 106 :: u 107 :: u 108 :: u 109 :: u 110 :: u 111 :: u 112 :: u 113 :: u 114 :: u 115 :: u 116 :: u 117 :: u 118 :: u 119 :: u 120 :: u 121 :: u 122 :: u 123 :: u 124 :: u 125 :: u 126 :: u 127 :: u 128 :: u 129 :: u 130 :: u 131 :: u 132 :: u 133 :: u 134 :: u 135 :: u 136 :: u 137 :: u 138 :: u 139 :: u 140 :: u 141 :: u 142 :: u 143 :: u 144 :: u 145 :: u 146 :: u 147 :: u 148 :: u 149 :: u 150 :: u 151 :: u 152 :: u 153 :: u 154 :: u 155 :: u 156 :: u 157 :: u 158 :: u 159 :: u 160 :: u 161 :: u 162 :: u 163 :: u 164 :: u 165 :: u 166 :: u 167 :: u 168 :: u 169 :: u 170 :: u 171 :: u 172 :: u 173 :: u 174 :: u 175 :: u 176 :: u 177 :: u 178 :: u 179 :: u 180 :: u 181 :: u 182 :: []), []⟩)
    (fun a _ => l.length - (intOf (a.tmps.getD 16 undef)).toNat) ⟨0, by omega, hS1, exFrame (by kernel_rfl)⟩ ?_
  rintro a wr ⟨k, hk, hS2, u, rfl⟩
  clear hS1
  by_cases hlt : k < l.length
  · have hlt' : k < (upTo m5 l k).length := by rw [upTo_len]; exact hlt
    obtain ⟨gg, cap, hv, hgb, hgl, c0, c1, c2, f⟩ := ics_cell hS2.ow hlt'
    injection hv with hva hvb hvc
    subst hva hvc
    rw [upTo_at hlt, if_neg (by omega)] at c1
    have f1 := f (k * 3 + 1)
    clear c0 c2 f hvb
    have hS3 := hS2.zero (gg := gg) rfl hlt' (IntKind.i64.wrap ((gC l k).zero + m5))
    rw [upTo_at hlt, if_neg (by omega)] at hS3
    have hS4 : HS w5 #[.int .i64 x.base, .slice Ab x.bands.length cb, .slice Ad x.depths.length cd, .int .i64 x.blo, .int .i64 x.bhi] p (.slice (some ⟨gg, 0, none⟩) l.length cy) (upTo m5 l (k + 1)) (wr.setCell ⟨gg, k * 3 + 1, none⟩ (.int .i64 (wrap64 ((gC l k).zero + m5)))) := by rw [← IntWalk.i64_left]; exact hS3
    clear hS3
    go_wp2_with fail
    refine ⟨⟨k + 1, by omega, hS4, exFrame (by kernel_rfl)⟩, ?_⟩
    show l.length - (intOf (.int .i64 ((k : Int) + 1))).toNat < l.length - (intOf (.int .i64 (k : Int))).toNat
    simp [intOf]
    omega
  have HKL : Hid (k = l.length) := Lib.hid (by omega)
  obtain ⟨X, hX⟩ : ∃ X, X = upTo m5 l l.length := ⟨_, rfl⟩
  have HXL : Hid (X.length = l.length) := Lib.hid (by rw [hX, upTo_len])
  have hXl : X.length ≤ 4 := (by have := HXL.out; omega)
  have HS3 : wr.ownsRow w5.heap.size 62 3 (.slice Ay X.length cy) X.length (X.flatMap cC) := by
    have := hS2.ow
    rw [HKL.out, ← hX] at this
    rw [HXL.out] at this ⊢
    exact this
  have HX0 := Lib.hid hX
  have eqv : Value.slice Ay l.length cy = Value.slice Ay X.length cy := by rw [HXL.out]
  rw [eqv]
  clear eqv hX
  obtain ⟨Ax, cx, hv, _, _, hs2⟩ := own_C HS3
  injection hv with hva hvb hvc
  subst hva
  clear hvb HS3
  have q2 := hS2.qp
  have kx1 : decide (k < X.length) = false := decide_eq_false (by have := HXL.out; omega)
  have kx2 : decide ((k : Int) < (X.length : Int)) = false := decide_eq_false (by have := HXL.out; omega)
  have B_w := ex_trans hB5 hS2.bv
  have I_w := hS2.bv
  have b0 : wr.cell? ⟨p, 0, none⟩ = some (.int .i64 x.base) := q2.cell 0
  have b1 : wr.cell? ⟨p, 1, none⟩ = some (.slice Ab x.bands.length cb) := q2.cell 1
  have b2 : wr.cell? ⟨p, 2, none⟩ = some (.slice Ad x.depths.length cd) := q2.cell 2
  have b3 : wr.cell? ⟨p, 3, none⟩ = some (.int .i64 x.blo) := q2.cell 3
  have b4 : wr.cell? ⟨p, 4, none⟩ = some (.int .i64 x.bhi) := q2.cell 4
  have l2 := q2.lt
  go_wp2_with fail
  refine (fault_any x _ _ _ _ wr ((hgx.below B_w).up B_w.size)).mono ?_
  rintro e v1 ⟨rfl, hv1⟩
  have B_v1 := ex_trans B_w hv1
  clear b0 b1 b2 b3 b4 l2
  by_cases hck : ckGlass x ≠ 0
  · have e1 : (ckGlass x != 0) = true := by simp [hck]
    clear hck
    go_wp2_with fail
    refine (awake_any _).mono ?_
    rintro e w7 ⟨rfl, hb7⟩
    go_wp2
    go_ret
    exact ⟨rfl, ex_trans B_v1 hb7⟩
  have HCK : Hid (ckGlass x = 0) := Lib.hid (by simpa using hck)
  rw [HCK.out]
  clear hck
  have p1 := p1.below I_w p1.lt
  replace p1 := p1.below hv1 p1.lt
  replace q2 := q2.below hv1 q2.lt
  have I_v1 := ex_trans I_w hv1
  go_wp2_with fail
  refine (IcesFault_any _ _ _ _ h.length l _ (by omega) ((hi.below I_v1).up I_v1.size)).mono ?_
  rintro e v2 ⟨rfl, hv2⟩
  have B_v2 := ex_trans B_v1 hv2
  by_cases hic : icsF h.length l ≠ 0
  · have e1 : (icsF h.length l != 0) = true := by simp [hic]
    clear hic
    go_wp2_with fail
    refine (awake_any _).mono ?_
    rintro e w7 ⟨rfl, hb7⟩
    go_wp2
    go_ret
    exact ⟨rfl, ex_trans B_v2 hb7⟩
  have e0 : icsF h.length l = 0 := by simpa using hic
  have HIC1 := Lib.hid (iced_of HLV.out e0)
  have HX2 : Hid (X = l.map (upI m5)) := Lib.hid (by rw [HX0.out, upTo_all (by omega) (fun j hj => by have := ((ics_bd e0).2 j hj).2.1; omega)])
  rw [e0]
  clear hic e0 hS2
  have J_v2 := ex_trans hv1 hv2
  go_wp2_with fail
  refine (IcesFault_any _ _ _ _ h.length X _ (by omega) ((hs2.below J_v2).up J_v2.size)).mono ?_
  rintro e v4 ⟨rfl, hv4⟩
  have B_v4 := ex_trans B_v2 hv4
  by_cases hic : icsF h.length X ≠ 0
  · have e1 : (icsF h.length X != 0) = true := by simp [hic]
    clear hic
    go_wp2_with fail
    refine (awake_any _).mono ?_
    rintro e w7 ⟨rfl, hb7⟩
    go_wp2
    go_ret
    exact ⟨rfl, ex_trans B_v4 hb7⟩
  have HLX := Lib.hid (show lived x h = 0 by rw [HX.out]; exact up_lived (by rw [← HX.out]; exact HCK.out) HLV.out)
  have HKX := Lib.hid (ok_of_lived HLX.out)
  have HIC2 := Lib.hid (iced_of HLX.out (by simpa using hic))
  have e0 : icsF h.length X = 0 := by simpa using hic
  rw [e0]
  clear hic e0
  have X_v := ex_trans hv2 hv4
  have I_v4 := ex_trans I_v1 X_v
  have J_v4 := ex_trans J_v2 hv4
  replace p1 := p1.below X_v p1.lt
  replace q2 := q2.below X_v q2.lt
  have a0 : v4.cell? ⟨w.heap.size, 0, none⟩ = some (.int .i64 g.base) := p1.cell 0
  have a1 : v4.cell? ⟨w.heap.size, 1, none⟩ = some (.slice Ab g.bands.length cb) := p1.cell 1
  have a2 : v4.cell? ⟨w.heap.size, 2, none⟩ = some (.slice Ad g.depths.length cd) := p1.cell 2
  have a3 : v4.cell? ⟨w.heap.size, 3, none⟩ = some (.int .i64 g.blo) := p1.cell 3
  have a4 : v4.cell? ⟨w.heap.size, 4, none⟩ = some (.int .i64 g.bhi) := p1.cell 4
  have l1 := p1.lt
  go_wp2_with fail
  refine (Glass_any g _ _ _ _ v4 ((hg.below B_v4).up B_v4.size) (by omega) (by omega)).mono ?_
  rintro e ya1 ⟨⟨Ab_ya1, Ad_ya1, cb_ya1, cd_ya1, rfl, hg_ya1⟩, hya1⟩
  have B_ya1 := ex_trans B_v4 hya1
  go_wp2_with fail
  refine (History_any _ _ h ya1 (by omega) ((hh.below B_ya1).up B_ya1.size)).mono ?_
  rintro e ya2 ⟨⟨Ah_ya2, ch_ya2, rfl, _, _, hh_ya2⟩, hya2⟩
  have B_ya2 := ex_trans B_ya1 hya2
  have I_ya2 := ex_trans I_v4 (ex_trans hya1 hya2)
  go_wp2_with fail
  refine (Ices_any _ _ l ya2 (by omega) ((hi.below I_ya2).up I_ya2.size)).mono ?_
  rintro e ya3 ⟨⟨Ai_ya3, ci_ya3, rfl, hc1_ya3, hc2_ya3, hi_ya3⟩, hya3⟩
  have B_ya3 := ex_trans B_ya2 hya3
  have I_ya3 := ex_trans I_ya2 hya3
  go_wp2_with fail
  refine (Zeros_v g _ _ _ _ _ _ _ _ h l _ ((hg_ya1.below (ex_trans hya2 hya3)).up (ex_trans hya2 hya3).size) ((hh_ya2.below hya3).up hya3.size) hi_ya3 HIC1.out).mono ?_
  rintro e ya4 ⟨⟨Az1, n1, ev1, zs1, rfl, HZ1, sz1⟩, hya4⟩
  have B_ya := ex_trans B_ya3 hya4
  have I_ya := ex_trans I_ya3 hya4
  have X_ya := ex_trans (ex_trans (ex_trans hya1 hya2) hya3) hya4
  clear hg_ya1 hh_ya2 hi_ya3
  clear a0 a1 a2 a3 a4 l1
  replace p1 := p1.below X_ya p1.lt
  replace q2 := q2.below X_ya q2.lt
  have Kya_X := ex_trans J_v4 X_ya
  have b0 : ya4.cell? ⟨p, 0, none⟩ = some (.int .i64 x.base) := q2.cell 0
  have b1 : ya4.cell? ⟨p, 1, none⟩ = some (.slice Ab x.bands.length cb) := q2.cell 1
  have b2 : ya4.cell? ⟨p, 2, none⟩ = some (.slice Ad x.depths.length cd) := q2.cell 2
  have b3 : ya4.cell? ⟨p, 3, none⟩ = some (.int .i64 x.blo) := q2.cell 3
  have b4 : ya4.cell? ⟨p, 4, none⟩ = some (.int .i64 x.bhi) := q2.cell 4
  have l2 := q2.lt
  go_wp2_with fail
  refine (Glass_any x _ _ _ _ ya4 ((hgx.below B_ya).up B_ya.size) (by omega) (by omega)).mono ?_
  rintro e yb1 ⟨⟨Ab_yb1, Ad_yb1, cb_yb1, cd_yb1, rfl, hg_yb1⟩, hyb1⟩
  have B_yb1 := ex_trans B_ya hyb1
  go_wp2_with fail
  refine (History_any _ _ h yb1 (by omega) ((hh.below B_yb1).up B_yb1.size)).mono ?_
  rintro e yb2 ⟨⟨Ah_yb2, ch_yb2, rfl, _, _, hh_yb2⟩, hyb2⟩
  have B_yb2 := ex_trans B_yb1 hyb2
  have I_yb2 := ex_trans Kya_X (ex_trans hyb1 hyb2)
  go_wp2_with fail
  refine (Ices_any _ _ X yb2 (by omega) ((hs2.below I_yb2).up I_yb2.size)).mono ?_
  rintro e yb3 ⟨⟨Ai_yb3, ci_yb3, rfl, hc1_yb3, hc2_yb3, hi_yb3⟩, hyb3⟩
  have B_yb3 := ex_trans B_yb2 hyb3
  have I_yb3 := ex_trans I_yb2 hyb3
  go_wp2_with fail
  refine (Zeros_v x _ _ _ _ _ _ _ _ h X _ ((hg_yb1.below (ex_trans hyb2 hyb3)).up (ex_trans hyb2 hyb3).size) ((hh_yb2.below hyb3).up hyb3.size) hi_yb3 HIC2.out).mono ?_
  rintro e yb4 ⟨⟨Az2, n2, ev2, zs2, rfl, HZ2, sz2⟩, hyb4⟩
  have B_yb := ex_trans B_yb3 hyb4
  have I_yb := ex_trans I_yb3 hyb4
  have X_yb := ex_trans (ex_trans (ex_trans hyb1 hyb2) hyb3) hyb4
  clear hg_yb1 hh_yb2 hi_yb3
  clear b0 b1 b2 b3 b4 l2
  replace p1 := p1.below X_yb p1.lt
  replace q2 := q2.below X_yb q2.lt
  have Kyb_l := ex_trans I_ya X_yb
  have a0 : yb4.cell? ⟨w.heap.size, 0, none⟩ = some (.int .i64 g.base) := p1.cell 0
  have a1 : yb4.cell? ⟨w.heap.size, 1, none⟩ = some (.slice Ab g.bands.length cb) := p1.cell 1
  have a2 : yb4.cell? ⟨w.heap.size, 2, none⟩ = some (.slice Ad g.depths.length cd) := p1.cell 2
  have a3 : yb4.cell? ⟨w.heap.size, 3, none⟩ = some (.int .i64 g.blo) := p1.cell 3
  have a4 : yb4.cell? ⟨w.heap.size, 4, none⟩ = some (.int .i64 g.bhi) := p1.cell 4
  have l1 := p1.lt
  go_wp2_with fail
  refine (Glass_any g _ _ _ _ yb4 ((hg.below B_yb).up B_yb.size) (by omega) (by omega)).mono ?_
  rintro e yc1 ⟨⟨Ab_yc1, Ad_yc1, cb_yc1, cd_yc1, rfl, hg_yc1⟩, hyc1⟩
  have B_yc1 := ex_trans B_yb hyc1
  go_wp2_with fail
  refine (History_any _ _ h yc1 (by omega) ((hh.below B_yc1).up B_yc1.size)).mono ?_
  rintro e yc2 ⟨⟨Ah_yc2, ch_yc2, rfl, _, _, hh_yc2⟩, hyc2⟩
  have B_yc2 := ex_trans B_yc1 hyc2
  have I_yc2 := ex_trans Kyb_l (ex_trans hyc1 hyc2)
  go_wp2_with fail
  refine (Ices_any _ _ l yc2 (by omega) ((hi.below I_yc2).up I_yc2.size)).mono ?_
  rintro e yc3 ⟨⟨Ai_yc3, ci_yc3, rfl, hc1_yc3, hc2_yc3, hi_yc3⟩, hyc3⟩
  have B_yc3 := ex_trans B_yc2 hyc3
  have I_yc3 := ex_trans I_yc2 hyc3
  go_wp2_with fail
  refine (Fewest_v g _ _ _ _ _ _ _ _ h l _ ((hg_yc1.below (ex_trans hyc2 hyc3)).up (ex_trans hyc2 hyc3).size) ((hh_yc2.below hyc3).up hyc3.size) hi_yc3 HIC1.out).mono ?_
  rintro e yc4 ⟨⟨Af1, cf1, fr1, rfl, HF1, sf1⟩, hyc4⟩
  have B_yc := ex_trans B_yc3 hyc4
  have I_yc := ex_trans I_yc3 hyc4
  have X_yc := ex_trans (ex_trans (ex_trans hyc1 hyc2) hyc3) hyc4
  clear hg_yc1 hh_yc2 hi_yc3
  clear a0 a1 a2 a3 a4 l1
  replace p1 := p1.below X_yc p1.lt
  replace q2 := q2.below X_yc q2.lt
  have Kyc_X := ex_trans I_yb X_yc
  have b0 : yc4.cell? ⟨p, 0, none⟩ = some (.int .i64 x.base) := q2.cell 0
  have b1 : yc4.cell? ⟨p, 1, none⟩ = some (.slice Ab x.bands.length cb) := q2.cell 1
  have b2 : yc4.cell? ⟨p, 2, none⟩ = some (.slice Ad x.depths.length cd) := q2.cell 2
  have b3 : yc4.cell? ⟨p, 3, none⟩ = some (.int .i64 x.blo) := q2.cell 3
  have b4 : yc4.cell? ⟨p, 4, none⟩ = some (.int .i64 x.bhi) := q2.cell 4
  have l2 := q2.lt
  go_wp2_with fail
  refine (Glass_any x _ _ _ _ yc4 ((hgx.below B_yc).up B_yc.size) (by omega) (by omega)).mono ?_
  rintro e yd1 ⟨⟨Ab_yd1, Ad_yd1, cb_yd1, cd_yd1, rfl, hg_yd1⟩, hyd1⟩
  have B_yd1 := ex_trans B_yc hyd1
  go_wp2_with fail
  refine (History_any _ _ h yd1 (by omega) ((hh.below B_yd1).up B_yd1.size)).mono ?_
  rintro e yd2 ⟨⟨Ah_yd2, ch_yd2, rfl, _, _, hh_yd2⟩, hyd2⟩
  have B_yd2 := ex_trans B_yd1 hyd2
  have I_yd2 := ex_trans Kyc_X (ex_trans hyd1 hyd2)
  go_wp2_with fail
  refine (Ices_any _ _ X yd2 (by omega) ((hs2.below I_yd2).up I_yd2.size)).mono ?_
  rintro e yd3 ⟨⟨Ai_yd3, ci_yd3, rfl, hc1_yd3, hc2_yd3, hi_yd3⟩, hyd3⟩
  have B_yd3 := ex_trans B_yd2 hyd3
  have I_yd3 := ex_trans I_yd2 hyd3
  go_wp2_with fail
  refine (Fewest_v x _ _ _ _ _ _ _ _ h X _ ((hg_yd1.below (ex_trans hyd2 hyd3)).up (ex_trans hyd2 hyd3).size) ((hh_yd2.below hyd3).up hyd3.size) hi_yd3 HIC2.out).mono ?_
  rintro e yd4 ⟨⟨Af2, cf2, fr2, rfl, HF2, sf2⟩, hyd4⟩
  have B_yd := ex_trans B_yd3 hyd4
  have I_yd := ex_trans I_yd3 hyd4
  have X_yd := ex_trans (ex_trans (ex_trans hyd1 hyd2) hyd3) hyd4
  clear hg_yd1 hh_yd2 hi_yd3
  clear b0 b1 b2 b3 b4 l2
  replace p1 := p1.below X_yd p1.lt
  replace q2 := q2.below X_yd q2.lt
  have Kyd_l := ex_trans I_yc X_yd
  have hAll := high_all (b := m5) HK.out (by rw [← HX.out]; exact HKX.out) HZ1.out (by rw [← HX.out, ← HX2.out]; exact HZ2.out)
  have hFew : fr1 = fr2 := up_few (b := m5) HK.out (by rw [← HX.out]; exact HKX.out) HF1.out (by rw [← HX.out, ← HX2.out]; exact HF2.out)
  obtain ⟨rfl, rfl, hall⟩ := hAll
  subst hFew
  have hfl := few_len' HF1.out
  have HALL := Lib.hid hall
  have Y1 := ex_trans (ex_trans X_yb X_yc) X_yd
  have Y2 := ex_trans X_yc X_yd
  have hn1 : n1 ≤ 20 := by rcases HZ1.out with ⟨_, _, h1⟩ | ⟨_, _, h1, _⟩ <;> omega
  clear HZ1 HZ2 HF1 HF2 hall
  go_wp2_with fail
  refine (ints_any Af1 Af2 cf1 cf2 fr1 fr1 yd4 (by omega) ((sf1.below X_yd).up X_yd.size) sf2 (by omega)).mono ?_
  rintro e x1 ⟨rfl, hx1⟩
  rw [intsB_refl]
  have S1 : SlAt x1 x1.heap.size 2 Az1 n1 (fR zs1) := (sz1.below (ex_trans Y1 hx1)).up (ex_trans Y1 hx1).size
  have S2 : SlAt x1 x1.heap.size 2 Az2 n1 (fR zs2) := (sz2.below (ex_trans Y2 hx1)).up (ex_trans Y2 hx1).size
  have B_x1 := ex_trans B_yd hx1
  clear sz1 sz2 sf1 sf2 kx1 kx2
  go_wp2_with fail
  refine wp_loop (fun a W => ∃ d : Nat, d ≤ n1 ∧ Below x1.heap.size x1 W ∧ ∃ u : Nat → Value, a = ⟨List.toArray (u 0 :: u 1 :: u 2 :: u 3 :: u 4 :: .int .i16 m5 :: u 6 :: u 7 :: u 8 :: u 9 :: u 10 :: u 11 :: u 12 :: u 13 :: u 14 :: u 15 :: u 16 :: .slice Az1 n1 n1 :: u 18 :: .slice Az2 n1 n1 :: u 20 :: u 21 :: u 22 :: u 23 :: u 24 :: .int .i64 (d : Int) :: u 26 :: u 27 :: u 28 :: u 29 :: u 30 :: u 31 :: u 32 :: u 33 :: u 34 :: u 35 :: u 36 :: u 37 :: u 38 :: u 39 :: u 40 :: u 41 :: u 42 :: u 43 :: u 44 :: u 45 :: u 46 :: u 47 :: u 48 :: u 49 :: u 50 :: u 51 :: u 52 :: u 53 :: u 54 :: u 55 :: u 56 :: u 57 :: u 58 :: u 59 :: u 60 :: u 61 :: u 62 :: u 63 :: u 64 :: u 65 :: u 66 :: u 67 :: u 68 :: u 69 :: u 70 :: u 71 :: u 72 :: u 73 :: u 74 :: u 75 :: u 76 :: u 77 :: u 78 :: u 79 :: u 80 :: u 81 :: u 82 :: u 83 :: u 84 :: u 85 :: u 86 :: u 87 :: u 88 :: u 89 :: u 90 :: u 91 :: u 92 :: u 93 :: u 94 :: u 95 :: u 96 :: u 97 :: u 98 :: u 99 :: u 100 :: u 101 :: u 102 :: u 103 :: u 104 :: u 105 :: u 106 :: u 107 :: u 108 :: u 109 :: u 110 :: u 111 :: u 112 :: u 113 :: u 114 :: u 115 :: u 116 :: u 117 :: u 118 :: u 119 :: u 120 :: u 121 :: u 122 :: u 123 :: u 124 :: u 125 :: u 126 :: u 127 :: u 128 :: u 129 :: u 130 :: u 131 :: u 132 :: u 133 :: u 134 :: u 135 :: u 136 :: u 137 :: u 138 :: u 139 :: u 140 :: u 141 :: u 142 :: u 143 :: u 144 :: u 145 :: u 146 :: u 147 :: u 148 :: u 149 :: u 150 :: u 151 :: u 152 :: u 153 :: u 154 :: u 155 :: u 156 :: u 157 :: u 158 :: u 159 :: u 160 :: u 161 :: u 162 :: u 163 :: u 164 :: u 165 :: u 166 :: u 167 :: u 168 :: u 169 :: u 170 :: u 171 :: u 172 :: u 173 :: u 174 :: u 175 :: u 176 :: u 177 :: u 178 :: u 179 :: u 180 :: u 181 :: u 182 :: []), []⟩)
    (fun a _ => n1 - (intOf (a.tmps.getD 25 undef)).toNat) ⟨0, by omega, Below.refl _ _, exFrame (by kernel_rfl)⟩ ?_
  rintro a wz ⟨d, hd, hbl, u, rfl⟩
  by_cases hlt : d < n1
  · obtain ⟨b1, o1, rfl, hb1, g0, g1⟩ := IsRgs.at_ (S1.below hbl) hlt
    obtain ⟨b2, o2, rfl, hb2, g2, g3⟩ := IsRgs.at_ (S2.below hbl) hlt
    obtain ⟨⟨q1, q2⟩, q3, q4⟩ := HALL.out d hlt
    have hws := hbl.size
    have hb1' : b1 < wz.heap.size := by omega
    have hb2' : b2 < wz.heap.size := by omega
    rw [← q1] at g2
    rw [← q2] at g3
    generalize (gR zs1 d).lo = z1 at *
    generalize (gR zs1 d).hi = z2 at *
    have v1' : IntKind.i64.wrap (z1 + m5) = z1 + m5 := IntWalk.i64_in _ (by omega)
    have v2' : IntKind.i64.wrap (z2 + m5) = z2 + m5 := IntWalk.i64_in _ (by omega)
    clear q1 q2
    go_wp2_with fail
    refine wp_region_ext (by kernel_rfl) (by kernel_rfl) ?_
    repeat (any_goals (go_big_quiet_step (fail)))
    refine wpQuiet_nil ?_; intro _ hw'; obtain ⟨X', rfl⟩ := hw'
    go_wp2_with fail
    refine ⟨⟨d + 1, by omega, ex_trans hbl X'.h, exFrame (by kernel_rfl)⟩, ?_⟩
    show n1 - (intOf (.int .i64 ((d : Int) + 1))).toNat < n1 - (intOf (.int .i64 (d : Int))).toNat
    simp [intOf]
    omega
  go_wp2_with fail
  refine (awake_any _).mono ?_
  rintro e we ⟨rfl, hbe⟩
  go_wp2
  go_ret
  exact ⟨rfl, ex_trans (ex_trans B_x1 hbl) hbe⟩
end Go.Proofs.Ytlgmeofpkfliaaa
end

section
namespace Go.Proofs.Ytlgmeofpkfliaaa.glassHigher
open Go.ChangeShapes Go.WideShapes Go.ChangeAt Go.RowKit
set_option linter.unusedVariables false

set_option maxRecDepth 100000 in
theorem lifted (os : Os) (started : os.Started) (H : Type) (enc : TypeId × Value → H) :
    ReturnsInHanded {} Try.checked os 8 .any (Rows.glassHigherSpec.pre6 enc Try.prog Try.f8 Rows.glassHigherRow.domain false) (Rows.glassHigherSpec.post enc Try.prog Try.f8 false true false false) := by
  refine returnsInHanded_of_change (C := Try.checked) own started (by kernel_rfl) Try.func8
    (ChangeSpec.witness6 (enc := enc) (C := Try.checked) false ⟨#[], #[.agg #[.int .i64 0, .slice none 0 0, .slice none 0 0, .int .i64 0, .int .i64 0], .slice none 0 0, .slice none 0 0, .int .u8 0, .int .u8 0, .int .i16 0], []⟩ 8 (by kernel_rfl) (by kernel_rfl) (by kernel_rfl) (by kernel_rfl)) ?_
  intro W base args ds gs before hval0 hW hcnd _
  have hval : ∀ (j : Nat) t v, Try.f8.params[j]? = some t → args[j]? = some v → Value.okWide Try.prog W .any base t v := hval0
  have hW0 := hW
  obtain ⟨p, q, hA0, hV, rfl, hfz, hnd⟩ := hW
  have hA : DataW.TrodAll enc Try.prog W 0 (fun _ => true) true Try.f8.params.toList args.toList ds p := hA0
  rw [Try.params8] at hA hval
  obtain ⟨v0, vs0, d0, ds0, p0, q0, ea0, ed0, ep0, h0, hA0⟩ := trodAll_cons hA
  obtain ⟨v1, vs1, d1, ds1, p1, q1, ea1, ed1, ep1, h1, hA1⟩ := trodAll_cons hA0
  obtain ⟨v2, vs2, d2, ds2, p2, q2, ea2, ed2, ep2, h2, hA2⟩ := trodAll_cons hA1
  obtain ⟨v3, vs3, d3, ds3, p3, q3, ea3, ed3, ep3, h3, hA3⟩ := trodAll_cons hA2
  obtain ⟨v4, vs4, d4, ds4, p4, q4, ea4, ed4, ep4, h4, hA4⟩ := trodAll_cons hA3
  obtain ⟨v5, vs5, d5, ds5, p5, q5, ea5, ed5, ep5, h5, hA5⟩ := trodAll_cons hA4
  obtain ⟨ea, ed, ep⟩ := trodAll_nil hA5
  have eargs : args = #[v0, v1, v2, v3, v4, v5] := by rw [← Array.toArray_toList (xs := args), ea0, ea1, ea2, ea3, ea4, ea5, ea]
  have eds : ds = [d0, d1, d2, d3, d4, d5] := by rw [ed0, ed1, ed2, ed3, ed4, ed5, ed]
  subst eargs eds
  obtain ⟨rfl, rfl⟩ := trodVars_none hV
  obtain ⟨g, Ab, Ad, cb, cd, rfl, _, hg⟩ := open_glass (hval 0 _ _ rfl rfl) h0
  obtain ⟨Ah, h, ch, rfl, _, _, hh⟩ := open_rgs (hval 1 _ _ rfl rfl) h1
  obtain ⟨Aw, ws, cw, rfl, hwl, hw, hwb⟩ := open_words (hval 2 _ _ rfl rfl) h2
  obtain ⟨m3, rfl, hm3⟩ := open_int Try.underlying5 (hval 3 _ _ rfl rfl) h3
  obtain ⟨m4, rfl, hm4⟩ := open_int Try.underlying5 (hval 4 _ _ rfl rfl) h4
  obtain ⟨m5, rfl, hm5⟩ := open_int Try.underlying69 (hval 5 _ _ rfl rfl) h5
  refine (HigherLaw_any g Ab Ad Ah Aw cb cd ch cw h ws W hg hh hw hwb hwl m3 m4 m5 (wf_u8 hm3) (wf_u8 hm4) (wf_i16 hm5)).mono fun e W' he => ?_
  obtain ⟨rfl, hb⟩ := he
  exact ⟨_, rfl, post_law rfl hW0 rfl rfl ⟨⟨by kernel_rfl, of_decide_eq_true (by kernel_rfl)⟩, ⟨by kernel_rfl, of_decide_eq_true (by kernel_rfl)⟩, ⟨by kernel_rfl, of_decide_eq_true (by kernel_rfl)⟩, ⟨by kernel_rfl, of_decide_eq_true (by kernel_rfl)⟩, ⟨by kernel_rfl, of_decide_eq_true (by kernel_rfl)⟩, ⟨by kernel_rfl, of_decide_eq_true (by kernel_rfl)⟩, trivial⟩ hb⟩

theorem over : Rows.glassHigherRow.holds Try.pinned (OpenSpec.ofChange Rows.glassHigherSpec) :=
  OpenClaim.holds_of_wide 8 Try.f8 rfl rfl rfl rfl rfl rfl rfl ⟨rfl, rfl, rfl, rfl, rfl⟩ rfl rfl rfl rfl rfl (by kernel_rfl) Try.func8 (by kernel_rfl)
    (of_decide_eq_true (by kernel_rfl)) (by unfold Func.isWrapper; first | (rw [if_pos (by decide +kernel)]; kernel_rfl) | (rw [if_neg (by decide +kernel)]; exact ⟨rfl, rfl⟩))
    (fun os started H enc _ => lifted os started H enc)

/-- the statement. -/
theorem proved : Rows.GlassHigherSaid :=
  over
#print axioms proved
end Go.Proofs.Ytlgmeofpkfliaaa.glassHigher
end
