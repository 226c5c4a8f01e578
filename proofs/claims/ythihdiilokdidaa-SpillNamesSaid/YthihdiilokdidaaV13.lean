/- Spill's laws: SpillNames (walk). -/
import Derived.Test.YthihdiilokdidaaV12
import Derived.Test.YthihdiilokdidaaV11
set_option linter.unusedVariables false
set_option linter.unusedSimpArgs false
set_option linter.unusedSectionVars false
section
namespace Go.Proofs.Ythihdiilokdidaa
open Go.RowKit
attribute [local go_sem] Ex.cell? Ex.frozen?

theorem sl_2 {W : World} {g : Nat} {t : TypeId} {a b : Value} {f : Nat → Nat → Value} (h : Blk W g t #[a, b]) (h0 : f 0 0 = a) (h1 : f 1 0 = b) : SlAt W W.heap.size 1 (some ⟨g, 0, none⟩) 2 f :=
 blk_sl h fun k j hk hj => by
  obtain rfl : j = 0 := by omega
  match k, hk with
  | 0, _ => rw [h0]; rfl
  | 1, _ => rw [h1]; rfl
theorem sl_3 {W : World} {g : Nat} {t : TypeId} {a b c : Value} {f : Nat → Nat → Value} (h : Blk W g t #[a, b, c]) (h0 : f 0 0 = a) (h1 : f 1 0 = b) (h2 : f 2 0 = c) : SlAt W W.heap.size 1 (some ⟨g, 0, none⟩) 3 f :=
 blk_sl h fun k j hk hj => by
  obtain rfl : j = 0 := by omega
  match k, hk with
  | 0, _ => rw [h0]; rfl
  | 1, _ => rw [h1]; rfl
  | 2, _ => rw [h2]; rfl
set_option maxRecDepth 100000 in
set_option maxHeartbeats 12800000 in
theorem NamesLaw_any (w : World) :
  Calls Try.prog 14 #[] w fun e w' => e = .returned (.bool true) ∧ Below w.heap.size w w' := by
 have B_w := Below.refl w.heap.size w
 go_enter Try.func14, Try.ntmps14
 go_upto_region 2 with fail
 have hV0 := ex_alloc (ex_alloc (ex_alloc (ex_alloc (ex_alloc (ex_alloc (Below.refl w.heap.size w) (.cells #[.int .i64 100, .int .i64 3] 3)) (.cells #[.int .i64 1, .int .i64 1, .int .i64 2] 3)) (.cells #[.int .i64 0, .int .i64 1, .int .i64 0] 3)) (.cells #[.slice (some ⟨w.heap.size + 1, 0, none⟩) 3 3, .slice (some ⟨w.heap.size + 1 + 1, 0, none⟩) 3 3] 28)) (.cells #[.int .i64 42, .int .i64 20, .int .i64 5] 3)) (.cells #[.slice (some ⟨w.heap.size, 0, none⟩) 2 2, .slice (some ⟨w.heap.size + 1 + 1 + 1, 0, none⟩) 2 2, .slice (some ⟨w.heap.size + 1 + 1 + 1 + 1, 0, none⟩) 3 3] 112)
 have g0 : Blk ((((((w.alloc (.cells #[.int .i64 100, .int .i64 3] 3)).alloc (.cells #[.int .i64 1, .int .i64 1, .int .i64 2] 3)).alloc (.cells #[.int .i64 0, .int .i64 1, .int .i64 0] 3)).alloc (.cells #[.slice (some ⟨w.heap.size + 1, 0, none⟩) 3 3, .slice (some ⟨w.heap.size + 1 + 1, 0, none⟩) 3 3] 28)).alloc (.cells #[.int .i64 42, .int .i64 20, .int .i64 5] 3)).alloc (.cells #[.slice (some ⟨w.heap.size, 0, none⟩) 2 2, .slice (some ⟨w.heap.size + 1 + 1 + 1, 0, none⟩) 2 2, .slice (some ⟨w.heap.size + 1 + 1 + 1 + 1, 0, none⟩) 3 3] 112)) (w.heap.size) 3 #[.int .i64 100, .int .i64 3] := (((((Blk.new' _ _ _ rfl).alloc _).alloc _).alloc _).alloc _).alloc _
 have g1 : Blk ((((((w.alloc (.cells #[.int .i64 100, .int .i64 3] 3)).alloc (.cells #[.int .i64 1, .int .i64 1, .int .i64 2] 3)).alloc (.cells #[.int .i64 0, .int .i64 1, .int .i64 0] 3)).alloc (.cells #[.slice (some ⟨w.heap.size + 1, 0, none⟩) 3 3, .slice (some ⟨w.heap.size + 1 + 1, 0, none⟩) 3 3] 28)).alloc (.cells #[.int .i64 42, .int .i64 20, .int .i64 5] 3)).alloc (.cells #[.slice (some ⟨w.heap.size, 0, none⟩) 2 2, .slice (some ⟨w.heap.size + 1 + 1 + 1, 0, none⟩) 2 2, .slice (some ⟨w.heap.size + 1 + 1 + 1 + 1, 0, none⟩) 3 3] 112)) (w.heap.size + 1) 3 #[.int .i64 1, .int .i64 1, .int .i64 2] := ((((Blk.new' _ _ _ (by simp)).alloc _).alloc _).alloc _).alloc _
 have g2 : Blk ((((((w.alloc (.cells #[.int .i64 100, .int .i64 3] 3)).alloc (.cells #[.int .i64 1, .int .i64 1, .int .i64 2] 3)).alloc (.cells #[.int .i64 0, .int .i64 1, .int .i64 0] 3)).alloc (.cells #[.slice (some ⟨w.heap.size + 1, 0, none⟩) 3 3, .slice (some ⟨w.heap.size + 1 + 1, 0, none⟩) 3 3] 28)).alloc (.cells #[.int .i64 42, .int .i64 20, .int .i64 5] 3)).alloc (.cells #[.slice (some ⟨w.heap.size, 0, none⟩) 2 2, .slice (some ⟨w.heap.size + 1 + 1 + 1, 0, none⟩) 2 2, .slice (some ⟨w.heap.size + 1 + 1 + 1 + 1, 0, none⟩) 3 3] 112)) (w.heap.size + 1 + 1) 3 #[.int .i64 0, .int .i64 1, .int .i64 0] := (((Blk.new' _ _ _ (by simp)).alloc _).alloc _).alloc _
 have g3 : Blk ((((((w.alloc (.cells #[.int .i64 100, .int .i64 3] 3)).alloc (.cells #[.int .i64 1, .int .i64 1, .int .i64 2] 3)).alloc (.cells #[.int .i64 0, .int .i64 1, .int .i64 0] 3)).alloc (.cells #[.slice (some ⟨w.heap.size + 1, 0, none⟩) 3 3, .slice (some ⟨w.heap.size + 1 + 1, 0, none⟩) 3 3] 28)).alloc (.cells #[.int .i64 42, .int .i64 20, .int .i64 5] 3)).alloc (.cells #[.slice (some ⟨w.heap.size, 0, none⟩) 2 2, .slice (some ⟨w.heap.size + 1 + 1 + 1, 0, none⟩) 2 2, .slice (some ⟨w.heap.size + 1 + 1 + 1 + 1, 0, none⟩) 3 3] 112)) (w.heap.size + 1 + 1 + 1) 28 #[.slice (some ⟨w.heap.size + 1, 0, none⟩) 3 3, .slice (some ⟨w.heap.size + 1 + 1, 0, none⟩) 3 3] := ((Blk.new' _ _ _ (by simp)).alloc _).alloc _
 have g4 : Blk ((((((w.alloc (.cells #[.int .i64 100, .int .i64 3] 3)).alloc (.cells #[.int .i64 1, .int .i64 1, .int .i64 2] 3)).alloc (.cells #[.int .i64 0, .int .i64 1, .int .i64 0] 3)).alloc (.cells #[.slice (some ⟨w.heap.size + 1, 0, none⟩) 3 3, .slice (some ⟨w.heap.size + 1 + 1, 0, none⟩) 3 3] 28)).alloc (.cells #[.int .i64 42, .int .i64 20, .int .i64 5] 3)).alloc (.cells #[.slice (some ⟨w.heap.size, 0, none⟩) 2 2, .slice (some ⟨w.heap.size + 1 + 1 + 1, 0, none⟩) 2 2, .slice (some ⟨w.heap.size + 1 + 1 + 1 + 1, 0, none⟩) 3 3] 112)) (w.heap.size + 1 + 1 + 1 + 1) 3 #[.int .i64 42, .int .i64 20, .int .i64 5] := (Blk.new' _ _ _ (by simp)).alloc _
 have gt : Blk ((((((w.alloc (.cells #[.int .i64 100, .int .i64 3] 3)).alloc (.cells #[.int .i64 1, .int .i64 1, .int .i64 2] 3)).alloc (.cells #[.int .i64 0, .int .i64 1, .int .i64 0] 3)).alloc (.cells #[.slice (some ⟨w.heap.size + 1, 0, none⟩) 3 3, .slice (some ⟨w.heap.size + 1 + 1, 0, none⟩) 3 3] 28)).alloc (.cells #[.int .i64 42, .int .i64 20, .int .i64 5] 3)).alloc (.cells #[.slice (some ⟨w.heap.size, 0, none⟩) 2 2, .slice (some ⟨w.heap.size + 1 + 1 + 1, 0, none⟩) 2 2, .slice (some ⟨w.heap.size + 1 + 1 + 1 + 1, 0, none⟩) 3 3] 112)) (w.heap.size + 1 + 1 + 1 + 1 + 1) 112 #[.slice (some ⟨w.heap.size, 0, none⟩) 2 2, .slice (some ⟨w.heap.size + 1 + 1 + 1, 0, none⟩) 2 2, .slice (some ⟨w.heap.size + 1 + 1 + 1 + 1, 0, none⟩) 3 3] := Blk.new' _ _ _ (by simp)
 generalize ((((((w.alloc (.cells #[.int .i64 100, .int .i64 3] 3)).alloc (.cells #[.int .i64 1, .int .i64 1, .int .i64 2] 3)).alloc (.cells #[.int .i64 0, .int .i64 1, .int .i64 0] 3)).alloc (.cells #[.slice (some ⟨w.heap.size + 1, 0, none⟩) 3 3, .slice (some ⟨w.heap.size + 1 + 1, 0, none⟩) 3 3] 28)).alloc (.cells #[.int .i64 42, .int .i64 20, .int .i64 5] 3)).alloc (.cells #[.slice (some ⟨w.heap.size, 0, none⟩) 2 2, .slice (some ⟨w.heap.size + 1 + 1 + 1, 0, none⟩) 2 2, .slice (some ⟨w.heap.size + 1 + 1 + 1 + 1, 0, none⟩) 3 3] 112)) = V0 at *
 obtain ⟨p0, hp0⟩ : ∃ p, w.heap.size = p := ⟨_, rfl⟩
 rw [hp0] at g0 g1 g2 g3 g4 gt ⊢
 have yp0 : w.heap.size ≤ p0 := Nat.le_of_eq hp0
 clear hp0
 have B_V0 := ex_trans B_w hV0
 obtain ⟨p1, hp1⟩ : ∃ q, p0 + 1 = q := ⟨_, rfl⟩
 simp only [hp1] at g0 g1 g2 g3 g4 gt ⊢
 obtain ⟨p2, hp2⟩ : ∃ q, p1 + 1 = q := ⟨_, rfl⟩
 simp only [hp2] at g0 g1 g2 g3 g4 gt ⊢
 obtain ⟨p3, hp3⟩ : ∃ q, p2 + 1 = q := ⟨_, rfl⟩
 simp only [hp3] at g0 g1 g2 g3 g4 gt ⊢
 obtain ⟨p4, hp4⟩ : ∃ q, p3 + 1 = q := ⟨_, rfl⟩
 simp only [hp4] at g0 g1 g2 g3 g4 gt ⊢
 obtain ⟨p5, hp5⟩ : ∃ q, p4 + 1 = q := ⟨_, rfl⟩
 simp only [hp5] at g0 g1 g2 g3 g4 gt ⊢
 have hpo : p0 < p1 ∧ p1 < p2 ∧ p2 < p3 ∧ p3 < p4 ∧ p4 < p5 := by omega
 clear hp1 hp2 hp3 hp4 hp5
 have HSMT : ∀ g, SmT (namT g) := fun g => ⟨by show 2 ≤ _; omega, by show 2 ≤ _; omega, by show 3 ≤ _; omega, fun k hk => (match k, hk with | 0, _ => by show 3 ≤ _; omega | 1, _ => by show 3 ≤ _; omega)⟩
 have s0 := sl_2 (f := fI [100, 3]) g0 rfl rfl
 have s1 := sl_3 (f := fI [1, 1, 2]) g1 rfl rfl rfl
 have s2 := sl_3 (f := fI [0, 1, 0]) g2 rfl rfl rfl
 have s4 := sl_3 (f := fI [42, 20, 5]) g4 rfl rfl rfl
 have s3 := sl_2 (f := fun k _ => .slice (some ⟨[p1, p2].getD k 0, 0, none⟩) (gL (namT 20).vs k).length 3) g3 rfl rfl
 have ht : TtIn V0 V0.heap.size (namT 20) (some ⟨p0, 0, none⟩) (some ⟨p3, 0, none⟩) (some ⟨p4, 0, none⟩) (fun k => some ⟨[p1, p2].getD k 0, 0, none⟩) (fun _ => 3) := ⟨s0, s3, fun k hk => (match k, hk with | 0, _ => s1 | 1, _ => s2), s4⟩
 clear s0 s1 s2 s3 s4
 have t0 : V0.cell? ⟨p5, 0, none⟩ = some (.slice (some ⟨p0, 0, none⟩) 2 2) := gt.cell 0
 have t1 : V0.cell? ⟨p5, 1, none⟩ = some (.slice (some ⟨p3, 0, none⟩) 2 2) := gt.cell 1
 have t2 : V0.cell? ⟨p5, 2, none⟩ = some (.slice (some ⟨p4, 0, none⟩) 3 3) := gt.cell 2
 have lt5 := gt.lt
 refine wp_region_ext_mix 9 [(false, 1), (true, 0), (true, 2), (false, 3), (false, 4), (false, 5), (false, 6), (false, 7), (false, 8)] (by kernel_rfl) (by kernel_rfl) (by intro d _ _ _ _ h; cases d <;> exact h) ?_
 have D_V0 := (Below.refl V0.heap.size V0).drew
 repeat (refine mix_quiet rfl ?_; go_big_quiet_step (fail); refine wpQuiet_nil ?_)
 obtain ⟨V1, hV1⟩ : ∃ Wd, V0.drew = Wd := ⟨_, rfl⟩
 rw [hV1] at D_V0 ⊢
 clear hV1
 clear t0 t1 t2 lt5
 replace g0 := g0.below D_V0 g0.lt
 replace g1 := g1.below D_V0 g1.lt
 replace g2 := g2.below D_V0 g2.lt
 replace g3 := g3.below D_V0 g3.lt
 replace g4 := g4.below D_V0 g4.lt
 replace gt := gt.below D_V0 gt.lt
 replace ht := ht.go D_V0
 have B_V1 := ex_trans B_V0 D_V0
 refine mix_loud rfl ?_
 go_wp2_with fail
 refine (cellar_any 22 24 V1).mono ?_
 rintro e V2 ⟨⟨Ar2, Am2, Aw2, cr2, cm2, cw2, rfl, hs2⟩, hV2⟩
 replace g0 := g0.below hV2 g0.lt
 replace g1 := g1.below hV2 g1.lt
 replace g2 := g2.below hV2 g2.lt
 replace g3 := g3.below hV2 g3.lt
 replace g4 := g4.below hV2 g4.lt
 replace gt := gt.below hV2 gt.lt
 replace ht := ht.go hV2
 have B_V2 := ex_trans B_V1 hV2
 have X_V2 := ex_trans D_V0 hV2
 go_wp2_with fail
 refine ⟨inEx X_V2, ?_⟩
 repeat (refine mix_quiet rfl ?_; go_big_quiet_step (fail); refine wpQuiet_nil ?_)
 refine mix_loud rfl ?_
 go_wp2_with fail
 refine (play_any (cellS 22 24) Ar2 Am2 Aw2 cr2 cm2 cw2 V2 hs2 (namT 20) (some ⟨p0, 0, none⟩) (some ⟨p3, 0, none⟩) (some ⟨p4, 0, none⟩) 2 2 3 (fun k => some ⟨[p1, p2].getD k 0, 0, none⟩) (fun _ => 3) ht (HSMT 20) ⟨by show 2 ≤ _; omega, by show 3 ≤ _; omega⟩).mono ?_
 rintro e V3 ⟨⟨np, AP, cp, rP, rcP, rfl, hpv⟩, hV3⟩
 replace g0 := g0.below hV3 g0.lt
 replace g1 := g1.below hV3 g1.lt
 replace g2 := g2.below hV3 g2.lt
 replace g3 := g3.below hV3 g3.lt
 replace g4 := g4.below hV3 g4.lt
 replace gt := gt.below hV3 gt.lt
 replace ht := ht.go hV3
 replace hs2 := hs2.go hV3
 have B_V3 := ex_trans B_V2 hV3
 have X_V3 := ex_trans X_V2 hV3
 clear hs2
 obtain ⟨hnp, hP⟩ := hpv.yes (nam_playE (by decide))
 have hnp' : np = 2 := hnp
 subst hnp'
 clear hnp hpv
 rw [nam_playE (by decide), nam_playB (by decide)]
 go_wp2_with fail
 refine ⟨inEx X_V3, ?_⟩
 repeat (refine mix_quiet rfl ?_; go_big_quiet_step (fail); refine wpQuiet_nil ?_)
 refine mix_nil (r := [_]) rfl ?_
 go_upto_region 4 with fail
 have hV4 := ex_alloc (ex_alloc (ex_alloc (Below.refl V3.heap.size V3) (.cells #[.int .i64 100, .int .i64 2] 3)) (.cells #[.int .i64 42, .int .i64 20, .int .i64 5] 3)) (.cells #[.slice (some ⟨V3.heap.size, 0, none⟩) 2 2, .slice (some ⟨V3.heap.size + 1, 0, none⟩) 3 3] 99)
 have b0 : Blk (((V3.alloc (.cells #[.int .i64 100, .int .i64 2] 3)).alloc (.cells #[.int .i64 42, .int .i64 20, .int .i64 5] 3)).alloc (.cells #[.slice (some ⟨V3.heap.size, 0, none⟩) 2 2, .slice (some ⟨V3.heap.size + 1, 0, none⟩) 3 3] 99)) (V3.heap.size) 3 #[.int .i64 100, .int .i64 2] := ((Blk.new' _ _ _ rfl).alloc _).alloc _
 have b1 : Blk (((V3.alloc (.cells #[.int .i64 100, .int .i64 2] 3)).alloc (.cells #[.int .i64 42, .int .i64 20, .int .i64 5] 3)).alloc (.cells #[.slice (some ⟨V3.heap.size, 0, none⟩) 2 2, .slice (some ⟨V3.heap.size + 1, 0, none⟩) 3 3] 99)) (V3.heap.size + 1) 3 #[.int .i64 42, .int .i64 20, .int .i64 5] := (Blk.new' _ _ _ (by simp)).alloc _
 have bb : Blk (((V3.alloc (.cells #[.int .i64 100, .int .i64 2] 3)).alloc (.cells #[.int .i64 42, .int .i64 20, .int .i64 5] 3)).alloc (.cells #[.slice (some ⟨V3.heap.size, 0, none⟩) 2 2, .slice (some ⟨V3.heap.size + 1, 0, none⟩) 3 3] 99)) (V3.heap.size + 1 + 1) 99 #[.slice (some ⟨V3.heap.size, 0, none⟩) 2 2, .slice (some ⟨V3.heap.size + 1, 0, none⟩) 3 3] := Blk.new' _ _ _ (by simp)
 generalize (((V3.alloc (.cells #[.int .i64 100, .int .i64 2] 3)).alloc (.cells #[.int .i64 42, .int .i64 20, .int .i64 5] 3)).alloc (.cells #[.slice (some ⟨V3.heap.size, 0, none⟩) 2 2, .slice (some ⟨V3.heap.size + 1, 0, none⟩) 3 3] 99)) = V4 at *
 obtain ⟨q0, hq0⟩ : ∃ p, V3.heap.size = p := ⟨_, rfl⟩
 rw [hq0] at b0 b1 bb ⊢
 have hpq : p5 < q0 := by have := gt.lt; omega
 clear hq0
 replace g0 := g0.below hV4 g0.lt
 replace g1 := g1.below hV4 g1.lt
 replace g2 := g2.below hV4 g2.lt
 replace g3 := g3.below hV4 g3.lt
 replace g4 := g4.below hV4 g4.lt
 replace gt := gt.below hV4 gt.lt
 replace ht := ht.go hV4
 replace hP := hP.go hV4
 have B_V4 := ex_trans B_V3 hV4
 obtain ⟨q1, hq1⟩ : ∃ q, q0 + 1 = q := ⟨_, rfl⟩
 simp only [hq1] at b0 b1 bb ⊢
 obtain ⟨q2, hq2⟩ : ∃ q, q1 + 1 = q := ⟨_, rfl⟩
 simp only [hq2] at b0 b1 bb ⊢
 have hqo : q0 < q1 ∧ q1 < q2 := by omega
 clear hq1 hq2
 have s0 := sl_2 (f := fI [100, 2]) b0 rfl rfl
 have s1 := sl_3 (f := fI [42, 20, 5]) b1 rfl rfl rfl
 refine wp_cut (fun a W => Rel (fun a W => ∃ pm, Below V4.heap.size V4 W ∧ Blk W pm 50 #[.int .i64 0, .int .i64 7] ∧ ∃ u : Nat → Value, a = ⟨List.toArray (u 0 :: .pointer (some ⟨p5, 0, none⟩) :: .slice AP 2 cp :: .bool true :: .int .i64 0 :: .pointer (some ⟨q2, 0, none⟩) :: .pointer (some ⟨pm, 0, none⟩) :: .int .i64 0 :: u 8 :: u 9 :: u 10 :: u 11 :: u 12 :: u 13 :: u 14 :: u 15 :: u 16 :: u 17 :: u 18 :: u 19 :: u 20 :: u 21 :: u 22 :: u 23 :: u 24 :: u 25 :: u 26 :: u 27 :: u 28 :: u 29 :: u 30 :: u 31 :: u 32 :: u 33 :: u 34 :: u 35 :: u 36 :: u 37 :: u 38 :: u 39 :: u 40 :: u 41 :: u 42 :: u 43 :: u 44 :: u 45 :: u 46 :: u 47 :: u 48 :: u 49 :: u 50 :: u 51 :: u 52 :: u 53 :: u 54 :: u 55 :: u 56 :: u 57 :: u 58 :: u 59 :: u 60 :: u 61 :: u 62 :: u 63 :: u 64 :: u 65 :: u 66 :: u 67 :: u 68 :: u 69 :: u 70 :: u 71 :: u 72 :: u 73 :: u 74 :: u 75 :: u 76 :: u 77 :: u 78 :: u 79 :: u 80 :: u 81 :: u 82 :: u 83 :: u 84 :: u 85 :: u 86 :: u 87 :: u 88 :: u 89 :: u 90 :: u 91 :: u 92 :: u 93 :: u 94 :: u 95 :: u 96 :: u 97 :: u 98 :: u 99 :: u 100 :: u 101 :: u 102 :: u 103 :: u 104 :: u 105 :: u 106 :: u 107 :: u 108 :: u 109 :: u 110 :: u 111 :: u 112 :: u 113 :: u 114 :: u 115 :: u 116 :: u 117 :: u 118 :: u 119 :: u 120 :: u 121 :: u 122 :: u 123 :: u 124 :: u 125 :: u 126 :: u 127 :: u 128 :: u 129 :: u 130 :: u 131 :: u 132 :: u 133 :: u 134 :: u 135 :: u 136 :: u 137 :: u 138 :: u 139 :: u 140 :: u 141 :: u 142 :: u 143 :: u 144 :: u 145 :: u 146 :: u 147 :: u 148 :: u 149 :: u 150 :: u 151 :: u 152 :: u 153 :: u 154 :: u 155 :: u 156 :: u 157 :: u 158 :: u 159 :: u 160 :: u 161 :: u 162 :: u 163 :: u 164 :: u 165 :: u 166 :: u 167 :: u 168 :: u 169 :: u 170 :: u 171 :: u 172 :: u 173 :: u 174 :: u 175 :: u 176 :: u 177 :: u 178 :: u 179 :: u 180 :: u 181 :: u 182 :: u 183 :: u 184 :: u 185 :: u 186 :: u 187 :: u 188 :: u 189 :: u 190 :: u 191 :: u 192 :: u 193 :: u 194 :: u 195 :: u 196 :: u 197 :: u 198 :: u 199 :: u 200 :: u 201 :: u 202 :: u 203 :: u 204 :: u 205 :: u 206 :: u 207 :: u 208 :: u 209 :: u 210 :: u 211 :: u 212 :: u 213 :: u 214 :: u 215 :: u 216 :: u 217 :: u 218 :: u 219 :: u 220 :: u 221 :: u 222 :: u 223 :: u 224 :: u 225 :: u 226 :: u 227 :: u 228 :: u 229 :: u 230 :: u 231 :: u 232 :: u 233 :: u 234 :: u 235 :: u 236 :: u 237 :: u 238 :: u 239 :: u 240 :: u 241 :: u 242 :: u 243 :: u 244 :: u 245 :: u 246 :: u 247 :: u 248 :: u 249 :: u 250 :: u 251 :: u 252 :: u 253 :: u 254 :: u 255 :: u 256 :: u 257 :: u 258 :: u 259 :: u 260 :: u 261 :: u 262 :: u 263 :: u 264 :: u 265 :: u 266 :: u 267 :: u 268 :: u 269 :: u 270 :: u 271 :: u 272 :: u 273 :: u 274 :: u 275 :: u 276 :: u 277 :: u 278 :: u 279 :: u 280 :: u 281 :: u 282 :: u 283 :: u 284 :: u 285 :: []), []⟩) a W) ?_ ?_
 rotate_left
 ·
  intro J K' hJ hK
  have u0 : V4.cell? ⟨q2, 0, none⟩ = some (.slice (some ⟨q0, 0, none⟩) 2 2) := bb.cell 0
  have u1 : V4.cell? ⟨q2, 1, none⟩ = some (.slice (some ⟨q1, 0, none⟩) 3 3) := bb.cell 1
  have lq2 := bb.lt
  go_wp2_with fail
  have D3 := (Below.refl V4.heap.size V4).drew
  refine wp_region_ext_tqF 8 (.quiet 1 (.fork 0 (.fork 2 (.quiet 3 (.quiet 4 (.quiet 5 (.loud 6 (.loud 7 .done))))) 6 (.loud 2 (.quiet 3 (.quiet 4 (.quiet 5 (.loud 7 .done)))))) 6 (.loud 0 (.loud 2 (.quiet 3 (.quiet 4 (.quiet 5 (.loud 7 .done)))))))) (by kernel_rfl) (by kernel_rfl) (by intro d _ _ _ _ h; cases d <;> exact h) ?_
  repeat (refine tq_quiet rfl ?_; go_big_quiet_step (fail); refine wpQuiet_nil ?_)
  obtain ⟨Y4, hY⟩ : ∃ Y, V4.drew = Y := ⟨_, rfl⟩
  rw [hY] at D3 ⊢
  clear hY
  clear u0 u1 lq2
  replace g0 := g0.below D3 g0.lt
  replace g1 := g1.below D3 g1.lt
  replace g2 := g2.below D3 g2.lt
  replace g3 := g3.below D3 g3.lt
  replace g4 := g4.below D3 g4.lt
  replace gt := gt.below D3 gt.lt
  replace ht := ht.go D3
  replace hP := hP.go D3
  replace b0 := b0.below D3 b0.lt
  replace b1 := b1.below D3 b1.lt
  replace s0 := (s0.below D3).up D3.size
  replace s1 := (s1.below D3).up D3.size
  replace bb := bb.below D3 bb.lt
  have B_Y4 := ex_trans B_V4 D3
  refine tq_fork rfl rfl ?_ ?_
  ·
   go_wp2_with fail
   refine (cellar_any 22 24 Y4).mono ?_
   rintro e C4 ⟨⟨Ar9, Am9, Aw9, cr9, cm9, cw9, rfl, hs9⟩, hC4⟩
   replace g0 := g0.below hC4 g0.lt
   replace g1 := g1.below hC4 g1.lt
   replace g2 := g2.below hC4 g2.lt
   replace g3 := g3.below hC4 g3.lt
   replace g4 := g4.below hC4 g4.lt
   replace gt := gt.below hC4 gt.lt
   replace ht := ht.go hC4
   replace hP := hP.go hC4
   replace b0 := b0.below hC4 b0.lt
   replace b1 := b1.below hC4 b1.lt
   replace s0 := (s0.below hC4).up hC4.size
   replace s1 := (s1.below hC4).up hC4.size
   replace bb := bb.below hC4 bb.lt
   have B_C4 := ex_trans B_Y4 hC4
   have X_C4 := ex_trans D3 hC4
   go_wp2_with fail
   refine ⟨inEx X_C4, ?_⟩
   repeat (refine tq_quiet rfl ?_; go_big_quiet_step (fail); refine wpQuiet_nil ?_)
   refine tq_fork rfl rfl ?_ ?_
   ·
    go_wp2_with fail
    refine (Missing_any (cellS 22 24) Ar9 Am9 Aw9 cr9 cm9 cw9 C4 hs9 namB (some ⟨q0, 0, none⟩) (some ⟨q1, 0, none⟩) 2 3 s0 s1 ⟨by show 2 ≤ _; omega, by show 3 ≤ _; omega⟩ ⟨by show 2 ≤ _; omega, by show 3 ≤ _; omega⟩ 0 1).mono ?_
    rintro e M4 ⟨rfl, hM4⟩
    replace g0 := g0.below hM4 g0.lt
    replace g1 := g1.below hM4 g1.lt
    replace g2 := g2.below hM4 g2.lt
    replace g3 := g3.below hM4 g3.lt
    replace g4 := g4.below hM4 g4.lt
    replace gt := gt.below hM4 gt.lt
    replace ht := ht.go hM4
    replace hP := hP.go hM4
    replace b0 := b0.below hM4 b0.lt
    replace b1 := b1.below hM4 b1.lt
    replace s0 := (s0.below hM4).up hM4.size
    replace s1 := (s1.below hM4).up hM4.size
    replace bb := bb.below hM4 bb.lt
    replace hs9 := hs9.go hM4
    have B_M4 := ex_trans B_C4 hM4
    have X_M4 := ex_trans X_C4 hM4
    rw [nam_mis.1, nam_mis.2]
    go_wp2_with fail
    refine ⟨inEx X_M4, ?_⟩
    repeat (refine tq_quiet rfl ?_; go_big_quiet_step (fail); refine wpQuiet_nil ?_)
    refine tq_loud rfl ?_
    have NA := ex_alloc (Below.refl M4.heap.size M4) (.cells #[.int .i64 0, .int .i64 0] 50)
    have qm : Blk (M4.alloc (.cells #[.int .i64 0, .int .i64 0] 50)) M4.heap.size 50 #[.int .i64 0, .int .i64 0] := Blk.new _ _ _
    have hpg : V4.heap.size ≤ M4.heap.size := X_M4.size
    go_wp2_with fail
    replace g0 := g0.below NA g0.lt
    replace g1 := g1.below NA g1.lt
    replace g2 := g2.below NA g2.lt
    replace g3 := g3.below NA g3.lt
    replace g4 := g4.below NA g4.lt
    replace gt := gt.below NA gt.lt
    replace ht := ht.go NA
    replace hP := hP.go NA
    replace b0 := b0.below NA b0.lt
    replace b1 := b1.below NA b1.lt
    replace s0 := (s0.below NA).up NA.size
    replace s1 := (s1.below NA).up NA.size
    replace bb := bb.below NA bb.lt
    replace hs9 := hs9.go NA
    have B_A4 := ex_trans B_M4 NA
    have X_A4 := ex_trans X_M4 NA
    obtain ⟨pm, hpm⟩ : ∃ p, M4.heap.size = p := ⟨_, rfl⟩
    rw [hpm] at qm hpg ⊢
    clear NA hpm
    generalize M4.alloc (.cells #[.int .i64 0, .int .i64 0] 50) = A4 at *
    refine ⟨inEx X_A4, ?_⟩
    repeat (refine tq_quiet rfl ?_; go_big_quiet_step (fail); refine wpQuiet_nil ?_)
    have y0 : A4.cell? ⟨pm, 0, none⟩ = some (.int .i64 0) := qm.cell 0
    have y1 : A4.cell? ⟨pm, 1, none⟩ = some (.int .i64 0) := qm.cell 1
    have ly := qm.lt
    have fy := qm.frozen0
    have qn := (qm.set_ 0 (.int .i64 0)).set_ 1 (.int .i64 7)
    simp only [List.setIfInBounds_toArray, List.set_cons_zero, List.set_cons_succ] at qn
    have Bf := ex_set (ex_set X_A4 (p := ⟨pm, 0, none⟩) (by show V4.heap.size ≤ pm; omega) (.int .i64 0)) (p := ⟨pm, 1, none⟩) (by show V4.heap.size ≤ pm; omega) (.int .i64 7)
    refine tq_loud rfl ?_
    go_wp2_with fail
    refine ⟨inEx Bf, ?_⟩
    repeat (refine tq_quiet rfl ?_; go_big_quiet_step (fail); refine wpQuiet_nil ?_)
    refine tq_done (r := [_]) rfl ?_
    go_wp2_with fail
    exact Met.intro (hJ _ _ ⟨⟨pm, Bf, qn, exFrame (by kernel_rfl)⟩⟩)
   ·
    have NA := ex_alloc (Below.refl C4.heap.size C4) (.cells #[.int .i64 0, .int .i64 0] 50)
    have qm : Blk (C4.alloc (.cells #[.int .i64 0, .int .i64 0] 50)) C4.heap.size 50 #[.int .i64 0, .int .i64 0] := Blk.new _ _ _
    have hpg : V4.heap.size ≤ C4.heap.size := X_C4.size
    go_wp2_with fail
    replace g0 := g0.below NA g0.lt
    replace g1 := g1.below NA g1.lt
    replace g2 := g2.below NA g2.lt
    replace g3 := g3.below NA g3.lt
    replace g4 := g4.below NA g4.lt
    replace gt := gt.below NA gt.lt
    replace ht := ht.go NA
    replace hP := hP.go NA
    replace b0 := b0.below NA b0.lt
    replace b1 := b1.below NA b1.lt
    replace s0 := (s0.below NA).up NA.size
    replace s1 := (s1.below NA).up NA.size
    replace bb := bb.below NA bb.lt
    replace hs9 := hs9.go NA
    have B_A4 := ex_trans B_C4 NA
    have X_A4 := ex_trans X_C4 NA
    obtain ⟨pm, hpm⟩ : ∃ p, C4.heap.size = p := ⟨_, rfl⟩
    rw [hpm] at qm hpg ⊢
    clear NA hpm
    generalize C4.alloc (.cells #[.int .i64 0, .int .i64 0] 50) = A4 at *
    refine ⟨inEx X_A4, ?_⟩
    repeat (refine tq_quiet rfl ?_; go_big_quiet_step (fail); refine wpQuiet_nil ?_)
    refine tq_loud rfl ?_
    go_wp2_with fail
    refine (Missing_any (cellS 22 24) Ar9 Am9 Aw9 cr9 cm9 cw9 A4 hs9 namB (some ⟨q0, 0, none⟩) (some ⟨q1, 0, none⟩) 2 3 s0 s1 ⟨by show 2 ≤ _; omega, by show 3 ≤ _; omega⟩ ⟨by show 2 ≤ _; omega, by show 3 ≤ _; omega⟩ 0 1).mono ?_
    rintro e M4 ⟨rfl, hM4⟩
    replace g0 := g0.below hM4 g0.lt
    replace g1 := g1.below hM4 g1.lt
    replace g2 := g2.below hM4 g2.lt
    replace g3 := g3.below hM4 g3.lt
    replace g4 := g4.below hM4 g4.lt
    replace gt := gt.below hM4 gt.lt
    replace ht := ht.go hM4
    replace hP := hP.go hM4
    replace b0 := b0.below hM4 b0.lt
    replace b1 := b1.below hM4 b1.lt
    replace s0 := (s0.below hM4).up hM4.size
    replace s1 := (s1.below hM4).up hM4.size
    replace bb := bb.below hM4 bb.lt
    replace hs9 := hs9.go hM4
    replace qm := qm.below hM4 qm.lt
    have B_M4 := ex_trans B_A4 hM4
    have X_M4 := ex_trans X_A4 hM4
    rw [nam_mis.1, nam_mis.2]
    go_wp2_with fail
    refine ⟨inEx X_M4, ?_⟩
    repeat (refine tq_quiet rfl ?_; go_big_quiet_step (fail); refine wpQuiet_nil ?_)
    have y0 : M4.cell? ⟨pm, 0, none⟩ = some (.int .i64 0) := qm.cell 0
    have y1 : M4.cell? ⟨pm, 1, none⟩ = some (.int .i64 0) := qm.cell 1
    have ly := qm.lt
    have fy := qm.frozen0
    have qn := (qm.set_ 0 (.int .i64 0)).set_ 1 (.int .i64 7)
    simp only [List.setIfInBounds_toArray, List.set_cons_zero, List.set_cons_succ] at qn
    have Bf := ex_set (ex_set X_M4 (p := ⟨pm, 0, none⟩) (by show V4.heap.size ≤ pm; omega) (.int .i64 0)) (p := ⟨pm, 1, none⟩) (by show V4.heap.size ≤ pm; omega) (.int .i64 7)
    refine tq_loud rfl ?_
    go_wp2_with fail
    refine ⟨inEx Bf, ?_⟩
    repeat (refine tq_quiet rfl ?_; go_big_quiet_step (fail); refine wpQuiet_nil ?_)
    refine tq_done (r := [_]) rfl ?_
    go_wp2_with fail
    exact Met.intro (hJ _ _ ⟨⟨pm, Bf, qn, exFrame (by kernel_rfl)⟩⟩)
  ·
   have NA := ex_alloc (Below.refl Y4.heap.size Y4) (.cells #[.int .i64 0, .int .i64 0] 50)
   have qm : Blk (Y4.alloc (.cells #[.int .i64 0, .int .i64 0] 50)) Y4.heap.size 50 #[.int .i64 0, .int .i64 0] := Blk.new _ _ _
   have hpg : V4.heap.size ≤ Y4.heap.size := D3.size
   go_wp2_with fail
   replace g0 := g0.below NA g0.lt
   replace g1 := g1.below NA g1.lt
   replace g2 := g2.below NA g2.lt
   replace g3 := g3.below NA g3.lt
   replace g4 := g4.below NA g4.lt
   replace gt := gt.below NA gt.lt
   replace ht := ht.go NA
   replace hP := hP.go NA
   replace b0 := b0.below NA b0.lt
   replace b1 := b1.below NA b1.lt
   replace s0 := (s0.below NA).up NA.size
   replace s1 := (s1.below NA).up NA.size
   replace bb := bb.below NA bb.lt
   have B_A4 := ex_trans B_Y4 NA
   have X_A4 := ex_trans D3 NA
   obtain ⟨pm, hpm⟩ : ∃ p, Y4.heap.size = p := ⟨_, rfl⟩
   rw [hpm] at qm hpg ⊢
   clear NA hpm
   generalize Y4.alloc (.cells #[.int .i64 0, .int .i64 0] 50) = A4 at *
   refine ⟨inEx X_A4, ?_⟩
   repeat (refine tq_quiet rfl ?_; go_big_quiet_step (fail); refine wpQuiet_nil ?_)
   refine tq_loud rfl ?_
   go_wp2_with fail
   refine (cellar_any 22 24 A4).mono ?_
   rintro e C4 ⟨⟨Ar9, Am9, Aw9, cr9, cm9, cw9, rfl, hs9⟩, hC4⟩
   replace g0 := g0.below hC4 g0.lt
   replace g1 := g1.below hC4 g1.lt
   replace g2 := g2.below hC4 g2.lt
   replace g3 := g3.below hC4 g3.lt
   replace g4 := g4.below hC4 g4.lt
   replace gt := gt.below hC4 gt.lt
   replace ht := ht.go hC4
   replace hP := hP.go hC4
   replace b0 := b0.below hC4 b0.lt
   replace b1 := b1.below hC4 b1.lt
   replace s0 := (s0.below hC4).up hC4.size
   replace s1 := (s1.below hC4).up hC4.size
   replace bb := bb.below hC4 bb.lt
   replace qm := qm.below hC4 qm.lt
   have B_C4 := ex_trans B_A4 hC4
   have X_C4 := ex_trans X_A4 hC4
   go_wp2_with fail
   refine ⟨inEx X_C4, ?_⟩
   repeat (refine tq_quiet rfl ?_; go_big_quiet_step (fail); refine wpQuiet_nil ?_)
   refine tq_loud rfl ?_
   go_wp2_with fail
   refine (Missing_any (cellS 22 24) Ar9 Am9 Aw9 cr9 cm9 cw9 C4 hs9 namB (some ⟨q0, 0, none⟩) (some ⟨q1, 0, none⟩) 2 3 s0 s1 ⟨by show 2 ≤ _; omega, by show 3 ≤ _; omega⟩ ⟨by show 2 ≤ _; omega, by show 3 ≤ _; omega⟩ 0 1).mono ?_
   rintro e M4 ⟨rfl, hM4⟩
   replace g0 := g0.below hM4 g0.lt
   replace g1 := g1.below hM4 g1.lt
   replace g2 := g2.below hM4 g2.lt
   replace g3 := g3.below hM4 g3.lt
   replace g4 := g4.below hM4 g4.lt
   replace gt := gt.below hM4 gt.lt
   replace ht := ht.go hM4
   replace hP := hP.go hM4
   replace b0 := b0.below hM4 b0.lt
   replace b1 := b1.below hM4 b1.lt
   replace s0 := (s0.below hM4).up hM4.size
   replace s1 := (s1.below hM4).up hM4.size
   replace bb := bb.below hM4 bb.lt
   replace qm := qm.below hM4 qm.lt
   replace hs9 := hs9.go hM4
   have B_M4 := ex_trans B_C4 hM4
   have X_M4 := ex_trans X_C4 hM4
   rw [nam_mis.1, nam_mis.2]
   go_wp2_with fail
   refine ⟨inEx X_M4, ?_⟩
   repeat (refine tq_quiet rfl ?_; go_big_quiet_step (fail); refine wpQuiet_nil ?_)
   have y0 : M4.cell? ⟨pm, 0, none⟩ = some (.int .i64 0) := qm.cell 0
   have y1 : M4.cell? ⟨pm, 1, none⟩ = some (.int .i64 0) := qm.cell 1
   have ly := qm.lt
   have fy := qm.frozen0
   have qn := (qm.set_ 0 (.int .i64 0)).set_ 1 (.int .i64 7)
   simp only [List.setIfInBounds_toArray, List.set_cons_zero, List.set_cons_succ] at qn
   have Bf := ex_set (ex_set X_M4 (p := ⟨pm, 0, none⟩) (by show V4.heap.size ≤ pm; omega) (.int .i64 0)) (p := ⟨pm, 1, none⟩) (by show V4.heap.size ≤ pm; omega) (.int .i64 7)
   refine tq_loud rfl ?_
   go_wp2_with fail
   refine ⟨inEx Bf, ?_⟩
   repeat (refine tq_quiet rfl ?_; go_big_quiet_step (fail); refine wpQuiet_nil ?_)
   refine tq_done (r := [_]) rfl ?_
   go_wp2_with fail
   exact Met.intro (hJ _ _ ⟨⟨pm, Bf, qn, exFrame (by kernel_rfl)⟩⟩)
 rintro a V5 ⟨⟨pm, hb5, qm, u5, rfl⟩⟩
 replace g0 := g0.below hb5 g0.lt
 replace g1 := g1.below hb5 g1.lt
 replace g2 := g2.below hb5 g2.lt
 replace g3 := g3.below hb5 g3.lt
 replace g4 := g4.below hb5 g4.lt
 replace gt := gt.below hb5 gt.lt
 replace ht := ht.go hb5
 replace hP := hP.go hb5
 replace b0 := b0.below hb5 b0.lt
 replace b1 := b1.below hb5 b1.lt
 replace s0 := (s0.below hb5).up hb5.size
 replace s1 := (s1.below hb5).up hb5.size
 replace bb := bb.below hb5 bb.lt
 have B_V5 := ex_trans B_V4 hb5
 go_wp2_with fail
 refine (cellar_any 35 40 V5).mono ?_
 rintro e V6 ⟨⟨Ar6, Am6, Aw6, cr6, cm6, cw6, rfl, hs6⟩, hV6⟩
 replace g0 := g0.below hV6 g0.lt
 replace g1 := g1.below hV6 g1.lt
 replace g2 := g2.below hV6 g2.lt
 replace g3 := g3.below hV6 g3.lt
 replace g4 := g4.below hV6 g4.lt
 replace gt := gt.below hV6 gt.lt
 replace ht := ht.go hV6
 replace hP := hP.go hV6
 replace b0 := b0.below hV6 b0.lt
 replace b1 := b1.below hV6 b1.lt
 replace s0 := (s0.below hV6).up hV6.size
 replace s1 := (s1.below hV6).up hV6.size
 replace bb := bb.below hV6 bb.lt
 replace qm := qm.below hV6 qm.lt
 have B_V6 := ex_trans B_V5 hV6
 go_wp2_with fail
 refine (Blame_any (cellS 35 40) Ar6 Am6 Aw6 cr6 cm6 cw6 V6 hs6).mono ?_
 rintro e V7 ⟨rfl, hV7⟩
 replace g0 := g0.below hV7 g0.lt
 replace g1 := g1.below hV7 g1.lt
 replace g2 := g2.below hV7 g2.lt
 replace g3 := g3.below hV7 g3.lt
 replace g4 := g4.below hV7 g4.lt
 replace gt := gt.below hV7 gt.lt
 replace ht := ht.go hV7
 replace hP := hP.go hV7
 replace b0 := b0.below hV7 b0.lt
 replace b1 := b1.below hV7 b1.lt
 replace s0 := (s0.below hV7).up hV7.size
 replace s1 := (s1.below hV7).up hV7.size
 replace bb := bb.below hV7 bb.lt
 replace qm := qm.below hV7 qm.lt
 replace hs6 := hs6.go hV7
 have B_V7 := ex_trans B_V6 hV7
 clear hs6
 rw [nam_blame.1, nam_blame.2]
 go_upto_region 6 with fail
 rename_i K0 hK0
 have hrest : ∀ (V8 : World) (a : Act), Below V7.heap.size V7 V8 → (∃ u : Nat → Value, a = ⟨List.toArray (u 0 :: .pointer (some ⟨p5, 0, none⟩) :: u 2 :: u 3 :: u 4 :: .pointer (some ⟨q2, 0, none⟩) :: u 6 :: u 7 :: u 8 :: u 9 :: u 10 :: u 11 :: u 12 :: u 13 :: u 14 :: u 15 :: u 16 :: u 17 :: u 18 :: u 19 :: u 20 :: u 21 :: u 22 :: u 23 :: u 24 :: u 25 :: u 26 :: u 27 :: u 28 :: u 29 :: u 30 :: u 31 :: u 32 :: u 33 :: u 34 :: u 35 :: u 36 :: u 37 :: u 38 :: u 39 :: u 40 :: u 41 :: u 42 :: u 43 :: u 44 :: u 45 :: u 46 :: u 47 :: u 48 :: u 49 :: u 50 :: u 51 :: u 52 :: u 53 :: u 54 :: u 55 :: u 56 :: u 57 :: u 58 :: u 59 :: u 60 :: u 61 :: u 62 :: u 63 :: u 64 :: u 65 :: u 66 :: u 67 :: u 68 :: u 69 :: u 70 :: u 71 :: u 72 :: u 73 :: u 74 :: u 75 :: u 76 :: u 77 :: u 78 :: u 79 :: u 80 :: u 81 :: u 82 :: u 83 :: u 84 :: u 85 :: u 86 :: u 87 :: u 88 :: u 89 :: u 90 :: u 91 :: u 92 :: u 93 :: u 94 :: u 95 :: u 96 :: u 97 :: u 98 :: u 99 :: u 100 :: u 101 :: u 102 :: u 103 :: u 104 :: u 105 :: u 106 :: u 107 :: u 108 :: u 109 :: u 110 :: u 111 :: u 112 :: u 113 :: u 114 :: u 115 :: u 116 :: u 117 :: u 118 :: u 119 :: .bool false :: u 121 :: u 122 :: u 123 :: u 124 :: u 125 :: u 126 :: u 127 :: u 128 :: u 129 :: u 130 :: u 131 :: u 132 :: u 133 :: u 134 :: u 135 :: u 136 :: u 137 :: u 138 :: u 139 :: u 140 :: u 141 :: u 142 :: u 143 :: u 144 :: u 145 :: u 146 :: u 147 :: u 148 :: u 149 :: u 150 :: u 151 :: u 152 :: u 153 :: u 154 :: u 155 :: u 156 :: u 157 :: u 158 :: u 159 :: u 160 :: u 161 :: u 162 :: u 163 :: u 164 :: u 165 :: u 166 :: u 167 :: u 168 :: u 169 :: u 170 :: u 171 :: u 172 :: u 173 :: u 174 :: u 175 :: u 176 :: u 177 :: u 178 :: u 179 :: u 180 :: u 181 :: u 182 :: u 183 :: u 184 :: u 185 :: u 186 :: u 187 :: u 188 :: u 189 :: u 190 :: u 191 :: u 192 :: u 193 :: u 194 :: u 195 :: u 196 :: u 197 :: u 198 :: u 199 :: u 200 :: u 201 :: u 202 :: u 203 :: u 204 :: u 205 :: u 206 :: u 207 :: u 208 :: u 209 :: u 210 :: u 211 :: u 212 :: u 213 :: u 214 :: u 215 :: u 216 :: u 217 :: u 218 :: u 219 :: u 220 :: u 221 :: u 222 :: u 223 :: u 224 :: u 225 :: u 226 :: u 227 :: u 228 :: u 229 :: u 230 :: u 231 :: u 232 :: u 233 :: u 234 :: u 235 :: u 236 :: u 237 :: u 238 :: u 239 :: u 240 :: u 241 :: u 242 :: u 243 :: u 244 :: u 245 :: u 246 :: u 247 :: u 248 :: u 249 :: u 250 :: u 251 :: u 252 :: u 253 :: u 254 :: u 255 :: u 256 :: u 257 :: u 258 :: u 259 :: u 260 :: u 261 :: u 262 :: u 263 :: u 264 :: u 265 :: u 266 :: u 267 :: u 268 :: u 269 :: u 270 :: u 271 :: u 272 :: u 273 :: u 274 :: u 275 :: u 276 :: u 277 :: u 278 :: u 279 :: u 280 :: u 281 :: u 282 :: u 283 :: u 284 :: u 285 :: []), []⟩) → K0 a V8 := by
  rintro V8 a hX8 ⟨u, rfl⟩
  refine hK0 _ _ ?_
  clear hK0 K0
  replace g0 := g0.below hX8 g0.lt
  replace g1 := g1.below hX8 g1.lt
  replace g2 := g2.below hX8 g2.lt
  replace g3 := g3.below hX8 g3.lt
  replace g4 := g4.below hX8 g4.lt
  replace gt := gt.below hX8 gt.lt
  replace ht := ht.go hX8
  replace hP := hP.go hX8
  replace b0 := b0.below hX8 b0.lt
  replace b1 := b1.below hX8 b1.lt
  replace s0 := (s0.below hX8).up hX8.size
  replace s1 := (s1.below hX8).up hX8.size
  replace bb := bb.below hX8 bb.lt
  replace qm := qm.below hX8 qm.lt
  have B_V8 := ex_trans B_V7 hX8
  clear qm
  clear hP
  clear ht
  clear s0
  clear s1
  have ne_g0 : p0 ≠ p4 := by omega
  have ne_g1 : p1 ≠ p4 := by omega
  have ne_g2 : p2 ≠ p4 := by omega
  have ne_g3 : p3 ≠ p4 := by omega
  have ne_gt : p5 ≠ p4 := by omega
  have ne_b0 : q0 ≠ p4 := by omega
  have ne_b1 : q1 ≠ p4 := by omega
  have ne_bb : q2 ≠ p4 := by omega
  have yp4 : w.heap.size ≤ p4 := by omega
  have x0 := gt.cell 0
  have x1 := gt.cell 1
  have x2 := gt.cell 2
  have lx := gt.lt
  have fx := gt.frozen0
  simp at x0 x1 x2
  have z0 := g4.cell 0
  have z1 := g4.cell 1
  have z2 := g4.cell 2
  have lz := g4.lt
  have fz := g4.frozen0
  simp at z0 z1 z2
  go_upto_region 9 with fail
  clear lx fx x0 x1 x2
  clear lz fz z0 z1 z2
  have zz_g0 := ne_g0
  have zz_g1 := ne_g1
  have zz_g2 := ne_g2
  have zz_g3 := ne_g3
  have zz_gt := ne_gt
  have zz_b0 := ne_b0
  have zz_b1 := ne_b1
  have zz_bb := ne_bb
  replace g4 := g4.set_ 1 (.int .i64 21)
  replace g0 := g0.far (p := ⟨p4, 1, none⟩) zz_g0 (.int .i64 21)
  replace g1 := g1.far (p := ⟨p4, 1, none⟩) zz_g1 (.int .i64 21)
  replace g2 := g2.far (p := ⟨p4, 1, none⟩) zz_g2 (.int .i64 21)
  replace g3 := g3.far (p := ⟨p4, 1, none⟩) zz_g3 (.int .i64 21)
  replace gt := gt.far (p := ⟨p4, 1, none⟩) zz_gt (.int .i64 21)
  replace b0 := b0.far (p := ⟨p4, 1, none⟩) zz_b0 (.int .i64 21)
  replace b1 := b1.far (p := ⟨p4, 1, none⟩) zz_b1 (.int .i64 21)
  replace bb := bb.far (p := ⟨p4, 1, none⟩) zz_bb (.int .i64 21)
  simp only [List.setIfInBounds_toArray, List.set_cons_zero, List.set_cons_succ] at g4
  clear zz_g0 zz_g1 zz_g2 zz_g3 zz_gt zz_b0 zz_b1 zz_bb
  have B_V101 := ex_set (p := ⟨p4, 1, none⟩) (B_V8) yp4 (.int .i64 21)
  generalize (V8.setCell ⟨p4, 1, none⟩ (.int .i64 21)) = V101 at *
  clear ne_g0 ne_g1 ne_g2 ne_g3 ne_gt ne_b0 ne_b1 ne_bb
  have s0 := sl_2 (f := fI [100, 3]) g0 rfl rfl
  have s1 := sl_3 (f := fI [1, 1, 2]) g1 rfl rfl rfl
  have s2 := sl_3 (f := fI [0, 1, 0]) g2 rfl rfl rfl
  have s4 := sl_3 (f := fI [42, 21, 5]) g4 rfl rfl rfl
  have s3 := sl_2 (f := fun k _ => .slice (some ⟨[p1, p2].getD k 0, 0, none⟩) (gL (namT 21).vs k).length 3) g3 rfl rfl
  have ht : TtIn V101 V101.heap.size (namT 21) (some ⟨p0, 0, none⟩) (some ⟨p3, 0, none⟩) (some ⟨p4, 0, none⟩) (fun k => some ⟨[p1, p2].getD k 0, 0, none⟩) (fun _ => 3) := ⟨s0, s3, fun k hk => (match k, hk with | 0, _ => s1 | 1, _ => s2), s4⟩
  clear s0 s1 s2 s3 s4
  have s0 := sl_2 (f := fI [100, 2]) b0 rfl rfl
  have s1 := sl_3 (f := fI [42, 20, 5]) b1 rfl rfl rfl
  clear g0
  clear g1
  clear g2
  clear g3
  clear g4
  clear b0
  clear b1
  have x0 := gt.cell 0
  have x1 := gt.cell 1
  have x2 := gt.cell 2
  have lx := gt.lt
  have fx := gt.frozen0
  simp at x0 x1 x2
  rename_i K0 hK0
  have hrest : ∀ (V102 : World) (a : Act), Below V101.heap.size V101 V102 → (∃ u : Nat → Value, a = ⟨List.toArray (u 0 :: .pointer (some ⟨p5, 0, none⟩) :: u 2 :: u 3 :: .int .i64 2 :: .pointer (some ⟨q2, 0, none⟩) :: u 6 :: u 7 :: u 8 :: u 9 :: u 10 :: u 11 :: u 12 :: u 13 :: u 14 :: u 15 :: u 16 :: u 17 :: u 18 :: u 19 :: u 20 :: u 21 :: u 22 :: u 23 :: u 24 :: u 25 :: u 26 :: u 27 :: u 28 :: u 29 :: u 30 :: u 31 :: u 32 :: u 33 :: u 34 :: u 35 :: u 36 :: u 37 :: u 38 :: u 39 :: u 40 :: u 41 :: u 42 :: u 43 :: u 44 :: u 45 :: u 46 :: u 47 :: u 48 :: u 49 :: u 50 :: u 51 :: u 52 :: u 53 :: u 54 :: u 55 :: u 56 :: u 57 :: u 58 :: u 59 :: u 60 :: u 61 :: u 62 :: u 63 :: u 64 :: u 65 :: u 66 :: u 67 :: u 68 :: u 69 :: u 70 :: u 71 :: u 72 :: u 73 :: u 74 :: u 75 :: u 76 :: u 77 :: u 78 :: u 79 :: u 80 :: u 81 :: u 82 :: u 83 :: u 84 :: u 85 :: u 86 :: u 87 :: u 88 :: u 89 :: u 90 :: u 91 :: u 92 :: u 93 :: u 94 :: u 95 :: u 96 :: u 97 :: u 98 :: u 99 :: u 100 :: u 101 :: u 102 :: u 103 :: u 104 :: u 105 :: u 106 :: u 107 :: u 108 :: u 109 :: u 110 :: u 111 :: u 112 :: u 113 :: u 114 :: u 115 :: u 116 :: u 117 :: u 118 :: u 119 :: u 120 :: u 121 :: u 122 :: u 123 :: u 124 :: u 125 :: u 126 :: u 127 :: u 128 :: u 129 :: u 130 :: u 131 :: u 132 :: u 133 :: u 134 :: u 135 :: u 136 :: u 137 :: u 138 :: u 139 :: u 140 :: u 141 :: u 142 :: u 143 :: u 144 :: u 145 :: u 146 :: u 147 :: u 148 :: u 149 :: u 150 :: u 151 :: u 152 :: u 153 :: u 154 :: u 155 :: u 156 :: u 157 :: u 158 :: u 159 :: u 160 :: u 161 :: u 162 :: u 163 :: u 164 :: u 165 :: u 166 :: u 167 :: u 168 :: u 169 :: u 170 :: u 171 :: u 172 :: u 173 :: u 174 :: u 175 :: u 176 :: u 177 :: u 178 :: u 179 :: u 180 :: u 181 :: u 182 :: u 183 :: u 184 :: u 185 :: u 186 :: u 187 :: u 188 :: u 189 :: u 190 :: u 191 :: u 192 :: u 193 :: u 194 :: u 195 :: u 196 :: u 197 :: u 198 :: u 199 :: u 200 :: u 201 :: u 202 :: u 203 :: u 204 :: u 205 :: u 206 :: u 207 :: u 208 :: u 209 :: u 210 :: u 211 :: u 212 :: u 213 :: u 214 :: u 215 :: u 216 :: u 217 :: u 218 :: u 219 :: u 220 :: u 221 :: u 222 :: u 223 :: u 224 :: u 225 :: u 226 :: u 227 :: u 228 :: u 229 :: u 230 :: u 231 :: u 232 :: u 233 :: u 234 :: u 235 :: u 236 :: u 237 :: u 238 :: u 239 :: u 240 :: u 241 :: u 242 :: u 243 :: u 244 :: u 245 :: u 246 :: u 247 :: u 248 :: u 249 :: u 250 :: u 251 :: u 252 :: u 253 :: u 254 :: u 255 :: u 256 :: u 257 :: u 258 :: u 259 :: u 260 :: u 261 :: u 262 :: u 263 :: u 264 :: u 265 :: u 266 :: u 267 :: u 268 :: u 269 :: u 270 :: u 271 :: u 272 :: u 273 :: u 274 :: u 275 :: u 276 :: u 277 :: u 278 :: u 279 :: u 280 :: u 281 :: u 282 :: u 283 :: u 284 :: u 285 :: []), []⟩) → K0 a V102 := by
   rintro V102  a hX9   ⟨u, rfl⟩
   refine hK0 _ _ ?_
   clear hK0 K0
   replace gt := gt.below hX9 gt.lt
   replace bb := bb.below hX9 bb.lt
   replace ht := ht.go hX9
   replace s0 := (s0.below hX9).up hX9.size
   replace s1 := (s1.below hX9).up hX9.size
   have B_V102 := ex_trans B_V101 hX9
   clear lx fx x0 x1 x2
   clear ht
   clear gt
   go_upto_region 10 with fail
   have x0 := bb.cell 0
   have x1 := bb.cell 1
   have lx := bb.lt
   have fx := bb.frozen0
   simp at x0 x1
   rename_i K0 hK0
   have hrest : ∀ (V103 : World) (a : Act), Below V102.heap.size V102 V103 → (∃ u : Nat → Value, a = ⟨List.toArray (u 0 :: .pointer (some ⟨p5, 0, none⟩) :: u 2 :: u 3 :: .int .i64 2 :: .pointer (some ⟨q2, 0, none⟩) :: u 6 :: .int .i64 7 :: u 8 :: u 9 :: u 10 :: u 11 :: u 12 :: u 13 :: u 14 :: u 15 :: u 16 :: u 17 :: u 18 :: u 19 :: u 20 :: u 21 :: u 22 :: u 23 :: u 24 :: u 25 :: u 26 :: u 27 :: u 28 :: u 29 :: u 30 :: u 31 :: u 32 :: u 33 :: u 34 :: u 35 :: u 36 :: u 37 :: u 38 :: u 39 :: u 40 :: u 41 :: u 42 :: u 43 :: u 44 :: u 45 :: u 46 :: u 47 :: u 48 :: u 49 :: u 50 :: u 51 :: u 52 :: u 53 :: u 54 :: u 55 :: u 56 :: u 57 :: u 58 :: u 59 :: u 60 :: u 61 :: u 62 :: u 63 :: u 64 :: u 65 :: u 66 :: u 67 :: u 68 :: u 69 :: u 70 :: u 71 :: u 72 :: u 73 :: u 74 :: u 75 :: u 76 :: u 77 :: u 78 :: u 79 :: u 80 :: u 81 :: u 82 :: u 83 :: u 84 :: u 85 :: u 86 :: u 87 :: u 88 :: u 89 :: u 90 :: u 91 :: u 92 :: u 93 :: u 94 :: u 95 :: u 96 :: u 97 :: u 98 :: u 99 :: u 100 :: u 101 :: u 102 :: u 103 :: u 104 :: u 105 :: u 106 :: u 107 :: u 108 :: u 109 :: u 110 :: u 111 :: u 112 :: u 113 :: u 114 :: u 115 :: u 116 :: u 117 :: u 118 :: u 119 :: u 120 :: u 121 :: u 122 :: u 123 :: u 124 :: u 125 :: u 126 :: u 127 :: u 128 :: u 129 :: u 130 :: u 131 :: u 132 :: u 133 :: u 134 :: u 135 :: u 136 :: u 137 :: u 138 :: u 139 :: u 140 :: u 141 :: u 142 :: u 143 :: u 144 :: u 145 :: u 146 :: u 147 :: u 148 :: u 149 :: u 150 :: u 151 :: u 152 :: u 153 :: u 154 :: u 155 :: u 156 :: u 157 :: u 158 :: u 159 :: u 160 :: u 161 :: u 162 :: u 163 :: u 164 :: u 165 :: u 166 :: u 167 :: u 168 :: u 169 :: u 170 :: u 171 :: u 172 :: u 173 :: u 174 :: u 175 :: u 176 :: u 177 :: u 178 :: u 179 :: u 180 :: u 181 :: u 182 :: u 183 :: u 184 :: u 185 :: u 186 :: u 187 :: u 188 :: u 189 :: u 190 :: u 191 :: u 192 :: u 193 :: u 194 :: u 195 :: u 196 :: u 197 :: u 198 :: u 199 :: u 200 :: u 201 :: u 202 :: u 203 :: u 204 :: u 205 :: u 206 :: u 207 :: u 208 :: u 209 :: u 210 :: u 211 :: u 212 :: u 213 :: u 214 :: u 215 :: u 216 :: u 217 :: u 218 :: u 219 :: u 220 :: u 221 :: u 222 :: u 223 :: u 224 :: u 225 :: u 226 :: u 227 :: u 228 :: u 229 :: u 230 :: u 231 :: u 232 :: u 233 :: u 234 :: u 235 :: u 236 :: u 237 :: u 238 :: u 239 :: u 240 :: u 241 :: u 242 :: u 243 :: u 244 :: u 245 :: u 246 :: u 247 :: u 248 :: u 249 :: u 250 :: u 251 :: u 252 :: u 253 :: u 254 :: u 255 :: u 256 :: u 257 :: u 258 :: u 259 :: u 260 :: u 261 :: u 262 :: u 263 :: u 264 :: u 265 :: u 266 :: u 267 :: u 268 :: u 269 :: u 270 :: u 271 :: u 272 :: u 273 :: u 274 :: u 275 :: u 276 :: u 277 :: u 278 :: u 279 :: u 280 :: u 281 :: u 282 :: u 283 :: u 284 :: u 285 :: []), []⟩) → K0 a V103 := by
    rintro V103  a hX9   ⟨u, rfl⟩
    refine hK0 _ _ ?_
    clear hK0 K0
    replace bb := bb.below hX9 bb.lt
    replace s0 := (s0.below hX9).up hX9.size
    replace s1 := (s1.below hX9).up hX9.size
    have B_V103 := ex_trans B_V102 hX9
    clear lx fx x0 x1
    go_upto_region 11 with fail
    have x0 := bb.cell 0
    have x1 := bb.cell 1
    have lx := bb.lt
    have fx := bb.frozen0
    simp at x0 x1
    rename_i K0 hK0
    have hrest : ∀ (V104 : World) (a : Act), Below V103.heap.size V103 V104 → (∃ u : Nat → Value, a = ⟨List.toArray (u 0 :: .pointer (some ⟨p5, 0, none⟩) :: u 2 :: u 3 :: .int .i64 2 :: .pointer (some ⟨q2, 0, none⟩) :: u 6 :: .int .i64 7 :: u 8 :: .int .i64 2 :: u 10 :: u 11 :: u 12 :: u 13 :: u 14 :: u 15 :: u 16 :: u 17 :: u 18 :: u 19 :: u 20 :: u 21 :: u 22 :: u 23 :: u 24 :: u 25 :: u 26 :: u 27 :: u 28 :: u 29 :: u 30 :: u 31 :: u 32 :: u 33 :: u 34 :: u 35 :: u 36 :: u 37 :: u 38 :: u 39 :: u 40 :: u 41 :: u 42 :: u 43 :: u 44 :: u 45 :: u 46 :: u 47 :: u 48 :: u 49 :: u 50 :: u 51 :: u 52 :: u 53 :: u 54 :: u 55 :: u 56 :: u 57 :: u 58 :: u 59 :: u 60 :: u 61 :: u 62 :: u 63 :: u 64 :: u 65 :: u 66 :: u 67 :: u 68 :: u 69 :: u 70 :: u 71 :: u 72 :: u 73 :: u 74 :: u 75 :: u 76 :: u 77 :: u 78 :: u 79 :: u 80 :: u 81 :: u 82 :: u 83 :: u 84 :: u 85 :: u 86 :: u 87 :: u 88 :: u 89 :: u 90 :: u 91 :: u 92 :: u 93 :: u 94 :: u 95 :: u 96 :: u 97 :: u 98 :: u 99 :: u 100 :: u 101 :: u 102 :: u 103 :: u 104 :: u 105 :: u 106 :: u 107 :: u 108 :: u 109 :: u 110 :: u 111 :: u 112 :: u 113 :: u 114 :: u 115 :: u 116 :: u 117 :: u 118 :: u 119 :: u 120 :: u 121 :: u 122 :: u 123 :: u 124 :: u 125 :: u 126 :: u 127 :: u 128 :: u 129 :: u 130 :: u 131 :: u 132 :: u 133 :: u 134 :: u 135 :: u 136 :: u 137 :: u 138 :: u 139 :: u 140 :: u 141 :: u 142 :: u 143 :: u 144 :: u 145 :: u 146 :: u 147 :: u 148 :: u 149 :: u 150 :: u 151 :: u 152 :: u 153 :: u 154 :: u 155 :: u 156 :: u 157 :: u 158 :: u 159 :: u 160 :: u 161 :: u 162 :: u 163 :: u 164 :: u 165 :: u 166 :: u 167 :: u 168 :: u 169 :: u 170 :: u 171 :: u 172 :: u 173 :: u 174 :: u 175 :: u 176 :: u 177 :: u 178 :: u 179 :: u 180 :: u 181 :: u 182 :: u 183 :: u 184 :: u 185 :: u 186 :: u 187 :: u 188 :: u 189 :: u 190 :: u 191 :: u 192 :: u 193 :: u 194 :: u 195 :: u 196 :: u 197 :: u 198 :: u 199 :: u 200 :: u 201 :: u 202 :: u 203 :: u 204 :: u 205 :: u 206 :: u 207 :: u 208 :: u 209 :: u 210 :: u 211 :: u 212 :: u 213 :: u 214 :: u 215 :: u 216 :: u 217 :: u 218 :: u 219 :: u 220 :: u 221 :: u 222 :: u 223 :: u 224 :: u 225 :: u 226 :: u 227 :: u 228 :: u 229 :: u 230 :: u 231 :: u 232 :: u 233 :: u 234 :: u 235 :: u 236 :: u 237 :: u 238 :: u 239 :: u 240 :: u 241 :: u 242 :: u 243 :: u 244 :: u 245 :: u 246 :: u 247 :: u 248 :: u 249 :: u 250 :: u 251 :: u 252 :: u 253 :: u 254 :: u 255 :: u 256 :: u 257 :: u 258 :: u 259 :: u 260 :: u 261 :: u 262 :: u 263 :: u 264 :: u 265 :: u 266 :: u 267 :: u 268 :: u 269 :: u 270 :: u 271 :: u 272 :: u 273 :: u 274 :: u 275 :: u 276 :: u 277 :: u 278 :: u 279 :: u 280 :: u 281 :: u 282 :: u 283 :: u 284 :: u 285 :: []), []⟩) → K0 a V104 := by
     rintro V104  a hX9   ⟨u, rfl⟩
     refine hK0 _ _ ?_
     clear hK0 K0
     replace bb := bb.below hX9 bb.lt
     replace s0 := (s0.below hX9).up hX9.size
     replace s1 := (s1.below hX9).up hX9.size
     have B_V104 := ex_trans B_V103 hX9
     clear lx fx x0 x1
     go_wp2_with fail
     refine (cellar_any 22 24 _).mono ?_
     rintro e V105 ⟨⟨Ar2, Am2, Aw2, cr2, cm2, cw2, rfl, hs2⟩, hV105⟩
     replace bb := bb.below hV105 bb.lt
     replace s0 := (s0.below hV105).up hV105.size
     replace s1 := (s1.below hV105).up hV105.size
     have B_V105 := ex_trans B_V104 hV105
     go_wp2_with fail
     refine (sq_none Ar2 Am2 Aw2 cr2 cm2 cw2 _ hs2).mono ?_
     rintro e V106 ⟨⟨a1, b1, rfl⟩, hV106⟩
     replace bb := bb.below hV106 bb.lt
     replace s0 := (s0.below hV106).up hV106.size
     replace s1 := (s1.below hV106).up hV106.size
     replace hs2 := hs2.go hV106
     have B_V106 := ex_trans B_V105 hV106
     clear hs2
     have NG := ex_alloc (Below.refl V106.heap.size V106) (.cells #[.int .i64 a1, .int .i64 b1] 50)
     have qz : Blk (V106.alloc (.cells #[.int .i64 a1, .int .i64 b1] 50)) V106.heap.size 50 #[.int .i64 a1, .int .i64 b1] := Blk.new _ _ _
     go_wp2_with fail
     obtain ⟨pz, hpz⟩ : ∃ p, V106.heap.size = p := ⟨_, rfl⟩
     try rw [hpz]
     have ypz : w.heap.size ≤ pz := by have := B_V106.size; omega
     clear hpz
     replace bb := bb.below NG bb.lt
     replace s0 := s0.go NG
     replace s1 := s1.go NG
     have B_V107 := ex_trans B_V106 NG
     clear NG qz
     generalize V106.alloc (.cells #[.int .i64 a1, .int .i64 b1] 50) = V107 at *
     refine (cellar_any 35 40 _).mono ?_
     rintro e V108 ⟨⟨Ar3, Am3, Aw3, cr3, cm3, cw3, rfl, hs3⟩, hV108⟩
     replace bb := bb.below hV108 bb.lt
     replace s0 := (s0.below hV108).up hV108.size
     replace s1 := (s1.below hV108).up hV108.size
     have B_V108 := ex_trans B_V107 hV108
     go_wp2_with fail
     refine (sq_stocks Ar3 Am3 Aw3 cr3 cm3 cw3 _ hs3).mono ?_
     rintro e V109 ⟨⟨n3, A3, c3, rfl⟩, hV109⟩
     replace bb := bb.below hV109 bb.lt
     replace s0 := (s0.below hV109).up hV109.size
     replace s1 := (s1.below hV109).up hV109.size
     replace hs3 := hs3.go hV109
     have B_V109 := ex_trans B_V108 hV109
     clear hs3
     go_upto_region 14 with fail
     have x0 := bb.cell 0
     have x1 := bb.cell 1
     have lx := bb.lt
     have fx := bb.frozen0
     simp at x0 x1
     rename_i K0 hK0
     have hrest : ∀ (V110 : World) (a : Act), Below V109.heap.size V109 V110 → (∃ u : Nat → Value, a = ⟨List.toArray (u 0 :: .pointer (some ⟨p5, 0, none⟩) :: u 2 :: u 3 :: .int .i64 2 :: .pointer (some ⟨q2, 0, none⟩) :: u 6 :: .int .i64 7 :: u 8 :: .int .i64 2 :: u 10 :: .int .i64 2 :: u 12 :: .int .i64 9 :: u 14 :: .int .i64 2 :: u 16 :: u 17 :: u 18 :: u 19 :: u 20 :: u 21 :: u 22 :: u 23 :: u 24 :: u 25 :: u 26 :: u 27 :: u 28 :: u 29 :: u 30 :: u 31 :: u 32 :: u 33 :: u 34 :: u 35 :: u 36 :: u 37 :: u 38 :: u 39 :: u 40 :: u 41 :: u 42 :: u 43 :: u 44 :: u 45 :: u 46 :: u 47 :: u 48 :: u 49 :: u 50 :: u 51 :: u 52 :: u 53 :: u 54 :: u 55 :: u 56 :: u 57 :: u 58 :: u 59 :: u 60 :: u 61 :: u 62 :: u 63 :: u 64 :: u 65 :: u 66 :: u 67 :: u 68 :: u 69 :: u 70 :: u 71 :: u 72 :: u 73 :: u 74 :: u 75 :: u 76 :: u 77 :: u 78 :: u 79 :: u 80 :: u 81 :: u 82 :: u 83 :: u 84 :: u 85 :: u 86 :: u 87 :: u 88 :: u 89 :: u 90 :: u 91 :: u 92 :: u 93 :: u 94 :: u 95 :: u 96 :: u 97 :: u 98 :: u 99 :: u 100 :: u 101 :: u 102 :: u 103 :: u 104 :: u 105 :: u 106 :: u 107 :: u 108 :: u 109 :: u 110 :: u 111 :: u 112 :: u 113 :: u 114 :: u 115 :: u 116 :: u 117 :: u 118 :: u 119 :: u 120 :: u 121 :: u 122 :: u 123 :: u 124 :: u 125 :: u 126 :: u 127 :: u 128 :: u 129 :: u 130 :: u 131 :: u 132 :: u 133 :: u 134 :: u 135 :: u 136 :: u 137 :: u 138 :: u 139 :: u 140 :: u 141 :: u 142 :: u 143 :: u 144 :: u 145 :: u 146 :: u 147 :: u 148 :: u 149 :: u 150 :: u 151 :: u 152 :: u 153 :: u 154 :: u 155 :: u 156 :: u 157 :: u 158 :: u 159 :: u 160 :: u 161 :: u 162 :: u 163 :: u 164 :: u 165 :: u 166 :: u 167 :: u 168 :: u 169 :: u 170 :: u 171 :: u 172 :: u 173 :: u 174 :: u 175 :: u 176 :: u 177 :: u 178 :: u 179 :: u 180 :: u 181 :: u 182 :: u 183 :: u 184 :: u 185 :: u 186 :: u 187 :: u 188 :: u 189 :: u 190 :: u 191 :: u 192 :: u 193 :: u 194 :: u 195 :: u 196 :: u 197 :: u 198 :: u 199 :: u 200 :: u 201 :: u 202 :: u 203 :: u 204 :: u 205 :: u 206 :: u 207 :: u 208 :: u 209 :: u 210 :: u 211 :: u 212 :: u 213 :: u 214 :: u 215 :: u 216 :: u 217 :: u 218 :: u 219 :: u 220 :: u 221 :: u 222 :: u 223 :: u 224 :: u 225 :: u 226 :: u 227 :: u 228 :: u 229 :: u 230 :: u 231 :: u 232 :: u 233 :: u 234 :: u 235 :: u 236 :: u 237 :: u 238 :: u 239 :: u 240 :: u 241 :: u 242 :: u 243 :: u 244 :: u 245 :: u 246 :: u 247 :: u 248 :: u 249 :: u 250 :: u 251 :: u 252 :: u 253 :: u 254 :: u 255 :: u 256 :: u 257 :: u 258 :: u 259 :: u 260 :: u 261 :: u 262 :: u 263 :: u 264 :: u 265 :: u 266 :: u 267 :: u 268 :: u 269 :: u 270 :: u 271 :: u 272 :: u 273 :: u 274 :: u 275 :: u 276 :: u 277 :: u 278 :: u 279 :: u 280 :: u 281 :: u 282 :: u 283 :: u 284 :: u 285 :: []), []⟩) → K0 a V110 := by
      rintro V110  a hX9   ⟨u, rfl⟩
      refine hK0 _ _ ?_
      clear hK0 K0
      replace bb := bb.below hX9 bb.lt
      replace s0 := (s0.below hX9).up hX9.size
      replace s1 := (s1.below hX9).up hX9.size
      have B_V110 := ex_trans B_V109 hX9
      clear lx fx x0 x1
      clear bb
      clear s0
      clear s1
      go_wp2_with fail
      refine (cellar_any 22 24 _).mono ?_
      rintro e V111 ⟨⟨Ar4, Am4, Aw4, cr4, cm4, cw4, rfl, hs4⟩, hV111⟩
      have B_V111 := ex_trans B_V110 hV111
      go_wp2_with fail
      refine (sq_blame Ar4 Am4 Aw4 cr4 cm4 cw4 _ hs4).mono ?_
      rintro e V112 ⟨⟨a4, rfl⟩, hV112⟩
      replace hs4 := hs4.go hV112
      have B_V112 := ex_trans B_V111 hV112
      clear hs4
      go_wp2_with fail
      refine (cellar_own 0 2000 _).mono ?_
      rintro e V113 ⟨⟨gr1, gm1, gw1, rfl, yg1, kr1, km1, kw1⟩, hV113⟩
      have B_V113 := ex_trans B_V112 hV113
      replace yg1 : w.heap.size ≤ gm1 := Nat.le_trans B_V112.size yg1
      have NG := ex_alloc (Below.refl V113.heap.size V113) (.cells #[.slice (some ⟨gr1, 0, none⟩) 2 2, .int .i64 3, .slice (some ⟨gm1, 0, none⟩) 3 3, .slice (some ⟨gw1, 0, none⟩) 1 1] 42)
      have qd : Blk (V113.alloc (.cells #[.slice (some ⟨gr1, 0, none⟩) 2 2, .int .i64 3, .slice (some ⟨gm1, 0, none⟩) 3 3, .slice (some ⟨gw1, 0, none⟩) 1 1] 42)) V113.heap.size 42 #[.slice (some ⟨gr1, 0, none⟩) 2 2, .int .i64 3, .slice (some ⟨gm1, 0, none⟩) 3 3, .slice (some ⟨gw1, 0, none⟩) 1 1] := Blk.new _ _ _
      go_upto_region 17 with fail
      obtain ⟨pd, hpd⟩ : ∃ p, V113.heap.size = p := ⟨_, rfl⟩
      rw [hpd] at qd ⊢
      have ypd : w.heap.size ≤ pd := by have := B_V113.size; omega
      clear hpd
      replace kr1 := kr1.below NG kr1.lt
      replace km1 := km1.below NG km1.lt
      replace kw1 := kw1.below NG kw1.lt
      have B_V114 := ex_trans B_V113 NG
      clear NG
      generalize V113.alloc (.cells #[.slice (some ⟨gr1, 0, none⟩) 2 2, .int .i64 3, .slice (some ⟨gm1, 0, none⟩) 3 3, .slice (some ⟨gw1, 0, none⟩) 1 1] 42) = V114 at *
      have x0 := qd.cell 0
      have x1 := qd.cell 1
      have x2 := qd.cell 2
      have x3 := qd.cell 3
      have lx := qd.lt
      have fx := qd.frozen0
      simp at x0 x1 x2 x3
      have D17 := (Below.refl V114.heap.size V114).drew
      refine wp_region_ext_mix 5 [(false, 0), (false, 1), (true, 2), (false, 3), (false, 4)] (by kernel_rfl) (by kernel_rfl) (by intro d _ _ _ _ h; cases d <;> exact h) ?_
      repeat (refine mix_quiet rfl ?_; go_big_quiet_step (fail); refine wpQuiet_nil ?_)
      refine mix_loud rfl ?_
      go_wp2_with fail
      refine (between_any 99 99 _).mono ?_
      rintro e V115 ⟨rfl, hV115⟩
      have N1 := ex_trans D17 hV115
      go_wp2_with fail
      refine ⟨inEx N1, ?_⟩
      repeat (refine mix_quiet rfl ?_; go_big_quiet_step (fail); refine wpQuiet_nil ?_)
      refine mix_nil (r := [_]) rfl ?_
      clear lx fx x0 x1 x2 x3
      replace kr1 := kr1.below N1 kr1.lt
      replace km1 := km1.below N1 km1.lt
      replace kw1 := kw1.below N1 kw1.lt
      replace qd := qd.below N1 qd.lt
      have B_V115 := ex_trans B_V114 N1
      clear N1 D17 hV115
      have x8 := km1.cell 8
      have x9 := km1.cell 9
      have lx := km1.lt
      have fx := km1.frozen0
      simp at x8 x9
      go_wp2_with (refine pause_at 173 rfl ?_)
      clear lx fx x8 x9
      have zz_qd := blk_ne qd km1 (by decide)
      have zz_kr1 := blk_ne kr1 km1 (by decide)
      have zz_kw1 := blk_ne kw1 km1 (by decide)
      replace km1 := km1.set_ 8 (.int .i64 99)
      replace qd := qd.far (p := ⟨gm1, 8, none⟩) zz_qd (.int .i64 99)
      replace kr1 := kr1.far (p := ⟨gm1, 8, none⟩) zz_kr1 (.int .i64 99)
      replace kw1 := kw1.far (p := ⟨gm1, 8, none⟩) zz_kw1 (.int .i64 99)
      replace km1 := km1.set_ 9 (.int .i64 99)
      replace qd := qd.far (p := ⟨gm1, 9, none⟩) zz_qd (.int .i64 99)
      replace kr1 := kr1.far (p := ⟨gm1, 9, none⟩) zz_kr1 (.int .i64 99)
      replace kw1 := kw1.far (p := ⟨gm1, 9, none⟩) zz_kw1 (.int .i64 99)
      simp only [List.setIfInBounds_toArray, List.set_cons_zero, List.set_cons_succ] at km1
      clear zz_qd zz_kr1 zz_kw1
      have B_V116 := ex_set (p := ⟨gm1, 9, none⟩) (ex_set (p := ⟨gm1, 8, none⟩) (B_V115) yg1 (.int .i64 99)) yg1 (.int .i64 99)
      generalize ((V115.setCell ⟨gm1, 8, none⟩ (.int .i64 99)).setCell ⟨gm1, 9, none⟩ (.int .i64 99)) = V116 at *
      refine Paused.mk ?_
      refine wpList_load_row rfl 42 _ rfl _ rfl 42 _ (0, 0) _ (qd) Try.underlying42 rfl (by kernel_rfl) ?_
      go_wp2_with fail
      refine (sq_dry (some ⟨gr1, 0, none⟩) (some ⟨gm1, 0, none⟩) (some ⟨gw1, 0, none⟩) 2 3 1 _ (dry_in kr1 km1 kw1)).mono ?_
      rintro e V117 ⟨⟨A5, n5, c5, rfl⟩, hV117⟩
      replace kr1 := kr1.below hV117 kr1.lt
      replace km1 := km1.below hV117 km1.lt
      replace kw1 := kw1.below hV117 kw1.lt
      replace qd := qd.below hV117 qd.lt
      have B_V117 := ex_trans B_V116 hV117
      clear qd
      clear kr1
      clear km1
      clear kw1
      go_wp2_with fail
      refine (cellar_own 22 24 _).mono ?_
      rintro e V118 ⟨⟨gr2, gm2, gw2, rfl, yg2, kr2, km2, kw2⟩, hV118⟩
      have B_V118 := ex_trans B_V117 hV118
      replace yg2 : w.heap.size ≤ gm2 := Nat.le_trans B_V117.size yg2
      have lm3 := km2.lt
      go_wp2_with fail
      refine (cellar_own 22 24 _).mono ?_
      rintro e V119 ⟨⟨gr3, gm3, gw3, rfl, yg3, kr3, km3, kw3⟩, hV119⟩
      replace kr2 := kr2.below hV119 kr2.lt
      replace km2 := km2.below hV119 km2.lt
      replace kw2 := kw2.below hV119 kw2.lt
      have B_V119 := ex_trans B_V118 hV119
      replace lm3 : gm3 ≠ gm2 := by omega
      replace yg3 : w.heap.size ≤ gm3 := Nat.le_trans B_V118.size yg3
      have lm4 := km2.lt
      go_wp2_with fail
      refine (cellar_own 22 24 _).mono ?_
      rintro e V120 ⟨⟨gr4, gm4, gw4, rfl, yg4, kr4, km4, kw4⟩, hV120⟩
      replace kr2 := kr2.below hV120 kr2.lt
      replace km2 := km2.below hV120 km2.lt
      replace kw2 := kw2.below hV120 kw2.lt
      replace kr3 := kr3.below hV120 kr3.lt
      replace km3 := km3.below hV120 km3.lt
      replace kw3 := kw3.below hV120 kw3.lt
      have B_V120 := ex_trans B_V119 hV120
      replace lm4 : gm4 ≠ gm2 := by omega
      replace yg4 : w.heap.size ≤ gm4 := Nat.le_trans B_V119.size yg4
      go_wp2_with fail
      refine (shift_own _).mono ?_
      rintro e V121 ⟨⟨gt7, gh7, rfl, kt, kh⟩, hV121⟩
      replace kr2 := kr2.below hV121 kr2.lt
      replace km2 := km2.below hV121 km2.lt
      replace kw2 := kw2.below hV121 kw2.lt
      replace kr3 := kr3.below hV121 kr3.lt
      replace km3 := km3.below hV121 km3.lt
      replace kw3 := kw3.below hV121 kw3.lt
      replace kr4 := kr4.below hV121 kr4.lt
      replace km4 := km4.below hV121 km4.lt
      replace kw4 := kw4.below hV121 kw4.lt
      have B_V121 := ex_trans B_V120 hV121
      go_upto_region 20 with fail
      show Code.wp _ _ _ _ _
      refine box4 (K := fun V => Code.wp _ _ _ _ V) ?_
      intro V122 hbx qa qb qc qt
      obtain ⟨pa, hpa⟩ : ∃ p, V121.heap.size = p := ⟨_, rfl⟩
      obtain ⟨pb, hpb⟩ : ∃ p, V121.heap.size + 1 = p := ⟨_, rfl⟩
      obtain ⟨pc, hpc⟩ : ∃ p, V121.heap.size + 1 + 1 = p := ⟨_, rfl⟩
      obtain ⟨pt, hpt⟩ : ∃ p, V121.heap.size + 1 + 1 + 1 = p := ⟨_, rfl⟩
      rw [hpt] at qt ⊢
      rw [hpc] at qc ⊢
      rw [hpb] at qb ⊢
      rw [hpa] at qa ⊢
      have ypa : w.heap.size ≤ pa := by have := B_V121.size; omega
      have ypb : w.heap.size ≤ pb := by have := B_V121.size; omega
      have ypc : w.heap.size ≤ pc := by have := B_V121.size; omega
      have ypt : w.heap.size ≤ pt := by have := B_V121.size; omega
      have hnn : pa < pb ∧ pb < pc ∧ pc < pt := by omega
      clear hpa hpb hpc hpt
      replace kr2 := kr2.below hbx kr2.lt
      replace km2 := km2.below hbx km2.lt
      replace kw2 := kw2.below hbx kw2.lt
      replace kr3 := kr3.below hbx kr3.lt
      replace km3 := km3.below hbx km3.lt
      replace kw3 := kw3.below hbx kw3.lt
      replace kr4 := kr4.below hbx kr4.lt
      replace km4 := km4.below hbx km4.lt
      replace kw4 := kw4.below hbx kw4.lt
      replace kt := kt.below hbx kt.lt
      replace kh := kh.below hbx kh.lt
      have B_V122 := ex_trans B_V121 hbx
      have x0 := qa.cell 0
      have x1 := qa.cell 1
      have x2 := qa.cell 2
      have x3 := qa.cell 3
      have lx := qa.lt
      have fx := qa.frozen0
      simp at x0 x1 x2 x3
      have z0 := km2.cell 0
      have z1 := km2.cell 1
      have z2 := km2.cell 2
      have lz := km2.lt
      have fz := km2.frozen0
      simp at z0 z1 z2
      go_upto_region 21 with fail
      clear lx fx x0 x1 x2 x3
      clear lz fz z0 z1 z2
      have zz_kr2 := blk_ne kr2 km2 (by decide)
      have zz_kw2 := blk_ne kw2 km2 (by decide)
      have zz_kr3 := blk_ne kr3 km2 (by decide)
      have zz_km3 := (show gm3 ≠ gm2 by omega)
      have zz_kw3 := blk_ne kw3 km2 (by decide)
      have zz_kr4 := blk_ne kr4 km2 (by decide)
      have zz_km4 := (show gm4 ≠ gm2 by omega)
      have zz_kw4 := blk_ne kw4 km2 (by decide)
      have zz_kt := blk_ne kt km2 (by decide)
      have zz_kh := blk_ne kh km2 (by decide)
      have zz_qa := blk_ne qa km2 (by decide)
      have zz_qb := blk_ne qb km2 (by decide)
      have zz_qc := blk_ne qc km2 (by decide)
      have zz_qt := blk_ne qt km2 (by decide)
      replace km2 := km2.set_ 1 (.int .i64 1)
      replace kr2 := kr2.far (p := ⟨gm2, 1, none⟩) zz_kr2 (.int .i64 1)
      replace kw2 := kw2.far (p := ⟨gm2, 1, none⟩) zz_kw2 (.int .i64 1)
      replace kr3 := kr3.far (p := ⟨gm2, 1, none⟩) zz_kr3 (.int .i64 1)
      replace km3 := km3.far (p := ⟨gm2, 1, none⟩) zz_km3 (.int .i64 1)
      replace kw3 := kw3.far (p := ⟨gm2, 1, none⟩) zz_kw3 (.int .i64 1)
      replace kr4 := kr4.far (p := ⟨gm2, 1, none⟩) zz_kr4 (.int .i64 1)
      replace km4 := km4.far (p := ⟨gm2, 1, none⟩) zz_km4 (.int .i64 1)
      replace kw4 := kw4.far (p := ⟨gm2, 1, none⟩) zz_kw4 (.int .i64 1)
      replace kt := kt.far (p := ⟨gm2, 1, none⟩) zz_kt (.int .i64 1)
      replace kh := kh.far (p := ⟨gm2, 1, none⟩) zz_kh (.int .i64 1)
      replace qa := qa.far (p := ⟨gm2, 1, none⟩) zz_qa (.int .i64 1)
      replace qb := qb.far (p := ⟨gm2, 1, none⟩) zz_qb (.int .i64 1)
      replace qc := qc.far (p := ⟨gm2, 1, none⟩) zz_qc (.int .i64 1)
      replace qt := qt.far (p := ⟨gm2, 1, none⟩) zz_qt (.int .i64 1)
      simp only [List.setIfInBounds_toArray, List.set_cons_zero, List.set_cons_succ] at km2
      clear zz_kr2 zz_kw2 zz_kr3 zz_km3 zz_kw3 zz_kr4 zz_km4 zz_kw4 zz_kt zz_kh zz_qa zz_qb zz_qc zz_qt
      have B_V123 := ex_set (p := ⟨gm2, 1, none⟩) (B_V122) yg2 (.int .i64 1)
      generalize (V122.setCell ⟨gm2, 1, none⟩ (.int .i64 1)) = V123 at *
      obtain ⟨oc, hoc, hmks⟩ := make_wg
      have HOC := Lib.hid hoc
      clear hoc
      have x0 := qb.cell 0
      have x1 := qb.cell 1
      have x2 := qb.cell 2
      have x3 := qb.cell 3
      have lx := qb.lt
      have fx := qb.frozen0
      simp at x0 x1 x2 x3
      go_upto_region 22 with fail
      clear lx fx x0 x1 x2 x3
      have hmkw2 : gw2 < V123.heap.size := kw2.lt
      have hmkw3 : gw3 < V123.heap.size := kw3.lt
      have hmkw4 : gw4 < V123.heap.size := kw4.lt
      have zz_kr2 := blk_ne kr2 qb (by decide)
      have zz_km2 := blk_ne km2 qb (by decide)
      have zz_kw2 := blk_ne kw2 qb (by decide)
      have zz_kr3 := blk_ne kr3 qb (by decide)
      have zz_km3 := blk_ne km3 qb (by decide)
      have zz_kw3 := blk_ne kw3 qb (by decide)
      have zz_kr4 := blk_ne kr4 qb (by decide)
      have zz_km4 := blk_ne km4 qb (by decide)
      have zz_kw4 := blk_ne kw4 qb (by decide)
      have zz_kt := blk_ne kt qb (by decide)
      have zz_kh := blk_ne kh qb (by decide)
      have zz_qa := (show pa ≠ pb by omega)
      have zz_qc := (show pc ≠ pb by omega)
      have zz_qt := blk_ne qt qb (by decide)
      replace qb := qb.set_ 3 (.slice (some ⟨V123.heap.size, 0, none⟩) 9 9)
      replace kr2 := kr2.far (p := ⟨pb, 3, none⟩) zz_kr2 (.slice (some ⟨V123.heap.size, 0, none⟩) 9 9)
      replace km2 := km2.far (p := ⟨pb, 3, none⟩) zz_km2 (.slice (some ⟨V123.heap.size, 0, none⟩) 9 9)
      replace kw2 := kw2.far (p := ⟨pb, 3, none⟩) zz_kw2 (.slice (some ⟨V123.heap.size, 0, none⟩) 9 9)
      replace kr3 := kr3.far (p := ⟨pb, 3, none⟩) zz_kr3 (.slice (some ⟨V123.heap.size, 0, none⟩) 9 9)
      replace km3 := km3.far (p := ⟨pb, 3, none⟩) zz_km3 (.slice (some ⟨V123.heap.size, 0, none⟩) 9 9)
      replace kw3 := kw3.far (p := ⟨pb, 3, none⟩) zz_kw3 (.slice (some ⟨V123.heap.size, 0, none⟩) 9 9)
      replace kr4 := kr4.far (p := ⟨pb, 3, none⟩) zz_kr4 (.slice (some ⟨V123.heap.size, 0, none⟩) 9 9)
      replace km4 := km4.far (p := ⟨pb, 3, none⟩) zz_km4 (.slice (some ⟨V123.heap.size, 0, none⟩) 9 9)
      replace kw4 := kw4.far (p := ⟨pb, 3, none⟩) zz_kw4 (.slice (some ⟨V123.heap.size, 0, none⟩) 9 9)
      replace kt := kt.far (p := ⟨pb, 3, none⟩) zz_kt (.slice (some ⟨V123.heap.size, 0, none⟩) 9 9)
      replace kh := kh.far (p := ⟨pb, 3, none⟩) zz_kh (.slice (some ⟨V123.heap.size, 0, none⟩) 9 9)
      replace qa := qa.far (p := ⟨pb, 3, none⟩) zz_qa (.slice (some ⟨V123.heap.size, 0, none⟩) 9 9)
      replace qc := qc.far (p := ⟨pb, 3, none⟩) zz_qc (.slice (some ⟨V123.heap.size, 0, none⟩) 9 9)
      replace qt := qt.far (p := ⟨pb, 3, none⟩) zz_qt (.slice (some ⟨V123.heap.size, 0, none⟩) 9 9)
      simp only [List.setIfInBounds_toArray, List.set_cons_zero, List.set_cons_succ] at qb
      clear zz_kr2 zz_km2 zz_kw2 zz_kr3 zz_km3 zz_kw3 zz_kr4 zz_km4 zz_kw4 zz_kt zz_kh zz_qa zz_qc zz_qt
      have hsz : (V123.setCell ⟨pb, 3, none⟩ (.slice (some ⟨V123.heap.size, 0, none⟩) 9 9)).heap.size = V123.heap.size := by simp
      have qm : Blk ((V123.setCell ⟨pb, 3, none⟩ (.slice (some ⟨V123.heap.size, 0, none⟩) 9 9)).alloc (.cells oc 128)) V123.heap.size 128 oc := Blk.new' _ _ _ hsz
      have XS := ex_alloc (ex_set (p := ⟨pb, 3, none⟩) (B_V123) ypb (.slice (some ⟨V123.heap.size, 0, none⟩) 9 9)) (.cells oc 128)
      replace kr2 := kr2.alloc (.cells oc 128)
      replace km2 := km2.alloc (.cells oc 128)
      replace kw2 := kw2.alloc (.cells oc 128)
      replace kr3 := kr3.alloc (.cells oc 128)
      replace km3 := km3.alloc (.cells oc 128)
      replace kw3 := kw3.alloc (.cells oc 128)
      replace kr4 := kr4.alloc (.cells oc 128)
      replace km4 := km4.alloc (.cells oc 128)
      replace kw4 := kw4.alloc (.cells oc 128)
      replace kt := kt.alloc (.cells oc 128)
      replace kh := kh.alloc (.cells oc 128)
      replace qa := qa.alloc (.cells oc 128)
      replace qb := qb.alloc (.cells oc 128)
      replace qc := qc.alloc (.cells oc 128)
      replace qt := qt.alloc (.cells oc 128)
      obtain ⟨pm9, hpm9⟩ : ∃ p, V123.heap.size = p := ⟨_, rfl⟩
      clear hsz
      rw [hpm9] at qm qb XS hmkw2 hmkw3 hmkw4 ⊢
      rw [hpm9] at kr2
      rw [hpm9] at km2
      rw [hpm9] at kw2
      rw [hpm9] at kr3
      rw [hpm9] at km3
      rw [hpm9] at kw3
      rw [hpm9] at kr4
      rw [hpm9] at km4
      rw [hpm9] at kw4
      rw [hpm9] at kt
      rw [hpm9] at kh
      rw [hpm9] at qa
      rw [hpm9] at qc
      rw [hpm9] at qt
      clear hpm9
      generalize (V123.setCell ⟨pb, 3, none⟩ (.slice (some ⟨pm9, 0, none⟩) 9 9)).alloc (.cells oc 128) = V124 at *
      have B_V124 := XS
      clear XS
      clear hmks
      have x0 := qc.cell 0
      have x1 := qc.cell 1
      have x2 := qc.cell 2
      have x3 := qc.cell 3
      have lx := qc.lt
      have fx := qc.frozen0
      simp at x0 x1 x2 x3
      go_upto_region 23 with fail
      clear lx fx x0 x1 x2 x3
      have zz_kr2 := blk_ne kr2 qc (by decide)
      have zz_km2 := blk_ne km2 qc (by decide)
      have zz_kw2 := blk_ne kw2 qc (by decide)
      have zz_kr3 := blk_ne kr3 qc (by decide)
      have zz_km3 := blk_ne km3 qc (by decide)
      have zz_kw3 := blk_ne kw3 qc (by decide)
      have zz_kr4 := blk_ne kr4 qc (by decide)
      have zz_km4 := blk_ne km4 qc (by decide)
      have zz_kw4 := blk_ne kw4 qc (by decide)
      have zz_kt := blk_ne kt qc (by decide)
      have zz_kh := blk_ne kh qc (by decide)
      have zz_qa := (show pa ≠ pc by omega)
      have zz_qb := (show pb ≠ pc by omega)
      have zz_qt := blk_ne qt qc (by decide)
      have zz_qm := blk_ne qm qc (by decide)
      replace qc := qc.set_ 0 (.slice none 0 0)
      replace kr2 := kr2.far (p := ⟨pc, 0, none⟩) zz_kr2 (.slice none 0 0)
      replace km2 := km2.far (p := ⟨pc, 0, none⟩) zz_km2 (.slice none 0 0)
      replace kw2 := kw2.far (p := ⟨pc, 0, none⟩) zz_kw2 (.slice none 0 0)
      replace kr3 := kr3.far (p := ⟨pc, 0, none⟩) zz_kr3 (.slice none 0 0)
      replace km3 := km3.far (p := ⟨pc, 0, none⟩) zz_km3 (.slice none 0 0)
      replace kw3 := kw3.far (p := ⟨pc, 0, none⟩) zz_kw3 (.slice none 0 0)
      replace kr4 := kr4.far (p := ⟨pc, 0, none⟩) zz_kr4 (.slice none 0 0)
      replace km4 := km4.far (p := ⟨pc, 0, none⟩) zz_km4 (.slice none 0 0)
      replace kw4 := kw4.far (p := ⟨pc, 0, none⟩) zz_kw4 (.slice none 0 0)
      replace kt := kt.far (p := ⟨pc, 0, none⟩) zz_kt (.slice none 0 0)
      replace kh := kh.far (p := ⟨pc, 0, none⟩) zz_kh (.slice none 0 0)
      replace qa := qa.far (p := ⟨pc, 0, none⟩) zz_qa (.slice none 0 0)
      replace qb := qb.far (p := ⟨pc, 0, none⟩) zz_qb (.slice none 0 0)
      replace qt := qt.far (p := ⟨pc, 0, none⟩) zz_qt (.slice none 0 0)
      replace qm := qm.far (p := ⟨pc, 0, none⟩) zz_qm (.slice none 0 0)
      simp only [List.setIfInBounds_toArray, List.set_cons_zero, List.set_cons_succ] at qc
      clear zz_kr2 zz_km2 zz_kw2 zz_kr3 zz_km3 zz_kw3 zz_kr4 zz_km4 zz_kw4 zz_kt zz_kh zz_qa zz_qb zz_qt zz_qm
      have B_V125 := ex_set (p := ⟨pc, 0, none⟩) (B_V124) ypc (.slice none 0 0)
      generalize (V124.setCell ⟨pc, 0, none⟩ (.slice none 0 0)) = V125 at *
      have x0 := qt.cell 0
      have x1 := qt.cell 1
      have x2 := qt.cell 2
      have x3 := qt.cell 3
      have lx := qt.lt
      have fx := qt.frozen0
      simp at x0 x1 x2 x3
      go_wp2_with fail
      clear lx fx x0 x1 x2 x3
      have hmkh : gh7 < V125.heap.size := kh.lt
      have zz_kr2 := blk_ne kr2 qt (by decide)
      have zz_km2 := blk_ne km2 qt (by decide)
      have zz_kw2 := blk_ne kw2 qt (by decide)
      have zz_kr3 := blk_ne kr3 qt (by decide)
      have zz_km3 := blk_ne km3 qt (by decide)
      have zz_kw3 := blk_ne kw3 qt (by decide)
      have zz_kr4 := blk_ne kr4 qt (by decide)
      have zz_km4 := blk_ne km4 qt (by decide)
      have zz_kw4 := blk_ne kw4 qt (by decide)
      have zz_kt := blk_ne kt qt (by decide)
      have zz_kh := blk_ne kh qt (by decide)
      have zz_qa := blk_ne qa qt (by decide)
      have zz_qb := blk_ne qb qt (by decide)
      have zz_qc := blk_ne qc qt (by decide)
      have zz_qm := blk_ne qm qt (by decide)
      replace qt := qt.set_ 1 (.slice (some ⟨V125.heap.size, 0, none⟩) 1 1)
      replace kr2 := kr2.far (p := ⟨pt, 1, none⟩) zz_kr2 (.slice (some ⟨V125.heap.size, 0, none⟩) 1 1)
      replace km2 := km2.far (p := ⟨pt, 1, none⟩) zz_km2 (.slice (some ⟨V125.heap.size, 0, none⟩) 1 1)
      replace kw2 := kw2.far (p := ⟨pt, 1, none⟩) zz_kw2 (.slice (some ⟨V125.heap.size, 0, none⟩) 1 1)
      replace kr3 := kr3.far (p := ⟨pt, 1, none⟩) zz_kr3 (.slice (some ⟨V125.heap.size, 0, none⟩) 1 1)
      replace km3 := km3.far (p := ⟨pt, 1, none⟩) zz_km3 (.slice (some ⟨V125.heap.size, 0, none⟩) 1 1)
      replace kw3 := kw3.far (p := ⟨pt, 1, none⟩) zz_kw3 (.slice (some ⟨V125.heap.size, 0, none⟩) 1 1)
      replace kr4 := kr4.far (p := ⟨pt, 1, none⟩) zz_kr4 (.slice (some ⟨V125.heap.size, 0, none⟩) 1 1)
      replace km4 := km4.far (p := ⟨pt, 1, none⟩) zz_km4 (.slice (some ⟨V125.heap.size, 0, none⟩) 1 1)
      replace kw4 := kw4.far (p := ⟨pt, 1, none⟩) zz_kw4 (.slice (some ⟨V125.heap.size, 0, none⟩) 1 1)
      replace kt := kt.far (p := ⟨pt, 1, none⟩) zz_kt (.slice (some ⟨V125.heap.size, 0, none⟩) 1 1)
      replace kh := kh.far (p := ⟨pt, 1, none⟩) zz_kh (.slice (some ⟨V125.heap.size, 0, none⟩) 1 1)
      replace qa := qa.far (p := ⟨pt, 1, none⟩) zz_qa (.slice (some ⟨V125.heap.size, 0, none⟩) 1 1)
      replace qb := qb.far (p := ⟨pt, 1, none⟩) zz_qb (.slice (some ⟨V125.heap.size, 0, none⟩) 1 1)
      replace qc := qc.far (p := ⟨pt, 1, none⟩) zz_qc (.slice (some ⟨V125.heap.size, 0, none⟩) 1 1)
      replace qm := qm.far (p := ⟨pt, 1, none⟩) zz_qm (.slice (some ⟨V125.heap.size, 0, none⟩) 1 1)
      simp only [List.setIfInBounds_toArray, List.set_cons_zero, List.set_cons_succ] at qt
      clear zz_kr2 zz_km2 zz_kw2 zz_kr3 zz_km3 zz_kw3 zz_kr4 zz_km4 zz_kw4 zz_kt zz_kh zz_qa zz_qb zz_qc zz_qm
      have hsz : (V125.setCell ⟨pt, 1, none⟩ (.slice (some ⟨V125.heap.size, 0, none⟩) 1 1)).heap.size = V125.heap.size := by simp
      have qh : Blk ((V125.setCell ⟨pt, 1, none⟩ (.slice (some ⟨V125.heap.size, 0, none⟩) 1 1)).alloc (.cells #[.int .i64 4] 3)) V125.heap.size 3 #[.int .i64 4] := Blk.new' _ _ _ hsz
      have XS := ex_alloc (ex_set (p := ⟨pt, 1, none⟩) (B_V125) ypt (.slice (some ⟨V125.heap.size, 0, none⟩) 1 1)) (.cells #[.int .i64 4] 3)
      replace kr2 := kr2.alloc (.cells #[.int .i64 4] 3)
      replace km2 := km2.alloc (.cells #[.int .i64 4] 3)
      replace kw2 := kw2.alloc (.cells #[.int .i64 4] 3)
      replace kr3 := kr3.alloc (.cells #[.int .i64 4] 3)
      replace km3 := km3.alloc (.cells #[.int .i64 4] 3)
      replace kw3 := kw3.alloc (.cells #[.int .i64 4] 3)
      replace kr4 := kr4.alloc (.cells #[.int .i64 4] 3)
      replace km4 := km4.alloc (.cells #[.int .i64 4] 3)
      replace kw4 := kw4.alloc (.cells #[.int .i64 4] 3)
      replace kt := kt.alloc (.cells #[.int .i64 4] 3)
      replace kh := kh.alloc (.cells #[.int .i64 4] 3)
      replace qa := qa.alloc (.cells #[.int .i64 4] 3)
      replace qb := qb.alloc (.cells #[.int .i64 4] 3)
      replace qc := qc.alloc (.cells #[.int .i64 4] 3)
      replace qt := qt.alloc (.cells #[.int .i64 4] 3)
      replace qm := qm.alloc (.cells #[.int .i64 4] 3)
      obtain ⟨ph9, hph9⟩ : ∃ p, V125.heap.size = p := ⟨_, rfl⟩
      clear hsz
      rw [hph9] at qh qt XS hmkh ⊢
      rw [hph9] at kr2
      rw [hph9] at km2
      rw [hph9] at kw2
      rw [hph9] at kr3
      rw [hph9] at km3
      rw [hph9] at kw3
      rw [hph9] at kr4
      rw [hph9] at km4
      rw [hph9] at kw4
      rw [hph9] at kt
      rw [hph9] at kh
      rw [hph9] at qa
      rw [hph9] at qb
      rw [hph9] at qc
      rw [hph9] at qm
      clear hph9
      generalize (V125.setCell ⟨pt, 1, none⟩ (.slice (some ⟨ph9, 0, none⟩) 1 1)).alloc (.cells #[.int .i64 4] 3) = V126 at *
      have B_V126 := XS
      clear XS
      refine (shift_own _).mono ?_
      rintro e V127 ⟨⟨gt8, gh8, rfl, kt8, kh8⟩, hV127⟩
      replace kr2 := kr2.below hV127 kr2.lt
      replace km2 := km2.below hV127 km2.lt
      replace kw2 := kw2.below hV127 kw2.lt
      replace kr3 := kr3.below hV127 kr3.lt
      replace km3 := km3.below hV127 km3.lt
      replace kw3 := kw3.below hV127 kw3.lt
      replace kr4 := kr4.below hV127 kr4.lt
      replace km4 := km4.below hV127 km4.lt
      replace kw4 := kw4.below hV127 kw4.lt
      replace kt := kt.below hV127 kt.lt
      replace kh := kh.below hV127 kh.lt
      replace qa := qa.below hV127 qa.lt
      replace qb := qb.below hV127 qb.lt
      replace qc := qc.below hV127 qc.lt
      replace qt := qt.below hV127 qt.lt
      replace qm := qm.below hV127 qm.lt
      replace qh := qh.below hV127 qh.lt
      have B_V127 := ex_trans B_V126 hV127
      have NG := ex_alloc (Below.refl V127.heap.size V127) (.cells #[.slice (some ⟨gt8, 0, none⟩) 2 2, .slice (some ⟨gh8, 0, none⟩) 2 2, .int .i64 9, .int .i64 5] 59)
      have qx : Blk (V127.alloc (.cells #[.slice (some ⟨gt8, 0, none⟩) 2 2, .slice (some ⟨gh8, 0, none⟩) 2 2, .int .i64 9, .int .i64 5] 59)) V127.heap.size 59 #[.slice (some ⟨gt8, 0, none⟩) 2 2, .slice (some ⟨gh8, 0, none⟩) 2 2, .int .i64 9, .int .i64 5] := Blk.new _ _ _
      go_wp2_with (refine pause_at 193 rfl ?_)
      obtain ⟨px9, hpx9⟩ : ∃ p, V127.heap.size = p := ⟨_, rfl⟩
      rw [hpx9] at qx ⊢
      have ypx9 : w.heap.size ≤ px9 := by have := B_V127.size; omega
      clear hpx9
      replace kr2 := kr2.below NG kr2.lt
      replace km2 := km2.below NG km2.lt
      replace kw2 := kw2.below NG kw2.lt
      replace kr3 := kr3.below NG kr3.lt
      replace km3 := km3.below NG km3.lt
      replace kw3 := kw3.below NG kw3.lt
      replace kr4 := kr4.below NG kr4.lt
      replace km4 := km4.below NG km4.lt
      replace kw4 := kw4.below NG kw4.lt
      replace kt := kt.below NG kt.lt
      replace kh := kh.below NG kh.lt
      replace qa := qa.below NG qa.lt
      replace qb := qb.below NG qb.lt
      replace qc := qc.below NG qc.lt
      replace qt := qt.below NG qt.lt
      replace qm := qm.below NG qm.lt
      replace qh := qh.below NG qh.lt
      replace kt8 := kt8.below NG kt8.lt
      replace kh8 := kh8.below NG kh8.lt
      have B_V128 := ex_trans B_V127 NG
      clear NG
      generalize V127.alloc (.cells #[.slice (some ⟨gt8, 0, none⟩) 2 2, .slice (some ⟨gh8, 0, none⟩) 2 2, .int .i64 9, .int .i64 5] 59) = V128 at *
      refine Paused.mk ?_
      refine wpList_load_row rfl 59 _ rfl _ rfl 59 _ (0, 0) _ (qx) Try.underlying59 rfl (by kernel_rfl) ?_
      go_wp2_with fail
      refine (sq_tired (some ⟨gt8, 0, none⟩) (some ⟨gh8, 0, none⟩) 2 2 _ (tired_in kt8 kh8)).mono ?_
      rintro e V129 ⟨⟨A6, n6, c6, rfl⟩, hV129⟩
      replace kr2 := kr2.below hV129 kr2.lt
      replace km2 := km2.below hV129 km2.lt
      replace kw2 := kw2.below hV129 kw2.lt
      replace kr3 := kr3.below hV129 kr3.lt
      replace km3 := km3.below hV129 km3.lt
      replace kw3 := kw3.below hV129 kw3.lt
      replace kr4 := kr4.below hV129 kr4.lt
      replace km4 := km4.below hV129 km4.lt
      replace kw4 := kw4.below hV129 kw4.lt
      replace kt := kt.below hV129 kt.lt
      replace kh := kh.below hV129 kh.lt
      replace qa := qa.below hV129 qa.lt
      replace qb := qb.below hV129 qb.lt
      replace qc := qc.below hV129 qc.lt
      replace qt := qt.below hV129 qt.lt
      replace qm := qm.below hV129 qm.lt
      replace qh := qh.below hV129 qh.lt
      replace kt8 := kt8.below hV129 kt8.lt
      replace kh8 := kh8.below hV129 kh8.lt
      replace qx := qx.below hV129 qx.lt
      have B_V129 := ex_trans B_V128 hV129
      clear kt8
      clear kh8
      clear qx
      obtain ⟨oc1, hoc1, hmk1⟩ := make_r1
      have HOC1 := Lib.hid hoc1
      clear hoc1
      have NF := ex_alloc (ex_alloc (Below.refl V129.heap.size V129) (.cells oc1 50)) (.cells #[.int .i64 0] 3)
      have f1 : Blk ((V129.alloc (.cells oc1 50)).alloc (.cells #[.int .i64 0] 3)) V129.heap.size 50 oc1 := (Blk.new _ _ _).alloc _
      have f2 : Blk ((V129.alloc (.cells oc1 50)).alloc (.cells #[.int .i64 0] 3)) (V129.heap.size + 1) 3 #[.int .i64 0] := Blk.new' _ _ _ (by simp)
      go_wp2_with fail
      replace kr2 := kr2.below NF kr2.lt
      replace km2 := km2.below NF km2.lt
      replace kw2 := kw2.below NF kw2.lt
      replace kr3 := kr3.below NF kr3.lt
      replace km3 := km3.below NF km3.lt
      replace kw3 := kw3.below NF kw3.lt
      replace kr4 := kr4.below NF kr4.lt
      replace km4 := km4.below NF km4.lt
      replace kw4 := kw4.below NF kw4.lt
      replace kt := kt.below NF kt.lt
      replace kh := kh.below NF kh.lt
      replace qa := qa.below NF qa.lt
      replace qb := qb.below NF qb.lt
      replace qc := qc.below NF qc.lt
      replace qt := qt.below NF qt.lt
      replace qm := qm.below NF qm.lt
      replace qh := qh.below NF qh.lt
      have B_V130 := ex_trans B_V129 NF
      clear NF hmk1
      generalize (V129.alloc (.cells oc1 50)).alloc (.cells #[.int .i64 0] 3) = V130 at *
      refine (sq_free (some ⟨V129.heap.size, 0, none⟩) (some ⟨V129.heap.size + 1, 0, none⟩) 1 1 _ ⟨zer_r1 HOC1.out f1, free_in f2⟩).mono ?_
      rintro e V131 ⟨⟨A8, c8, rfl⟩, hV131⟩
      replace kr2 := kr2.below hV131 kr2.lt
      replace km2 := km2.below hV131 km2.lt
      replace kw2 := kw2.below hV131 kw2.lt
      replace kr3 := kr3.below hV131 kr3.lt
      replace km3 := km3.below hV131 km3.lt
      replace kw3 := kw3.below hV131 kw3.lt
      replace kr4 := kr4.below hV131 kr4.lt
      replace km4 := km4.below hV131 km4.lt
      replace kw4 := kw4.below hV131 kw4.lt
      replace kt := kt.below hV131 kt.lt
      replace kh := kh.below hV131 kh.lt
      replace qa := qa.below hV131 qa.lt
      replace qb := qb.below hV131 qb.lt
      replace qc := qc.below hV131 qc.lt
      replace qt := qt.below hV131 qt.lt
      replace qm := qm.below hV131 qm.lt
      replace qh := qh.below hV131 qh.lt
      have B_V131 := ex_trans B_V130 hV131
      clear f1 f2 HOC1
      obtain ⟨oc4, hoc4, hmk4⟩ := make_r4
      have HOC4 := Lib.hid hoc4
      clear hoc4
      go_upto_region 28 with fail
      simp only [List.append_eq, List.cons_append, List.nil_append]
      go_wp2_with (refine pause_at 248 rfl ?_)
      refine Paused.mk ?_
      refine wpList_load_rowG (by kernel_rfl) 42 _ rfl _ (by kernel_rfl) 42 _ (0, 0) _ (qa) Try.underlying42 rfl (by kernel_rfl) ?_
      go_wp2_with fail
      refine (sq_wild (some ⟨gr2, 0, none⟩) (some ⟨gm2, 0, none⟩) (some ⟨gw2, 0, none⟩) 2 3 1 _ (wild_in kr2 km2 kw2)).mono ?_
      rintro e V132 ⟨rfl, hV132⟩
      replace kr2 := kr2.below hV132 kr2.lt
      replace km2 := km2.below hV132 km2.lt
      replace kw2 := kw2.below hV132 kw2.lt
      replace kr3 := kr3.below hV132 kr3.lt
      replace km3 := km3.below hV132 km3.lt
      replace kw3 := kw3.below hV132 kw3.lt
      replace kr4 := kr4.below hV132 kr4.lt
      replace km4 := km4.below hV132 km4.lt
      replace kw4 := kw4.below hV132 kw4.lt
      replace kt := kt.below hV132 kt.lt
      replace kh := kh.below hV132 kh.lt
      replace qa := qa.below hV132 qa.lt
      replace qb := qb.below hV132 qb.lt
      replace qc := qc.below hV132 qc.lt
      replace qt := qt.below hV132 qt.lt
      replace qm := qm.below hV132 qm.lt
      replace qh := qh.below hV132 qh.lt
      have B_V132 := ex_trans B_V131 hV132
      clear qa
      clear kr2
      clear km2
      clear kw2
      go_wp2_with (refine pause_at 253 rfl ?_)
      refine Paused.mk ?_
      refine wpList_load_rowG (by kernel_rfl) 42 _ rfl _ (by kernel_rfl) 42 _ (0, 0) _ (qb) Try.underlying42 rfl (by kernel_rfl) ?_
      go_wp2_with fail
      refine (sq_many (some ⟨gr3, 0, none⟩) (some ⟨gm3, 0, none⟩) (some ⟨pm9, 0, none⟩) 2 3 9 _ ⟨(cel_in kr3 km3 kw3).rooms, (cel_in kr3 km3 kw3).moves, zer_wg HOC.out qm⟩).mono ?_
      rintro e V133 ⟨rfl, hV133⟩
      replace kr3 := kr3.below hV133 kr3.lt
      replace km3 := km3.below hV133 km3.lt
      replace kw3 := kw3.below hV133 kw3.lt
      replace kr4 := kr4.below hV133 kr4.lt
      replace km4 := km4.below hV133 km4.lt
      replace kw4 := kw4.below hV133 kw4.lt
      replace kt := kt.below hV133 kt.lt
      replace kh := kh.below hV133 kh.lt
      replace qb := qb.below hV133 qb.lt
      replace qc := qc.below hV133 qc.lt
      replace qt := qt.below hV133 qt.lt
      replace qm := qm.below hV133 qm.lt
      replace qh := qh.below hV133 qh.lt
      have B_V133 := ex_trans B_V132 hV133
      clear qb
      clear kr3
      clear km3
      clear kw3
      clear qm
      go_wp2_with (refine pause_at 258 rfl ?_)
      refine Paused.mk ?_
      refine wpList_load_rowG (by kernel_rfl) 42 _ rfl _ (by kernel_rfl) 42 _ (0, 0) _ (qc) Try.underlying42 rfl (by kernel_rfl) ?_
      go_wp2_with fail
      refine (sq_noroom none (some ⟨gm4, 0, none⟩) (some ⟨gw4, 0, none⟩) 0 3 1 _ ⟨fun h => absurd h (by simp [noneS]), (cel_in kr4 km4 kw4).moves, (cel_in kr4 km4 kw4).wgs⟩).mono ?_
      rintro e V134 ⟨rfl, hV134⟩
      replace kr4 := kr4.below hV134 kr4.lt
      replace km4 := km4.below hV134 km4.lt
      replace kw4 := kw4.below hV134 kw4.lt
      replace kt := kt.below hV134 kt.lt
      replace kh := kh.below hV134 kh.lt
      replace qc := qc.below hV134 qc.lt
      replace qt := qt.below hV134 qt.lt
      replace qh := qh.below hV134 qh.lt
      have B_V134 := ex_trans B_V133 hV134
      clear qc
      clear kr4
      clear km4
      clear kw4
      go_wp2_with fail
      refine (sq_nothing none none none 0 0 0 _ ⟨fun h => absurd h (by simp), fun h => absurd h (by simp), fun h => absurd h (by simp)⟩).mono ?_
      rintro e V135 ⟨rfl, hV135⟩
      replace kt := kt.below hV135 kt.lt
      replace kh := kh.below hV135 kh.lt
      replace qt := qt.below hV135 qt.lt
      replace qh := qh.below hV135 qh.lt
      have B_V135 := ex_trans B_V134 hV135
      go_wp2_with (refine pause_at 268 rfl ?_)
      refine Paused.mk ?_
      refine wpList_load_rowG (by kernel_rfl) 59 _ rfl _ (by kernel_rfl) 59 _ (0, 0) _ (qt) Try.underlying59 rfl (by kernel_rfl) ?_
      go_wp2_with fail
      refine (sq_bad (some ⟨gt7, 0, none⟩) (some ⟨ph9, 0, none⟩) 2 1 _ (bad_in kt qh)).mono ?_
      rintro e V136 ⟨rfl, hV136⟩
      replace kt := kt.below hV136 kt.lt
      replace kh := kh.below hV136 kh.lt
      replace qt := qt.below hV136 qt.lt
      replace qh := qh.below hV136 qh.lt
      have B_V136 := ex_trans B_V135 hV136
      clear qt
      clear kt
      clear kh
      clear qh
      go_wp2_with fail
      refine (sq_nil none none 0 0 _ ⟨fun h => absurd h (by simp), fun h => absurd h (by simp)⟩).mono ?_
      rintro e V137 ⟨rfl, hV137⟩
      have B_V137 := ex_trans B_V136 hV137
      have NF := ex_alloc (Below.refl V137.heap.size V137) (.cells oc4 50)
      have f4 : Blk (V137.alloc (.cells oc4 50)) V137.heap.size 50 oc4 := Blk.new _ _ _
      go_wp2_with fail
      have B_V138 := ex_trans B_V137 NF
      clear NF hmk4
      generalize V137.alloc (.cells oc4 50) = V138 at *
      refine (sq_four (some ⟨V137.heap.size, 0, none⟩) none 4 0 _ ⟨zer_r4 HOC4.out f4, fun h => absurd h (by simp)⟩).mono ?_
      rintro e V139 ⟨rfl, hV139⟩
      have B_V139 := ex_trans B_V138 hV139
      clear f4 HOC4
      go_wp2_with fail
      refine (awake_any _).mono ?_
      rintro e V140 ⟨rfl, hV140⟩
      have B_V140 := ex_trans B_V139 hV140
      go_wp2
      go_ret
      exact ⟨rfl, B_V140⟩
     refine wp_region_ext_tq 8 (.quiet 1 (.fork 0 (.fork 2 (.quiet 3 (.quiet 4 (.quiet 5 (.loud 6 (.loud 7 .done))))) 6 (.loud 2 (.quiet 3 (.quiet 4 (.quiet 5 (.loud 7 .done)))))) 6 (.loud 0 (.loud 2 (.quiet 3 (.quiet 4 (.quiet 5 (.loud 7 .done)))))))) (by kernel_rfl) (by kernel_rfl) (by intro d _ _ _ _ h; cases d <;> exact h) ?_
     have D0 := (Below.refl V109.heap.size V109).drew
     repeat (refine tq_quiet rfl ?_; go_big_quiet_step (fail); refine wpQuiet_nil ?_)
     refine tq_fork rfl rfl ?_ ?_
     ·
      go_wp2_with fail
      refine (cellar_any 35 40 _).mono ?_
      rintro e V141 ⟨⟨Ar1, Am1, Aw1, cr1, cm1, cw1, rfl, hs1⟩, hV141⟩
      have N0 := ex_trans ((Below.refl V109.heap.size V109)).drew hV141
      go_wp2_with fail
      refine ⟨inEx N0, ?_⟩
      repeat (refine tq_quiet rfl ?_; go_big_quiet_step (fail); refine wpQuiet_nil ?_)
      refine tq_fork rfl rfl ?_ ?_
      ·
       go_wp2_with fail
       refine (sq_late Ar1 Am1 Aw1 cr1 cm1 cw1 (some ⟨q0, 0, none⟩) (some ⟨q1, 0, none⟩) 2 3 _ hs1 (s0.go (N0)) (s1.go (N0))).mono ?_
       rintro e V142 ⟨⟨a1, b1, rfl⟩, hV142⟩
       have N2 := ex_trans N0 hV142
       go_wp2_with fail
       refine ⟨inEx N2, ?_⟩
       repeat (refine tq_quiet rfl ?_; go_big_quiet_step (fail); refine wpQuiet_nil ?_)
       refine tq_loud rfl ?_
       go_wp2_with fail
       have sz := (N2).size
       try simp at sz
       have N6 := ex_alloc N2 (.cells #[.int .i64 0, .int .i64 0] 50)
       have bz : Blk (V142.alloc (.cells #[.int .i64 0, .int .i64 0] 50)) (V142.heap.size) 50 #[.int .i64 0, .int .i64 0] := Blk.new' _ _ _ (by first | rfl | (simp; done) | (simp; omega))
       obtain ⟨pz, hpz⟩ : ∃ p, V142.heap.size = p := ⟨_, rfl⟩
       rw [hpz] at bz
       try rw [hpz]
       have yz : V109.heap.size ≤ pz := by omega
       clear sz
       refine ⟨inEx N6, ?_⟩
       repeat (refine tq_quiet rfl ?_; go_big_quiet_step (fail); refine wpQuiet_nil ?_)
       refine tq_loud rfl ?_
       have XA7 := N6
       generalize (V142.alloc (.cells #[.int .i64 0, .int .i64 0] 50)) = V143 at *
       have sc0 : V143.cell? ⟨pz, 0, none⟩ = some (.int .i64 0) := bz.cell 0
       have sc1 : V143.cell? ⟨pz, 1, none⟩ = some (.int .i64 0) := bz.cell 1
       have sf := bz.frozen0
       have sl := bz.lt
       go_wp2_with fail
       replace bz := bz.set_ 0 (.int .i64 a1)
       replace XA7 := ex_set (p := ⟨pz, 0, none⟩) XA7 yz (.int .i64 a1)
       replace bz := bz.set_ 1 (.int .i64 b1)
       replace XA7 := ex_set (p := ⟨pz, 1, none⟩) XA7 yz (.int .i64 b1)
       simp only [List.setIfInBounds_toArray, List.set_cons_zero, List.set_cons_succ] at bz
       clear sf sl sc0 sc1
       generalize ((V143.setCell ⟨pz, 0, none⟩ (.int .i64 a1)).setCell ⟨pz, 1, none⟩ (.int .i64 b1)) = V144 at *
       refine ⟨inEx XA7, ?_⟩
       repeat (refine tq_quiet rfl ?_; go_big_quiet_step (fail); refine wpQuiet_nil ?_)
       refine tq_done (r := [_]) rfl ?_
       go_wp2_with fail
       exact hrest V144  _ (XA7)  (exFrame (by kernel_rfl))
      ·
       go_wp2_with fail
       have sz := (N0).size
       try simp at sz
       have N6 := ex_alloc N0 (.cells #[.int .i64 0, .int .i64 0] 50)
       have bz : Blk (V141.alloc (.cells #[.int .i64 0, .int .i64 0] 50)) (V141.heap.size) 50 #[.int .i64 0, .int .i64 0] := Blk.new' _ _ _ (by first | rfl | (simp; done) | (simp; omega))
       replace hs1 := hs1.go (ex_alloc (Below.refl V141.heap.size V141) (.cells #[.int .i64 0, .int .i64 0] 50))
       obtain ⟨pz, hpz⟩ : ∃ p, V141.heap.size = p := ⟨_, rfl⟩
       rw [hpz] at bz
       try rw [hpz]
       have yz : V109.heap.size ≤ pz := by omega
       clear sz
       refine ⟨inEx N6, ?_⟩
       repeat (refine tq_quiet rfl ?_; go_big_quiet_step (fail); refine wpQuiet_nil ?_)
       refine tq_loud rfl ?_
       go_wp2_with fail
       refine (sq_late Ar1 Am1 Aw1 cr1 cm1 cw1 (some ⟨q0, 0, none⟩) (some ⟨q1, 0, none⟩) 2 3 _ hs1 (s0.go (N6)) (s1.go (N6))).mono ?_
       rintro e V145 ⟨⟨a1, b1, rfl⟩, hV145⟩
       replace bz := Blk.below bz hV145 bz.lt
       have N2 := ex_trans N6 hV145
       go_wp2_with fail
       refine ⟨inEx N2, ?_⟩
       repeat (refine tq_quiet rfl ?_; go_big_quiet_step (fail); refine wpQuiet_nil ?_)
       refine tq_loud rfl ?_
       have XA7 := N2
       generalize V145 = V146 at *
       have sc0 : V146.cell? ⟨pz, 0, none⟩ = some (.int .i64 0) := bz.cell 0
       have sc1 : V146.cell? ⟨pz, 1, none⟩ = some (.int .i64 0) := bz.cell 1
       have sf := bz.frozen0
       have sl := bz.lt
       go_wp2_with fail
       replace bz := bz.set_ 0 (.int .i64 a1)
       replace XA7 := ex_set (p := ⟨pz, 0, none⟩) XA7 yz (.int .i64 a1)
       replace bz := bz.set_ 1 (.int .i64 b1)
       replace XA7 := ex_set (p := ⟨pz, 1, none⟩) XA7 yz (.int .i64 b1)
       simp only [List.setIfInBounds_toArray, List.set_cons_zero, List.set_cons_succ] at bz
       clear sf sl sc0 sc1
       generalize ((V146.setCell ⟨pz, 0, none⟩ (.int .i64 a1)).setCell ⟨pz, 1, none⟩ (.int .i64 b1)) = V147 at *
       refine ⟨inEx XA7, ?_⟩
       repeat (refine tq_quiet rfl ?_; go_big_quiet_step (fail); refine wpQuiet_nil ?_)
       refine tq_done (r := [_]) rfl ?_
       go_wp2_with fail
       exact hrest V147  _ (XA7)  (exFrame (by kernel_rfl))
     ·
      go_wp2_with fail
      have sz := ((Below.refl V109.heap.size V109)).size
      try simp at sz
      have N6 := ex_alloc (Below.refl V109.heap.size V109) (.cells #[.int .i64 0, .int .i64 0] 50)
      have bz : Blk (V109.alloc (.cells #[.int .i64 0, .int .i64 0] 50)) (V109.heap.size) 50 #[.int .i64 0, .int .i64 0] := Blk.new' _ _ _ (by first | rfl | (simp; done) | (simp; omega))
      obtain ⟨pz, hpz⟩ : ∃ p, V109.heap.size = p := ⟨_, rfl⟩
      rw [hpz] at bz
      try rw [hpz]
      have yz : V109.heap.size ≤ pz := by omega
      clear sz
      refine ⟨inEx (N6).drew, ?_⟩
      repeat (refine tq_quiet rfl ?_; go_big_quiet_step (fail); refine wpQuiet_nil ?_)
      refine tq_loud rfl ?_
      go_wp2_with fail
      refine (cellar_any 35 40 _).mono ?_
      rintro e V148 ⟨⟨Ar1, Am1, Aw1, cr1, cm1, cw1, rfl, hs1⟩, hV148⟩
      replace bz := Blk.below (Blk.drew bz) hV148 bz.lt
      have N0 := ex_trans (N6).drew hV148
      go_wp2_with fail
      refine ⟨inEx N0, ?_⟩
      repeat (refine tq_quiet rfl ?_; go_big_quiet_step (fail); refine wpQuiet_nil ?_)
      refine tq_loud rfl ?_
      go_wp2_with fail
      refine (sq_late Ar1 Am1 Aw1 cr1 cm1 cw1 (some ⟨q0, 0, none⟩) (some ⟨q1, 0, none⟩) 2 3 _ hs1 (s0.go (N0)) (s1.go (N0))).mono ?_
      rintro e V149 ⟨⟨a1, b1, rfl⟩, hV149⟩
      replace bz := Blk.below bz hV149 bz.lt
      have N2 := ex_trans N0 hV149
      go_wp2_with fail
      refine ⟨inEx N2, ?_⟩
      repeat (refine tq_quiet rfl ?_; go_big_quiet_step (fail); refine wpQuiet_nil ?_)
      refine tq_loud rfl ?_
      have XA7 := N2
      generalize V149 = V150 at *
      have sc0 : V150.cell? ⟨pz, 0, none⟩ = some (.int .i64 0) := bz.cell 0
      have sc1 : V150.cell? ⟨pz, 1, none⟩ = some (.int .i64 0) := bz.cell 1
      have sf := bz.frozen0
      have sl := bz.lt
      go_wp2_with fail
      replace bz := bz.set_ 0 (.int .i64 a1)
      replace XA7 := ex_set (p := ⟨pz, 0, none⟩) XA7 yz (.int .i64 a1)
      replace bz := bz.set_ 1 (.int .i64 b1)
      replace XA7 := ex_set (p := ⟨pz, 1, none⟩) XA7 yz (.int .i64 b1)
      simp only [List.setIfInBounds_toArray, List.set_cons_zero, List.set_cons_succ] at bz
      clear sf sl sc0 sc1
      generalize ((V150.setCell ⟨pz, 0, none⟩ (.int .i64 a1)).setCell ⟨pz, 1, none⟩ (.int .i64 b1)) = V151 at *
      refine ⟨inEx XA7, ?_⟩
      repeat (refine tq_quiet rfl ?_; go_big_quiet_step (fail); refine wpQuiet_nil ?_)
      refine tq_done (r := [_]) rfl ?_
      go_wp2_with fail
      exact hrest V151  _ (XA7)  (exFrame (by kernel_rfl))
    refine wp_region_ext_tq 6 (.quiet 1 (.loud 0 (.loud 2 (.quiet 3 (.quiet 4 (.quiet 5 .done)))))) (by kernel_rfl) (by kernel_rfl) (by intro d _ _ _ _ h; cases d <;> exact h) ?_
    have D0 := (Below.refl V103.heap.size V103).drew
    repeat (refine tq_quiet rfl ?_; go_big_quiet_step (fail); refine wpQuiet_nil ?_)
    refine tq_loud rfl ?_
    go_wp2_with fail
    refine (cellar_any 22 24 _).mono ?_
    rintro e V152 ⟨⟨Ar1, Am1, Aw1, cr1, cm1, cw1, rfl, hs1⟩, hV152⟩
    have N0 := ex_trans ((Below.refl V103.heap.size V103)).drew hV152
    go_wp2_with fail
    refine ⟨inEx N0, ?_⟩
    repeat (refine tq_quiet rfl ?_; go_big_quiet_step (fail); refine wpQuiet_nil ?_)
    refine tq_loud rfl ?_
    go_wp2_with fail
    refine (sq_out Ar1 Am1 Aw1 cr1 cm1 cw1 (some ⟨q0, 0, none⟩) (some ⟨q1, 0, none⟩) 2 3 _ hs1 (s0.go (N0)) (s1.go (N0))).mono ?_
    rintro e V153 ⟨⟨a1, b1, rfl⟩, hV153⟩
    have N2 := ex_trans N0 hV153
    go_wp2_with fail
    refine ⟨inEx N2, ?_⟩
    repeat (refine tq_quiet rfl ?_; go_big_quiet_step (fail); refine wpQuiet_nil ?_)
    refine tq_done (r := [_]) rfl ?_
    go_wp2_with fail
    exact hrest V153  _ (N2)  (exFrame (by kernel_rfl))
   refine wp_region_ext_tq 7 (.quiet 1 (.loud 0 (.loud 2 (.quiet 3 (.quiet 4 (.quiet 5 (.quiet 6 .done))))))) (by kernel_rfl) (by kernel_rfl) (by intro d _ _ _ _ h; cases d <;> exact h) ?_
   have D0 := (Below.refl V102.heap.size V102).drew
   repeat (refine tq_quiet rfl ?_; go_big_quiet_step (fail); refine wpQuiet_nil ?_)
   refine tq_loud rfl ?_
   go_wp2_with fail
   refine (cellar_any 22 24 _).mono ?_
   rintro e V154 ⟨⟨Ar1, Am1, Aw1, cr1, cm1, cw1, rfl, hs1⟩, hV154⟩
   have N0 := ex_trans ((Below.refl V102.heap.size V102)).drew hV154
   go_wp2_with fail
   refine ⟨inEx N0, ?_⟩
   repeat (refine tq_quiet rfl ?_; go_big_quiet_step (fail); refine wpQuiet_nil ?_)
   refine tq_loud rfl ?_
   go_wp2_with fail
   refine (sq_lost Ar1 Am1 Aw1 cr1 cm1 cw1 (some ⟨q0, 0, none⟩) (some ⟨q1, 0, none⟩) 2 3 _ hs1 (s0.go (N0)) (s1.go (N0))).mono ?_
   rintro e V155 ⟨rfl, hV155⟩
   have N2 := ex_trans N0 hV155
   go_wp2_with fail
   refine ⟨inEx N2, ?_⟩
   repeat (refine tq_quiet rfl ?_; go_big_quiet_step (fail); refine wpQuiet_nil ?_)
   refine tq_done (r := [_]) rfl ?_
   go_wp2_with fail
   exact hrest V155  _ (N2)  (exFrame (by kernel_rfl))
  refine wp_region_ext_tq 7 (.quiet 1 (.loud 0 (.loud 2 (.quiet 3 (.quiet 4 (.quiet 5 (.quiet 6 .done))))))) (by kernel_rfl) (by kernel_rfl) (by intro d _ _ _ _ h; cases d <;> exact h) ?_
  have D0 := (Below.refl V101.heap.size V101).drew
  repeat (refine tq_quiet rfl ?_; go_big_quiet_step (fail); refine wpQuiet_nil ?_)
  refine tq_loud rfl ?_
  go_wp2_with fail
  refine (cellar_any 22 24 _).mono ?_
  rintro e V156 ⟨⟨Ar1, Am1, Aw1, cr1, cm1, cw1, rfl, hs1⟩, hV156⟩
  have N0 := ex_trans ((Below.refl V101.heap.size V101)).drew hV156
  go_wp2_with fail
  refine ⟨inEx N0, ?_⟩
  repeat (refine tq_quiet rfl ?_; go_big_quiet_step (fail); refine wpQuiet_nil ?_)
  refine tq_loud rfl ?_
  go_wp2_with fail
  refine (sq_play Ar1 Am1 Aw1 cr1 cm1 cw1 (some ⟨p0, 0, none⟩) (some ⟨p3, 0, none⟩) (some ⟨p4, 0, none⟩) 2 2 3 _ _ _ hs1 (ht.go (N0)) (HSMT 21)).mono ?_
  rintro e V157 ⟨⟨n1, A9, c9, rfl⟩, hV157⟩
  have N2 := ex_trans N0 hV157
  go_wp2_with fail
  refine ⟨inEx N2, ?_⟩
  repeat (refine tq_quiet rfl ?_; go_big_quiet_step (fail); refine wpQuiet_nil ?_)
  refine tq_done (r := [_]) rfl ?_
  go_wp2_with fail
  exact hrest V157  _ (N2)  (exFrame (by kernel_rfl))
 clear hK0
 have HREST := Lib.hid hrest
 clear hrest
 have y0 : V7.cell? ⟨pm, 0, none⟩ = some (.int .i64 0) := qm.cell 0
 have y1 : V7.cell? ⟨pm, 1, none⟩ = some (.int .i64 7) := qm.cell 1
 have ly := qm.lt
 have t0 : V7.cell? ⟨p5, 0, none⟩ = some (.slice (some ⟨p0, 0, none⟩) 2 2) := gt.cell 0
 have t1 : V7.cell? ⟨p5, 1, none⟩ = some (.slice (some ⟨p3, 0, none⟩) 2 2) := gt.cell 1
 have t2 : V7.cell? ⟨p5, 2, none⟩ = some (.slice (some ⟨p4, 0, none⟩) 3 3) := gt.cell 2
 have lt5 := gt.lt
 refine wp_region_ext_parts 63 [((.quiet 0 (.quiet 1 (.quiet 2 (.quiet 3 (.quiet 4 (.quiet 5 (.quiet 6 (.quiet 7 (.fork 8 (.loud 9 .done) 9 (.loud 8 .done)))))))))), 10), ((.loud 10 (.loud 11 (.quiet 12 (.quiet 13 (.quiet 14 (.quiet 15 (.quiet 16 (.quiet 17 (.quiet 18 (.quiet 19 (.loud 20 (.quiet 21 (.quiet 22 (.quiet 23 (.quiet 24 (.quiet 25 (.quiet 26 (.quiet 27 (.quiet 28 (.quiet 29 (.quiet 30 (.quiet 31 (.quiet 33 (.loud 32 (.loud 34 (.quiet 35 (.quiet 36 (.quiet 37 (.quiet 39 (.loud 38 (.loud 40 (.quiet 41 (.quiet 42 .done))))))))))))))))))))))))))))))))), 43), ((.fork3 43 (.fork 44 (.loud 45 (.loud 46 (.loud 47 (.quiet 48 (.quiet 49 (.quiet 50 .done)))))) 45 (.loud 44 (.loud 46 (.loud 47 (.quiet 48 (.quiet 49 (.quiet 50 .done))))))) 44 (.fork 43 (.loud 45 (.loud 46 (.loud 47 (.quiet 48 (.quiet 49 (.quiet 50 .done)))))) 45 (.fork 43 (.loud 46 (.loud 47 (.quiet 48 (.quiet 49 (.quiet 50 .done))))) 46 (.loud 43 (.loud 47 (.quiet 48 (.quiet 49 (.quiet 50 .done))))))) 45 (.fork 43 (.loud 44 (.loud 46 (.loud 47 (.quiet 48 (.quiet 49 (.quiet 50 .done)))))) 44 (.fork 43 (.loud 46 (.loud 47 (.quiet 48 (.quiet 49 (.quiet 50 .done))))) 46 (.loud 43 (.loud 47 (.quiet 48 (.quiet 49 (.quiet 50 .done)))))))), 51), ((.fork3 51 (.fork 52 (.loud 53 (.loud 54 (.loud 55 (.quiet 56 (.quiet 57 .done))))) 53 (.loud 52 (.loud 54 (.loud 55 (.quiet 56 (.quiet 57 .done)))))) 52 (.fork 51 (.loud 53 (.loud 54 (.loud 55 (.quiet 56 (.quiet 57 .done))))) 53 (.fork 51 (.loud 54 (.loud 55 (.quiet 56 (.quiet 57 .done)))) 54 (.loud 51 (.loud 55 (.quiet 56 (.quiet 57 .done)))))) 53 (.fork 51 (.loud 52 (.loud 54 (.loud 55 (.quiet 56 (.quiet 57 .done))))) 52 (.fork 51 (.loud 54 (.loud 55 (.quiet 56 (.quiet 57 .done)))) 54 (.loud 51 (.loud 55 (.quiet 56 (.quiet 57 .done))))))), 58)] (.fork3 58 (.fork 59 (.loud 60 (.loud 61 (.loud 62 .done))) 60 (.loud 59 (.loud 61 (.loud 62 .done)))) 59 (.fork 58 (.loud 60 (.loud 61 (.loud 62 .done))) 60 (.fork 58 (.loud 61 (.loud 62 .done)) 61 (.loud 58 (.loud 62 .done)))) 60 (.fork 58 (.loud 59 (.loud 61 (.loud 62 .done))) 59 (.fork 58 (.loud 61 (.loud 62 .done)) 61 (.loud 58 (.loud 62 .done))))) [(fun a W => Rel (fun a W => Below V7.heap.size V7 W ∧ ∃ r0 : Nat, Blk W r0 3 #[.int .i64 57, .int .i64 56, .int .i64 49] ∧ ∃ r1 : Nat, Blk W r1 3 #[.int .i64 45, .int .i64 24, .int .i64 29] ∧ ∃ u : Nat → Value, a = ⟨List.toArray (u 0 :: .pointer (some ⟨p5, 0, none⟩) :: .slice AP 2 cp :: .bool true :: .int .i64 0 :: .pointer (some ⟨q2, 0, none⟩) :: .pointer (some ⟨pm, 0, none⟩) :: .int .i64 0 :: .int .i64 0 :: .int .i64 0 :: u 10 :: u 11 :: u 12 :: u 13 :: u 14 :: u 15 :: u 16 :: u 17 :: u 18 :: u 19 :: u 20 :: u 21 :: u 22 :: u 23 :: u 24 :: u 25 :: u 26 :: u 27 :: u 28 :: u 29 :: u 30 :: u 31 :: u 32 :: u 33 :: u 34 :: u 35 :: u 36 :: u 37 :: u 38 :: u 39 :: u 40 :: u 41 :: u 42 :: u 43 :: u 44 :: u 45 :: u 46 :: u 47 :: u 48 :: u 49 :: u 50 :: u 51 :: u 52 :: u 53 :: u 54 :: u 55 :: u 56 :: u 57 :: u 58 :: u 59 :: u 60 :: u 61 :: u 62 :: .bool false :: .slice AP 2 cp :: .slice (some ⟨r0, 0, none⟩) 3 3 :: .slice (some ⟨r1, 0, none⟩) 3 3 :: u 67 :: u 68 :: u 69 :: u 70 :: u 71 :: u 72 :: u 73 :: u 74 :: u 75 :: u 76 :: u 77 :: u 78 :: u 79 :: u 80 :: u 81 :: u 82 :: u 83 :: u 84 :: u 85 :: u 86 :: u 87 :: u 88 :: u 89 :: u 90 :: u 91 :: u 92 :: u 93 :: u 94 :: u 95 :: u 96 :: u 97 :: u 98 :: u 99 :: u 100 :: u 101 :: u 102 :: u 103 :: u 104 :: u 105 :: u 106 :: u 107 :: u 108 :: u 109 :: u 110 :: u 111 :: u 112 :: u 113 :: u 114 :: u 115 :: u 116 :: u 117 :: u 118 :: u 119 :: u 120 :: u 121 :: u 122 :: u 123 :: u 124 :: u 125 :: u 126 :: u 127 :: u 128 :: u 129 :: u 130 :: u 131 :: u 132 :: u 133 :: u 134 :: u 135 :: u 136 :: u 137 :: u 138 :: u 139 :: u 140 :: u 141 :: u 142 :: u 143 :: u 144 :: u 145 :: u 146 :: u 147 :: u 148 :: u 149 :: u 150 :: u 151 :: u 152 :: u 153 :: u 154 :: u 155 :: u 156 :: u 157 :: u 158 :: u 159 :: u 160 :: u 161 :: u 162 :: u 163 :: u 164 :: u 165 :: u 166 :: u 167 :: u 168 :: u 169 :: u 170 :: u 171 :: u 172 :: u 173 :: u 174 :: u 175 :: u 176 :: u 177 :: u 178 :: u 179 :: u 180 :: u 181 :: u 182 :: u 183 :: u 184 :: u 185 :: u 186 :: u 187 :: u 188 :: u 189 :: u 190 :: u 191 :: u 192 :: u 193 :: u 194 :: u 195 :: u 196 :: u 197 :: u 198 :: u 199 :: u 200 :: u 201 :: u 202 :: u 203 :: u 204 :: u 205 :: u 206 :: u 207 :: u 208 :: u 209 :: u 210 :: u 211 :: u 212 :: u 213 :: u 214 :: u 215 :: u 216 :: u 217 :: u 218 :: u 219 :: u 220 :: u 221 :: u 222 :: u 223 :: u 224 :: u 225 :: u 226 :: u 227 :: u 228 :: u 229 :: u 230 :: u 231 :: u 232 :: u 233 :: u 234 :: u 235 :: u 236 :: u 237 :: u 238 :: u 239 :: u 240 :: u 241 :: u 242 :: u 243 :: u 244 :: u 245 :: u 246 :: u 247 :: u 248 :: u 249 :: u 250 :: u 251 :: u 252 :: u 253 :: u 254 :: u 255 :: u 256 :: u 257 :: u 258 :: u 259 :: u 260 :: u 261 :: u 262 :: u 263 :: u 264 :: u 265 :: u 266 :: u 267 :: u 268 :: u 269 :: u 270 :: u 271 :: u 272 :: u 273 :: u 274 :: u 275 :: u 276 :: u 277 :: u 278 :: u 279 :: u 280 :: u 281 :: u 282 :: u 283 :: u 284 :: u 285 :: []), []⟩) a W), (fun a W => Rel (fun a W => Below V7.heap.size V7 W ∧ ∃ u : Nat → Value, a = ⟨List.toArray (u 0 :: .pointer (some ⟨p5, 0, none⟩) :: .slice AP 2 cp :: .bool true :: .int .i64 0 :: .pointer (some ⟨q2, 0, none⟩) :: .pointer (some ⟨pm, 0, none⟩) :: .int .i64 0 :: .int .i64 0 :: .int .i64 0 :: u 10 :: u 11 :: u 12 :: u 13 :: u 14 :: u 15 :: u 16 :: u 17 :: u 18 :: u 19 :: u 20 :: u 21 :: u 22 :: u 23 :: u 24 :: u 25 :: u 26 :: u 27 :: u 28 :: u 29 :: u 30 :: u 31 :: u 32 :: u 33 :: u 34 :: u 35 :: u 36 :: u 37 :: u 38 :: u 39 :: u 40 :: u 41 :: u 42 :: u 43 :: u 44 :: u 45 :: u 46 :: u 47 :: u 48 :: u 49 :: u 50 :: u 51 :: u 52 :: u 53 :: u 54 :: u 55 :: u 56 :: u 57 :: u 58 :: u 59 :: u 60 :: u 61 :: u 62 :: u 63 :: u 64 :: u 65 :: u 66 :: u 67 :: u 68 :: u 69 :: u 70 :: u 71 :: u 72 :: u 73 :: u 74 :: u 75 :: u 76 :: u 77 :: u 78 :: u 79 :: u 80 :: u 81 :: u 82 :: u 83 :: u 84 :: u 85 :: u 86 :: u 87 :: u 88 :: u 89 :: u 90 :: u 91 :: u 92 :: u 93 :: u 94 :: u 95 :: u 96 :: u 97 :: u 98 :: .bool false :: u 100 :: u 101 :: u 102 :: u 103 :: u 104 :: u 105 :: u 106 :: u 107 :: u 108 :: u 109 :: u 110 :: u 111 :: u 112 :: u 113 :: u 114 :: u 115 :: u 116 :: u 117 :: u 118 :: u 119 :: u 120 :: u 121 :: u 122 :: u 123 :: u 124 :: u 125 :: u 126 :: u 127 :: u 128 :: u 129 :: u 130 :: u 131 :: u 132 :: u 133 :: u 134 :: u 135 :: u 136 :: u 137 :: u 138 :: u 139 :: u 140 :: u 141 :: u 142 :: u 143 :: u 144 :: u 145 :: u 146 :: u 147 :: u 148 :: u 149 :: u 150 :: u 151 :: u 152 :: u 153 :: u 154 :: u 155 :: u 156 :: u 157 :: u 158 :: u 159 :: u 160 :: u 161 :: u 162 :: u 163 :: u 164 :: u 165 :: u 166 :: u 167 :: u 168 :: u 169 :: u 170 :: u 171 :: u 172 :: u 173 :: u 174 :: u 175 :: u 176 :: u 177 :: u 178 :: u 179 :: u 180 :: u 181 :: u 182 :: u 183 :: u 184 :: u 185 :: u 186 :: u 187 :: u 188 :: u 189 :: u 190 :: u 191 :: u 192 :: u 193 :: u 194 :: u 195 :: u 196 :: u 197 :: u 198 :: u 199 :: u 200 :: u 201 :: u 202 :: u 203 :: u 204 :: u 205 :: u 206 :: u 207 :: u 208 :: u 209 :: u 210 :: u 211 :: u 212 :: u 213 :: u 214 :: u 215 :: u 216 :: u 217 :: u 218 :: u 219 :: u 220 :: u 221 :: u 222 :: u 223 :: u 224 :: u 225 :: u 226 :: u 227 :: u 228 :: u 229 :: u 230 :: u 231 :: u 232 :: u 233 :: u 234 :: u 235 :: u 236 :: u 237 :: u 238 :: u 239 :: u 240 :: u 241 :: u 242 :: u 243 :: u 244 :: u 245 :: u 246 :: u 247 :: u 248 :: u 249 :: u 250 :: u 251 :: u 252 :: u 253 :: u 254 :: u 255 :: u 256 :: u 257 :: u 258 :: u 259 :: u 260 :: u 261 :: u 262 :: u 263 :: u 264 :: u 265 :: u 266 :: u 267 :: u 268 :: u 269 :: u 270 :: u 271 :: u 272 :: u 273 :: u 274 :: u 275 :: u 276 :: u 277 :: u 278 :: u 279 :: u 280 :: u 281 :: u 282 :: u 283 :: u 284 :: u 285 :: []), []⟩) a W), (fun a W => Rel (fun a W => Below V7.heap.size V7 W ∧ ∃ u : Nat → Value, a = ⟨List.toArray (u 0 :: .pointer (some ⟨p5, 0, none⟩) :: .slice AP 2 cp :: .bool true :: .int .i64 0 :: .pointer (some ⟨q2, 0, none⟩) :: .pointer (some ⟨pm, 0, none⟩) :: .int .i64 0 :: .int .i64 0 :: .int .i64 0 :: u 10 :: u 11 :: u 12 :: u 13 :: u 14 :: u 15 :: u 16 :: u 17 :: u 18 :: u 19 :: u 20 :: u 21 :: u 22 :: u 23 :: u 24 :: u 25 :: u 26 :: u 27 :: u 28 :: u 29 :: u 30 :: u 31 :: u 32 :: u 33 :: u 34 :: u 35 :: u 36 :: u 37 :: u 38 :: u 39 :: u 40 :: u 41 :: u 42 :: u 43 :: u 44 :: u 45 :: u 46 :: u 47 :: u 48 :: u 49 :: u 50 :: u 51 :: u 52 :: u 53 :: u 54 :: u 55 :: u 56 :: u 57 :: u 58 :: u 59 :: u 60 :: u 61 :: u 62 :: u 63 :: u 64 :: u 65 :: u 66 :: u 67 :: u 68 :: u 69 :: u 70 :: u 71 :: u 72 :: u 73 :: u 74 :: u 75 :: u 76 :: u 77 :: u 78 :: u 79 :: u 80 :: u 81 :: u 82 :: u 83 :: u 84 :: u 85 :: u 86 :: u 87 :: u 88 :: u 89 :: u 90 :: u 91 :: u 92 :: u 93 :: u 94 :: u 95 :: u 96 :: u 97 :: u 98 :: u 99 :: u 100 :: u 101 :: u 102 :: u 103 :: u 104 :: u 105 :: u 106 :: .bool false :: u 108 :: u 109 :: u 110 :: u 111 :: u 112 :: u 113 :: u 114 :: u 115 :: u 116 :: u 117 :: u 118 :: u 119 :: u 120 :: u 121 :: u 122 :: u 123 :: u 124 :: u 125 :: u 126 :: u 127 :: u 128 :: u 129 :: u 130 :: u 131 :: u 132 :: u 133 :: u 134 :: u 135 :: u 136 :: u 137 :: u 138 :: u 139 :: u 140 :: u 141 :: u 142 :: u 143 :: u 144 :: u 145 :: u 146 :: u 147 :: u 148 :: u 149 :: u 150 :: u 151 :: u 152 :: u 153 :: u 154 :: u 155 :: u 156 :: u 157 :: u 158 :: u 159 :: u 160 :: u 161 :: u 162 :: u 163 :: u 164 :: u 165 :: u 166 :: u 167 :: u 168 :: u 169 :: u 170 :: u 171 :: u 172 :: u 173 :: u 174 :: u 175 :: u 176 :: u 177 :: u 178 :: u 179 :: u 180 :: u 181 :: u 182 :: u 183 :: u 184 :: u 185 :: u 186 :: u 187 :: u 188 :: u 189 :: u 190 :: u 191 :: u 192 :: u 193 :: u 194 :: u 195 :: u 196 :: u 197 :: u 198 :: u 199 :: u 200 :: u 201 :: u 202 :: u 203 :: u 204 :: u 205 :: u 206 :: u 207 :: u 208 :: u 209 :: u 210 :: u 211 :: u 212 :: u 213 :: u 214 :: u 215 :: u 216 :: u 217 :: u 218 :: u 219 :: u 220 :: u 221 :: u 222 :: u 223 :: u 224 :: u 225 :: u 226 :: u 227 :: u 228 :: u 229 :: u 230 :: u 231 :: u 232 :: u 233 :: u 234 :: u 235 :: u 236 :: u 237 :: u 238 :: u 239 :: u 240 :: u 241 :: u 242 :: u 243 :: u 244 :: u 245 :: u 246 :: u 247 :: u 248 :: u 249 :: u 250 :: u 251 :: u 252 :: u 253 :: u 254 :: u 255 :: u 256 :: u 257 :: u 258 :: u 259 :: u 260 :: u 261 :: u 262 :: u 263 :: u 264 :: u 265 :: u 266 :: u 267 :: u 268 :: u 269 :: u 270 :: u 271 :: u 272 :: u 273 :: u 274 :: u 275 :: u 276 :: u 277 :: u 278 :: u 279 :: u 280 :: u 281 :: u 282 :: u 283 :: u 284 :: u 285 :: []), []⟩) a W), (fun a W => Rel (fun a W => Below V7.heap.size V7 W ∧ ∃ u : Nat → Value, a = ⟨List.toArray (u 0 :: .pointer (some ⟨p5, 0, none⟩) :: .slice AP 2 cp :: .bool true :: .int .i64 0 :: .pointer (some ⟨q2, 0, none⟩) :: .pointer (some ⟨pm, 0, none⟩) :: .int .i64 0 :: .int .i64 0 :: .int .i64 0 :: u 10 :: u 11 :: u 12 :: u 13 :: u 14 :: u 15 :: u 16 :: u 17 :: u 18 :: u 19 :: u 20 :: u 21 :: u 22 :: u 23 :: u 24 :: u 25 :: u 26 :: u 27 :: u 28 :: u 29 :: u 30 :: u 31 :: u 32 :: u 33 :: u 34 :: u 35 :: u 36 :: u 37 :: u 38 :: u 39 :: u 40 :: u 41 :: u 42 :: u 43 :: u 44 :: u 45 :: u 46 :: u 47 :: u 48 :: u 49 :: u 50 :: u 51 :: u 52 :: u 53 :: u 54 :: u 55 :: u 56 :: u 57 :: u 58 :: u 59 :: u 60 :: u 61 :: u 62 :: u 63 :: u 64 :: u 65 :: u 66 :: u 67 :: u 68 :: u 69 :: u 70 :: u 71 :: u 72 :: u 73 :: u 74 :: u 75 :: u 76 :: u 77 :: u 78 :: u 79 :: u 80 :: u 81 :: u 82 :: u 83 :: u 84 :: u 85 :: u 86 :: u 87 :: u 88 :: u 89 :: u 90 :: u 91 :: u 92 :: u 93 :: u 94 :: u 95 :: u 96 :: u 97 :: u 98 :: u 99 :: u 100 :: u 101 :: u 102 :: u 103 :: u 104 :: u 105 :: u 106 :: u 107 :: u 108 :: u 109 :: u 110 :: u 111 :: u 112 :: u 113 :: .bool false :: u 115 :: u 116 :: u 117 :: u 118 :: u 119 :: u 120 :: u 121 :: u 122 :: u 123 :: u 124 :: u 125 :: u 126 :: u 127 :: u 128 :: u 129 :: u 130 :: u 131 :: u 132 :: u 133 :: u 134 :: u 135 :: u 136 :: u 137 :: u 138 :: u 139 :: u 140 :: u 141 :: u 142 :: u 143 :: u 144 :: u 145 :: u 146 :: u 147 :: u 148 :: u 149 :: u 150 :: u 151 :: u 152 :: u 153 :: u 154 :: u 155 :: u 156 :: u 157 :: u 158 :: u 159 :: u 160 :: u 161 :: u 162 :: u 163 :: u 164 :: u 165 :: u 166 :: u 167 :: u 168 :: u 169 :: u 170 :: u 171 :: u 172 :: u 173 :: u 174 :: u 175 :: u 176 :: u 177 :: u 178 :: u 179 :: u 180 :: u 181 :: u 182 :: u 183 :: u 184 :: u 185 :: u 186 :: u 187 :: u 188 :: u 189 :: u 190 :: u 191 :: u 192 :: u 193 :: u 194 :: u 195 :: u 196 :: u 197 :: u 198 :: u 199 :: u 200 :: u 201 :: u 202 :: u 203 :: u 204 :: u 205 :: u 206 :: u 207 :: u 208 :: u 209 :: u 210 :: u 211 :: u 212 :: u 213 :: u 214 :: u 215 :: u 216 :: u 217 :: u 218 :: u 219 :: u 220 :: u 221 :: u 222 :: u 223 :: u 224 :: u 225 :: u 226 :: u 227 :: u 228 :: u 229 :: u 230 :: u 231 :: u 232 :: u 233 :: u 234 :: u 235 :: u 236 :: u 237 :: u 238 :: u 239 :: u 240 :: u 241 :: u 242 :: u 243 :: u 244 :: u 245 :: u 246 :: u 247 :: u 248 :: u 249 :: u 250 :: u 251 :: u 252 :: u 253 :: u 254 :: u 255 :: u 256 :: u 257 :: u 258 :: u 259 :: u 260 :: u 261 :: u 262 :: u 263 :: u 264 :: u 265 :: u 266 :: u 267 :: u 268 :: u 269 :: u 270 :: u 271 :: u 272 :: u 273 :: u 274 :: u 275 :: u 276 :: u 277 :: u 278 :: u 279 :: u 280 :: u 281 :: u 282 :: u 283 :: u 284 :: u 285 :: []), []⟩) a W)] (by kernel_rfl) (by kernel_rfl) (by intro d _ _ _ _ h; cases d <;> exact h) ?_
 have D6 := (Below.refl V7.heap.size V7).drew
 obtain ⟨Y6, hY⟩ : ∃ Y, V7.drew = Y := ⟨_, rfl⟩
 rw [hY] at D6 ⊢
 clear hY
 refine parts_step ?_ ?_
 ·
  repeat (refine tp_quiet rfl ?_; go_big_quiet_step (fail); refine wpQuiet_nil ?_)
  refine tp_fork rfl rfl ?_ ?_
  ·
   go_wp2_with fail
   have N1 := ex_alloc D6 (.cells #[.int .i64 57, .int .i64 56, .int .i64 49] 3)
   refine ⟨inEx N1, ?_⟩
   repeat (refine tp_quiet rfl ?_; go_big_quiet_step (fail); refine wpQuiet_nil ?_)
   refine tp_loud rfl ?_
   go_wp2_with fail
   have N2 := ex_alloc N1 (.cells #[.int .i64 45, .int .i64 24, .int .i64 29] 3)
   refine ⟨inEx N2, ?_⟩
   repeat (refine tp_quiet rfl ?_; go_big_quiet_step (fail); refine wpQuiet_nil ?_)
   refine tp_done ?_
   exact ⟨⟨N2, _, (Blk.new _ _ _).alloc _, Y6.heap.size + 1, Blk.new' _ _ _ (by simp), exFrame (by kernel_rfl)⟩⟩
  ·
   go_wp2_with fail
   have N1 := ex_alloc D6 (.cells #[.int .i64 45, .int .i64 24, .int .i64 29] 3)
   refine ⟨inEx N1, ?_⟩
   repeat (refine tp_quiet rfl ?_; go_big_quiet_step (fail); refine wpQuiet_nil ?_)
   refine tp_loud rfl ?_
   go_wp2_with fail
   have N2 := ex_alloc N1 (.cells #[.int .i64 57, .int .i64 56, .int .i64 49] 3)
   refine ⟨inEx N2, ?_⟩
   repeat (refine tp_quiet rfl ?_; go_big_quiet_step (fail); refine wpQuiet_nil ?_)
   refine tp_done ?_
   exact ⟨⟨N2, Y6.heap.size + 1, Blk.new' _ _ _ (by simp), _, (Blk.new _ _ _).alloc _, exFrame (by kernel_rfl)⟩⟩
 ·
  rintro a W8 hS ⟨⟨hb8, r0, k0, r1, k1, u8, rfl⟩⟩
  clear hS D6
  refine parts_step ?_ ?_
  ·
   replace hP := hP.go hb8
   replace ht := ht.go hb8
   have B_W8 := ex_trans B_V7 hb8
   refine tp_loud rfl ?_
   go_wp2_with fail
   have NR := ex_alloc (Below.refl W8.heap.size W8) (.cells #[.slice (some ⟨r0, 0, none⟩) 3 3, .slice (some ⟨r1, 0, none⟩) 3 3] 28)
   have k2 : Blk (W8.alloc (.cells #[.slice (some ⟨r0, 0, none⟩) 3 3, .slice (some ⟨r1, 0, none⟩) 3 3] 28)) W8.heap.size 28 #[.slice (some ⟨r0, 0, none⟩) 3 3, .slice (some ⟨r1, 0, none⟩) 3 3] := Blk.new _ _ _
   replace hP := hP.go NR
   replace ht := ht.go NR
   replace k0 := k0.below NR k0.lt
   replace k1 := k1.below NR k1.lt
   have B_W9 := ex_trans B_W8 NR
   have X_W9 := ex_trans hb8 NR
   obtain ⟨r2, hr2⟩ : ∃ p, W8.heap.size = p := ⟨_, rfl⟩
   rw [hr2] at k2 ⊢
   clear hr2 NR
   generalize W8.alloc (.cells #[.slice (some ⟨r0, 0, none⟩) 3 3, .slice (some ⟨r1, 0, none⟩) 3 3] 28) = W9 at *
   refine ⟨inEx X_W9, ?_⟩
   repeat (refine tp_quiet rfl ?_; go_big_quiet_step (fail); refine wpQuiet_nil ?_)
   refine tp_loud rfl ?_
   go_wp2_with fail
   have z0 := sl_3 (f := fI [57, 56, 49]) k0 rfl rfl rfl
   have z1 := sl_3 (f := fI [45, 24, 29]) k1 rfl rfl rfl
   have z2 := sl_2 (f := fun k _ => .slice (some ⟨[r0, r1].getD k 0, 0, none⟩) 3 3) k2 rfl rfl
   refine (same_any AP (some ⟨r2, 0, none⟩) cp 2 2 2 (fun _ => 3) (fun _ => 3) rP (fun k => some ⟨[r0, r1].getD k 0, 0, none⟩) rcP (fun _ => 3) (stk (cellS 22 24).wo (namT 20).F (namT 20).V (namT 20).G) namS W9 hP.out z2 hP.row (fun k hk => (match k, hk with | 0, _ => z0 | 1, _ => z1)) (fun _ _ => by omega) (fun _ _ => by omega) (by omega) (by omega)).mono ?_
   rintro e Wa ⟨rfl, hWa⟩
   replace hP := hP.go hWa
   replace ht := ht.go hWa
   replace k0 := k0.below hWa k0.lt
   replace k1 := k1.below hWa k1.lt
   replace k2 := k2.below hWa k2.lt
   have B_Wa := ex_trans B_W9 hWa
   have X_Wa := ex_trans X_W9 hWa
   rw [nam_same]
   clear z0 z1 z2 k0 k1 k2
   go_wp2_with fail
   refine ⟨inEx X_Wa, ?_⟩
   repeat (refine tp_quiet rfl ?_; go_big_quiet_step (fail); refine wpQuiet_nil ?_)
   refine tp_loud rfl ?_
   go_wp2_with fail
   refine (between_any 0 7 Wa).mono ?_
   rintro e Wb ⟨rfl, hWb⟩
   replace hP := hP.go hWb
   replace ht := ht.go hWb
   have B_Wb := ex_trans B_Wa hWb
   have X_Wb := ex_trans X_Wa hWb
   go_wp2_with fail
   refine ⟨inEx X_Wb, ?_⟩
   repeat (refine tp_quiet rfl ?_; go_big_quiet_step (fail); refine wpQuiet_nil ?_)
   refine tp_loud rfl ?_
   go_wp2_with fail
   refine (cellar_any 22 24 Wb).mono ?_
   rintro e Wdc ⟨⟨Ar20, Am20, Aw20, cr20, cm20, cw20, rfl, hs20⟩, hWdc⟩
   replace hP := hP.go hWdc
   replace ht := ht.go hWdc
   have B_Wdc := ex_trans B_Wb hWdc
   have X_Wdc := ex_trans X_Wb hWdc
   go_wp2_with fail
   refine ⟨inEx X_Wdc, ?_⟩
   repeat (refine tp_quiet rfl ?_; go_big_quiet_step (fail); refine wpQuiet_nil ?_)
   refine tp_loud rfl ?_
   go_wp2_with fail
   refine (proveT_any (cellS 22 24) Ar20 Am20 Aw20 cr20 cm20 cw20 Wdc hs20 (namT 20) (some ⟨p0, 0, none⟩) (some ⟨p3, 0, none⟩) (some ⟨p4, 0, none⟩) 2 2 3 (fun k => some ⟨[p1, p2].getD k 0, 0, none⟩) (fun _ => 3) ht (HSMT 20) ⟨by show 2 ≤ _; omega, by show 3 ≤ _; omega⟩).mono ?_
   rintro e Wd ⟨rfl, hWd⟩
   replace hP := hP.go hWd
   replace ht := ht.go hWd
   replace hs20 := hs20.go hWd
   have B_Wd := ex_trans B_Wdc hWd
   have X_Wd := ex_trans X_Wdc hWd
   rw [nam_yes]
   clear hs20
   go_wp2_with fail
   refine ⟨inEx X_Wd, ?_⟩
   repeat (refine tp_quiet rfl ?_; go_big_quiet_step (fail); refine wpQuiet_nil ?_)
   refine tp_loud rfl ?_
   go_wp2_with fail
   refine (cellar_any 22 23 Wd).mono ?_
   rintro e Wfc ⟨⟨Ar21, Am21, Aw21, cr21, cm21, cw21, rfl, hs21⟩, hWfc⟩
   replace hP := hP.go hWfc
   replace ht := ht.go hWfc
   have B_Wfc := ex_trans B_Wd hWfc
   have X_Wfc := ex_trans X_Wd hWfc
   go_wp2_with fail
   refine ⟨inEx X_Wfc, ?_⟩
   repeat (refine tp_quiet rfl ?_; go_big_quiet_step (fail); refine wpQuiet_nil ?_)
   refine tp_loud rfl ?_
   go_wp2_with fail
   refine (proveT_any (cellS 22 23) Ar21 Am21 Aw21 cr21 cm21 cw21 Wfc hs21 (namT 20) (some ⟨p0, 0, none⟩) (some ⟨p3, 0, none⟩) (some ⟨p4, 0, none⟩) 2 2 3 (fun k => some ⟨[p1, p2].getD k 0, 0, none⟩) (fun _ => 3) ht (HSMT 20) ⟨by show 2 ≤ _; omega, by show 3 ≤ _; omega⟩).mono ?_
   rintro e Wf ⟨rfl, hWf⟩
   replace hP := hP.go hWf
   replace ht := ht.go hWf
   replace hs21 := hs21.go hWf
   have B_Wf := ex_trans B_Wfc hWf
   have X_Wf := ex_trans X_Wfc hWf
   rw [nam_no]
   clear hs21
   go_wp2_with fail
   refine ⟨inEx X_Wf, ?_⟩
   repeat (refine tp_quiet rfl ?_; go_big_quiet_step (fail); refine wpQuiet_nil ?_)
   refine tp_done ?_
   exact ⟨⟨X_Wf, exFrame (by kernel_rfl)⟩⟩
  ·
   rintro a W10 hS ⟨⟨hb10, u10, rfl⟩⟩
   clear hS k0 k1 hb8
   clear y0 y1 ly t0 t1 t2 lt5 s0 s1 hP ht qm bb b0 b1 gt g4 g3 g2 g1 g0
   refine parts_step ?_ ?_
   ·
    have B_W10 := ex_trans B_V7 hb10
    repeat (refine tp_quiet rfl ?_; go_big_quiet_step (fail); refine wpQuiet_nil ?_)
    refine tp_fork3 rfl rfl rfl ?_ ?_ ?_
    ·
     go_wp2_with fail
     refine (shift_any W10).mono ?_
     rintro e L43_1 ⟨⟨Ah, Ak, ch, ck, rfl, hts⟩, hL43_1⟩
     have B_L43_1 := ex_trans B_W10 hL43_1
     have X_L43_1 := ex_trans hb10 hL43_1
     go_wp2_with fail
     refine ⟨inEx X_L43_1, ?_⟩
     repeat (refine tp_quiet rfl ?_; go_big_quiet_step (fail); refine wpQuiet_nil ?_)
     refine tp_fork rfl rfl ?_ ?_
     ·
      go_wp2_with fail
      have NR := ex_alloc (Below.refl L43_1.heap.size L43_1) (.cells #[.int .i64 4, .int .i64 1] 3)
      have e1 : Blk (L43_1.alloc (.cells #[.int .i64 4, .int .i64 1] 3)) L43_1.heap.size 3 #[.int .i64 4, .int .i64 1] := Blk.new _ _ _
      replace hts := hts.go NR
      have B_L43_2 := ex_trans B_L43_1 NR
      have X_L43_2 := ex_trans X_L43_1 NR
      obtain ⟨a1, ha1⟩ : ∃ p, L43_1.heap.size = p := ⟨_, rfl⟩
      rw [ha1] at e1 ⊢
      clear ha1 NR
      generalize L43_1.alloc (.cells #[.int .i64 4, .int .i64 1] 3) = L43_2 at *
      refine ⟨inEx X_L43_2, ?_⟩
      repeat (refine tp_quiet rfl ?_; go_big_quiet_step (fail); refine wpQuiet_nil ?_)
      refine tp_loud rfl ?_
      go_wp2_with fail
      have NR := ex_alloc (Below.refl L43_2.heap.size L43_2) (.cells #[.int .i64 0, .int .i64 2] 3)
      have e2 : Blk (L43_2.alloc (.cells #[.int .i64 0, .int .i64 2] 3)) L43_2.heap.size 3 #[.int .i64 0, .int .i64 2] := Blk.new _ _ _
      replace hts := hts.go NR
      replace e1 := e1.below NR e1.lt
      have B_L43_3 := ex_trans B_L43_2 NR
      have X_L43_3 := ex_trans X_L43_2 NR
      obtain ⟨a2, ha2⟩ : ∃ p, L43_2.heap.size = p := ⟨_, rfl⟩
      rw [ha2] at e2 ⊢
      clear ha2 NR
      generalize L43_2.alloc (.cells #[.int .i64 0, .int .i64 2] 3) = L43_3 at *
      refine ⟨inEx X_L43_3, ?_⟩
      repeat (refine tp_quiet rfl ?_; go_big_quiet_step (fail); refine wpQuiet_nil ?_)
      refine tp_loud rfl ?_
      go_wp2_with fail
      have NR := ex_alloc (Below.refl L43_3.heap.size L43_3) (.cells #[.slice (some ⟨a1, 0, none⟩) 2 2, .slice (some ⟨a2, 0, none⟩) 2 2] 28)
      have e3 : Blk (L43_3.alloc (.cells #[.slice (some ⟨a1, 0, none⟩) 2 2, .slice (some ⟨a2, 0, none⟩) 2 2] 28)) L43_3.heap.size 28 #[.slice (some ⟨a1, 0, none⟩) 2 2, .slice (some ⟨a2, 0, none⟩) 2 2] := Blk.new _ _ _
      replace hts := hts.go NR
      replace e1 := e1.below NR e1.lt
      replace e2 := e2.below NR e2.lt
      have B_L43_4 := ex_trans B_L43_3 NR
      have X_L43_4 := ex_trans X_L43_3 NR
      obtain ⟨a3, ha3⟩ : ∃ p, L43_3.heap.size = p := ⟨_, rfl⟩
      rw [ha3] at e3 ⊢
      clear ha3 NR
      generalize L43_3.alloc (.cells #[.slice (some ⟨a1, 0, none⟩) 2 2, .slice (some ⟨a2, 0, none⟩) 2 2] 28) = L43_4 at *
      refine ⟨inEx X_L43_4, ?_⟩
      repeat (refine tp_quiet rfl ?_; go_big_quiet_step (fail); refine wpQuiet_nil ?_)
      refine tp_loud rfl ?_
      go_wp2_with fail
      have z0 := sl_2 (f := fI [4, 1]) e1 rfl rfl
      have z1 := sl_2 (f := fI [0, 2]) e2 rfl rfl
      have z2 := sl_2 (f := fun k _ => .slice (some ⟨[a1, a2].getD k 0, 0, none⟩) (gL [[4, 1], [0, 2]] k).length 2) e3 rfl rfl
      refine (ProveR_any shiftT Ah Ak ch ck L43_4 hts ⟨by show 2 ≤ _; omega, by show 2 ≤ _; omega⟩ [[4, 1], [0, 2]] (some ⟨a3, 0, none⟩) 2 (fun k => some ⟨[a1, a2].getD k 0, 0, none⟩) (fun _ => 2) ⟨z2, fun k hk => (match k, hk with | 0, _ => z0 | 1, _ => z1)⟩ ⟨by show 2 ≤ _; omega, fun k hk => (match k, hk with | 0, _ => by show 2 ≤ _; omega | 1, _ => by show 2 ≤ _; omega)⟩ 2).mono ?_
      rintro e L43_5 ⟨rfl, hL43_5⟩
      replace hts := hts.go hL43_5
      replace e1 := e1.below hL43_5 e1.lt
      replace e2 := e2.below hL43_5 e2.lt
      replace e3 := e3.below hL43_5 e3.lt
      have B_L43_5 := ex_trans B_L43_4 hL43_5
      have X_L43_5 := ex_trans X_L43_4 hL43_5
      rw [ros_yes]
      clear z0 z1 z2 e1 e2 e3 hts
      go_wp2_with fail
      refine ⟨inEx X_L43_5, ?_⟩
      repeat (refine tp_quiet rfl ?_; go_big_quiet_step (fail); refine wpQuiet_nil ?_)
      refine tp_done ?_
      exact ⟨⟨X_L43_5, exFrame (by kernel_rfl)⟩⟩
     ·
      go_wp2_with fail
      have NR := ex_alloc (Below.refl L43_1.heap.size L43_1) (.cells #[.int .i64 0, .int .i64 2] 3)
      have e2 : Blk (L43_1.alloc (.cells #[.int .i64 0, .int .i64 2] 3)) L43_1.heap.size 3 #[.int .i64 0, .int .i64 2] := Blk.new _ _ _
      replace hts := hts.go NR
      have B_L43_6 := ex_trans B_L43_1 NR
      have X_L43_6 := ex_trans X_L43_1 NR
      obtain ⟨a2, ha2⟩ : ∃ p, L43_1.heap.size = p := ⟨_, rfl⟩
      rw [ha2] at e2 ⊢
      clear ha2 NR
      generalize L43_1.alloc (.cells #[.int .i64 0, .int .i64 2] 3) = L43_6 at *
      refine ⟨inEx X_L43_6, ?_⟩
      repeat (refine tp_quiet rfl ?_; go_big_quiet_step (fail); refine wpQuiet_nil ?_)
      refine tp_loud rfl ?_
      go_wp2_with fail
      have NR := ex_alloc (Below.refl L43_6.heap.size L43_6) (.cells #[.int .i64 4, .int .i64 1] 3)
      have e1 : Blk (L43_6.alloc (.cells #[.int .i64 4, .int .i64 1] 3)) L43_6.heap.size 3 #[.int .i64 4, .int .i64 1] := Blk.new _ _ _
      replace hts := hts.go NR
      replace e2 := e2.below NR e2.lt
      have B_L43_7 := ex_trans B_L43_6 NR
      have X_L43_7 := ex_trans X_L43_6 NR
      obtain ⟨a1, ha1⟩ : ∃ p, L43_6.heap.size = p := ⟨_, rfl⟩
      rw [ha1] at e1 ⊢
      clear ha1 NR
      generalize L43_6.alloc (.cells #[.int .i64 4, .int .i64 1] 3) = L43_7 at *
      refine ⟨inEx X_L43_7, ?_⟩
      repeat (refine tp_quiet rfl ?_; go_big_quiet_step (fail); refine wpQuiet_nil ?_)
      refine tp_loud rfl ?_
      go_wp2_with fail
      have NR := ex_alloc (Below.refl L43_7.heap.size L43_7) (.cells #[.slice (some ⟨a1, 0, none⟩) 2 2, .slice (some ⟨a2, 0, none⟩) 2 2] 28)
      have e3 : Blk (L43_7.alloc (.cells #[.slice (some ⟨a1, 0, none⟩) 2 2, .slice (some ⟨a2, 0, none⟩) 2 2] 28)) L43_7.heap.size 28 #[.slice (some ⟨a1, 0, none⟩) 2 2, .slice (some ⟨a2, 0, none⟩) 2 2] := Blk.new _ _ _
      replace hts := hts.go NR
      replace e2 := e2.below NR e2.lt
      replace e1 := e1.below NR e1.lt
      have B_L43_8 := ex_trans B_L43_7 NR
      have X_L43_8 := ex_trans X_L43_7 NR
      obtain ⟨a3, ha3⟩ : ∃ p, L43_7.heap.size = p := ⟨_, rfl⟩
      rw [ha3] at e3 ⊢
      clear ha3 NR
      generalize L43_7.alloc (.cells #[.slice (some ⟨a1, 0, none⟩) 2 2, .slice (some ⟨a2, 0, none⟩) 2 2] 28) = L43_8 at *
      refine ⟨inEx X_L43_8, ?_⟩
      repeat (refine tp_quiet rfl ?_; go_big_quiet_step (fail); refine wpQuiet_nil ?_)
      refine tp_loud rfl ?_
      go_wp2_with fail
      have z0 := sl_2 (f := fI [4, 1]) e1 rfl rfl
      have z1 := sl_2 (f := fI [0, 2]) e2 rfl rfl
      have z2 := sl_2 (f := fun k _ => .slice (some ⟨[a1, a2].getD k 0, 0, none⟩) (gL [[4, 1], [0, 2]] k).length 2) e3 rfl rfl
      refine (ProveR_any shiftT Ah Ak ch ck L43_8 hts ⟨by show 2 ≤ _; omega, by show 2 ≤ _; omega⟩ [[4, 1], [0, 2]] (some ⟨a3, 0, none⟩) 2 (fun k => some ⟨[a1, a2].getD k 0, 0, none⟩) (fun _ => 2) ⟨z2, fun k hk => (match k, hk with | 0, _ => z0 | 1, _ => z1)⟩ ⟨by show 2 ≤ _; omega, fun k hk => (match k, hk with | 0, _ => by show 2 ≤ _; omega | 1, _ => by show 2 ≤ _; omega)⟩ 2).mono ?_
      rintro e L43_9 ⟨rfl, hL43_9⟩
      replace hts := hts.go hL43_9
      replace e2 := e2.below hL43_9 e2.lt
      replace e1 := e1.below hL43_9 e1.lt
      replace e3 := e3.below hL43_9 e3.lt
      have B_L43_9 := ex_trans B_L43_8 hL43_9
      have X_L43_9 := ex_trans X_L43_8 hL43_9
      rw [ros_yes]
      clear z0 z1 z2 e1 e2 e3 hts
      go_wp2_with fail
      refine ⟨inEx X_L43_9, ?_⟩
      repeat (refine tp_quiet rfl ?_; go_big_quiet_step (fail); refine wpQuiet_nil ?_)
      refine tp_done ?_
      exact ⟨⟨X_L43_9, exFrame (by kernel_rfl)⟩⟩
    ·
     go_wp2_with fail
     have NR := ex_alloc (Below.refl W10.heap.size W10) (.cells #[.int .i64 4, .int .i64 1] 3)
     have e1 : Blk (W10.alloc (.cells #[.int .i64 4, .int .i64 1] 3)) W10.heap.size 3 #[.int .i64 4, .int .i64 1] := Blk.new _ _ _
     have B_L43_10 := ex_trans B_W10 NR
     have X_L43_10 := ex_trans hb10 NR
     obtain ⟨a1, ha1⟩ : ∃ p, W10.heap.size = p := ⟨_, rfl⟩
     rw [ha1] at e1 ⊢
     clear ha1 NR
     generalize W10.alloc (.cells #[.int .i64 4, .int .i64 1] 3) = L43_10 at *
     refine ⟨inEx X_L43_10, ?_⟩
     repeat (refine tp_quiet rfl ?_; go_big_quiet_step (fail); refine wpQuiet_nil ?_)
     refine tp_fork rfl rfl ?_ ?_
     ·
      go_wp2_with fail
      refine (shift_any L43_10).mono ?_
      rintro e L43_11 ⟨⟨Ah, Ak, ch, ck, rfl, hts⟩, hL43_11⟩
      replace e1 := e1.below hL43_11 e1.lt
      have B_L43_11 := ex_trans B_L43_10 hL43_11
      have X_L43_11 := ex_trans X_L43_10 hL43_11
      go_wp2_with fail
      refine ⟨inEx X_L43_11, ?_⟩
      repeat (refine tp_quiet rfl ?_; go_big_quiet_step (fail); refine wpQuiet_nil ?_)
      refine tp_loud rfl ?_
      go_wp2_with fail
      have NR := ex_alloc (Below.refl L43_11.heap.size L43_11) (.cells #[.int .i64 0, .int .i64 2] 3)
      have e2 : Blk (L43_11.alloc (.cells #[.int .i64 0, .int .i64 2] 3)) L43_11.heap.size 3 #[.int .i64 0, .int .i64 2] := Blk.new _ _ _
      replace e1 := e1.below NR e1.lt
      replace hts := hts.go NR
      have B_L43_12 := ex_trans B_L43_11 NR
      have X_L43_12 := ex_trans X_L43_11 NR
      obtain ⟨a2, ha2⟩ : ∃ p, L43_11.heap.size = p := ⟨_, rfl⟩
      rw [ha2] at e2 ⊢
      clear ha2 NR
      generalize L43_11.alloc (.cells #[.int .i64 0, .int .i64 2] 3) = L43_12 at *
      refine ⟨inEx X_L43_12, ?_⟩
      repeat (refine tp_quiet rfl ?_; go_big_quiet_step (fail); refine wpQuiet_nil ?_)
      refine tp_loud rfl ?_
      go_wp2_with fail
      have NR := ex_alloc (Below.refl L43_12.heap.size L43_12) (.cells #[.slice (some ⟨a1, 0, none⟩) 2 2, .slice (some ⟨a2, 0, none⟩) 2 2] 28)
      have e3 : Blk (L43_12.alloc (.cells #[.slice (some ⟨a1, 0, none⟩) 2 2, .slice (some ⟨a2, 0, none⟩) 2 2] 28)) L43_12.heap.size 28 #[.slice (some ⟨a1, 0, none⟩) 2 2, .slice (some ⟨a2, 0, none⟩) 2 2] := Blk.new _ _ _
      replace e1 := e1.below NR e1.lt
      replace hts := hts.go NR
      replace e2 := e2.below NR e2.lt
      have B_L43_13 := ex_trans B_L43_12 NR
      have X_L43_13 := ex_trans X_L43_12 NR
      obtain ⟨a3, ha3⟩ : ∃ p, L43_12.heap.size = p := ⟨_, rfl⟩
      rw [ha3] at e3 ⊢
      clear ha3 NR
      generalize L43_12.alloc (.cells #[.slice (some ⟨a1, 0, none⟩) 2 2, .slice (some ⟨a2, 0, none⟩) 2 2] 28) = L43_13 at *
      refine ⟨inEx X_L43_13, ?_⟩
      repeat (refine tp_quiet rfl ?_; go_big_quiet_step (fail); refine wpQuiet_nil ?_)
      refine tp_loud rfl ?_
      go_wp2_with fail
      have z0 := sl_2 (f := fI [4, 1]) e1 rfl rfl
      have z1 := sl_2 (f := fI [0, 2]) e2 rfl rfl
      have z2 := sl_2 (f := fun k _ => .slice (some ⟨[a1, a2].getD k 0, 0, none⟩) (gL [[4, 1], [0, 2]] k).length 2) e3 rfl rfl
      refine (ProveR_any shiftT Ah Ak ch ck L43_13 hts ⟨by show 2 ≤ _; omega, by show 2 ≤ _; omega⟩ [[4, 1], [0, 2]] (some ⟨a3, 0, none⟩) 2 (fun k => some ⟨[a1, a2].getD k 0, 0, none⟩) (fun _ => 2) ⟨z2, fun k hk => (match k, hk with | 0, _ => z0 | 1, _ => z1)⟩ ⟨by show 2 ≤ _; omega, fun k hk => (match k, hk with | 0, _ => by show 2 ≤ _; omega | 1, _ => by show 2 ≤ _; omega)⟩ 2).mono ?_
      rintro e L43_14 ⟨rfl, hL43_14⟩
      replace e1 := e1.below hL43_14 e1.lt
      replace hts := hts.go hL43_14
      replace e2 := e2.below hL43_14 e2.lt
      replace e3 := e3.below hL43_14 e3.lt
      have B_L43_14 := ex_trans B_L43_13 hL43_14
      have X_L43_14 := ex_trans X_L43_13 hL43_14
      rw [ros_yes]
      clear z0 z1 z2 e1 e2 e3 hts
      go_wp2_with fail
      refine ⟨inEx X_L43_14, ?_⟩
      repeat (refine tp_quiet rfl ?_; go_big_quiet_step (fail); refine wpQuiet_nil ?_)
      refine tp_done ?_
      exact ⟨⟨X_L43_14, exFrame (by kernel_rfl)⟩⟩
     ·
      go_wp2_with fail
      have NR := ex_alloc (Below.refl L43_10.heap.size L43_10) (.cells #[.int .i64 0, .int .i64 2] 3)
      have e2 : Blk (L43_10.alloc (.cells #[.int .i64 0, .int .i64 2] 3)) L43_10.heap.size 3 #[.int .i64 0, .int .i64 2] := Blk.new _ _ _
      replace e1 := e1.below NR e1.lt
      have B_L43_15 := ex_trans B_L43_10 NR
      have X_L43_15 := ex_trans X_L43_10 NR
      obtain ⟨a2, ha2⟩ : ∃ p, L43_10.heap.size = p := ⟨_, rfl⟩
      rw [ha2] at e2 ⊢
      clear ha2 NR
      generalize L43_10.alloc (.cells #[.int .i64 0, .int .i64 2] 3) = L43_15 at *
      refine ⟨inEx X_L43_15, ?_⟩
      repeat (refine tp_quiet rfl ?_; go_big_quiet_step (fail); refine wpQuiet_nil ?_)
      refine tp_fork rfl rfl ?_ ?_
      ·
       go_wp2_with fail
       refine (shift_any L43_15).mono ?_
       rintro e L43_16 ⟨⟨Ah, Ak, ch, ck, rfl, hts⟩, hL43_16⟩
       replace e1 := e1.below hL43_16 e1.lt
       replace e2 := e2.below hL43_16 e2.lt
       have B_L43_16 := ex_trans B_L43_15 hL43_16
       have X_L43_16 := ex_trans X_L43_15 hL43_16
       go_wp2_with fail
       refine ⟨inEx X_L43_16, ?_⟩
       repeat (refine tp_quiet rfl ?_; go_big_quiet_step (fail); refine wpQuiet_nil ?_)
       refine tp_loud rfl ?_
       go_wp2_with fail
       have NR := ex_alloc (Below.refl L43_16.heap.size L43_16) (.cells #[.slice (some ⟨a1, 0, none⟩) 2 2, .slice (some ⟨a2, 0, none⟩) 2 2] 28)
       have e3 : Blk (L43_16.alloc (.cells #[.slice (some ⟨a1, 0, none⟩) 2 2, .slice (some ⟨a2, 0, none⟩) 2 2] 28)) L43_16.heap.size 28 #[.slice (some ⟨a1, 0, none⟩) 2 2, .slice (some ⟨a2, 0, none⟩) 2 2] := Blk.new _ _ _
       replace e1 := e1.below NR e1.lt
       replace e2 := e2.below NR e2.lt
       replace hts := hts.go NR
       have B_L43_17 := ex_trans B_L43_16 NR
       have X_L43_17 := ex_trans X_L43_16 NR
       obtain ⟨a3, ha3⟩ : ∃ p, L43_16.heap.size = p := ⟨_, rfl⟩
       rw [ha3] at e3 ⊢
       clear ha3 NR
       generalize L43_16.alloc (.cells #[.slice (some ⟨a1, 0, none⟩) 2 2, .slice (some ⟨a2, 0, none⟩) 2 2] 28) = L43_17 at *
       refine ⟨inEx X_L43_17, ?_⟩
       repeat (refine tp_quiet rfl ?_; go_big_quiet_step (fail); refine wpQuiet_nil ?_)
       refine tp_loud rfl ?_
       go_wp2_with fail
       have z0 := sl_2 (f := fI [4, 1]) e1 rfl rfl
       have z1 := sl_2 (f := fI [0, 2]) e2 rfl rfl
       have z2 := sl_2 (f := fun k _ => .slice (some ⟨[a1, a2].getD k 0, 0, none⟩) (gL [[4, 1], [0, 2]] k).length 2) e3 rfl rfl
       refine (ProveR_any shiftT Ah Ak ch ck L43_17 hts ⟨by show 2 ≤ _; omega, by show 2 ≤ _; omega⟩ [[4, 1], [0, 2]] (some ⟨a3, 0, none⟩) 2 (fun k => some ⟨[a1, a2].getD k 0, 0, none⟩) (fun _ => 2) ⟨z2, fun k hk => (match k, hk with | 0, _ => z0 | 1, _ => z1)⟩ ⟨by show 2 ≤ _; omega, fun k hk => (match k, hk with | 0, _ => by show 2 ≤ _; omega | 1, _ => by show 2 ≤ _; omega)⟩ 2).mono ?_
       rintro e L43_18 ⟨rfl, hL43_18⟩
       replace e1 := e1.below hL43_18 e1.lt
       replace e2 := e2.below hL43_18 e2.lt
       replace hts := hts.go hL43_18
       replace e3 := e3.below hL43_18 e3.lt
       have B_L43_18 := ex_trans B_L43_17 hL43_18
       have X_L43_18 := ex_trans X_L43_17 hL43_18
       rw [ros_yes]
       clear z0 z1 z2 e1 e2 e3 hts
       go_wp2_with fail
       refine ⟨inEx X_L43_18, ?_⟩
       repeat (refine tp_quiet rfl ?_; go_big_quiet_step (fail); refine wpQuiet_nil ?_)
       refine tp_done ?_
       exact ⟨⟨X_L43_18, exFrame (by kernel_rfl)⟩⟩
      ·
       go_wp2_with fail
       have NR := ex_alloc (Below.refl L43_15.heap.size L43_15) (.cells #[.slice (some ⟨a1, 0, none⟩) 2 2, .slice (some ⟨a2, 0, none⟩) 2 2] 28)
       have e3 : Blk (L43_15.alloc (.cells #[.slice (some ⟨a1, 0, none⟩) 2 2, .slice (some ⟨a2, 0, none⟩) 2 2] 28)) L43_15.heap.size 28 #[.slice (some ⟨a1, 0, none⟩) 2 2, .slice (some ⟨a2, 0, none⟩) 2 2] := Blk.new _ _ _
       replace e1 := e1.below NR e1.lt
       replace e2 := e2.below NR e2.lt
       have B_L43_19 := ex_trans B_L43_15 NR
       have X_L43_19 := ex_trans X_L43_15 NR
       obtain ⟨a3, ha3⟩ : ∃ p, L43_15.heap.size = p := ⟨_, rfl⟩
       rw [ha3] at e3 ⊢
       clear ha3 NR
       generalize L43_15.alloc (.cells #[.slice (some ⟨a1, 0, none⟩) 2 2, .slice (some ⟨a2, 0, none⟩) 2 2] 28) = L43_19 at *
       refine ⟨inEx X_L43_19, ?_⟩
       repeat (refine tp_quiet rfl ?_; go_big_quiet_step (fail); refine wpQuiet_nil ?_)
       refine tp_loud rfl ?_
       go_wp2_with fail
       refine (shift_any L43_19).mono ?_
       rintro e L43_20 ⟨⟨Ah, Ak, ch, ck, rfl, hts⟩, hL43_20⟩
       replace e1 := e1.below hL43_20 e1.lt
       replace e2 := e2.below hL43_20 e2.lt
       replace e3 := e3.below hL43_20 e3.lt
       have B_L43_20 := ex_trans B_L43_19 hL43_20
       have X_L43_20 := ex_trans X_L43_19 hL43_20
       go_wp2_with fail
       refine ⟨inEx X_L43_20, ?_⟩
       repeat (refine tp_quiet rfl ?_; go_big_quiet_step (fail); refine wpQuiet_nil ?_)
       refine tp_loud rfl ?_
       go_wp2_with fail
       have z0 := sl_2 (f := fI [4, 1]) e1 rfl rfl
       have z1 := sl_2 (f := fI [0, 2]) e2 rfl rfl
       have z2 := sl_2 (f := fun k _ => .slice (some ⟨[a1, a2].getD k 0, 0, none⟩) (gL [[4, 1], [0, 2]] k).length 2) e3 rfl rfl
       refine (ProveR_any shiftT Ah Ak ch ck L43_20 hts ⟨by show 2 ≤ _; omega, by show 2 ≤ _; omega⟩ [[4, 1], [0, 2]] (some ⟨a3, 0, none⟩) 2 (fun k => some ⟨[a1, a2].getD k 0, 0, none⟩) (fun _ => 2) ⟨z2, fun k hk => (match k, hk with | 0, _ => z0 | 1, _ => z1)⟩ ⟨by show 2 ≤ _; omega, fun k hk => (match k, hk with | 0, _ => by show 2 ≤ _; omega | 1, _ => by show 2 ≤ _; omega)⟩ 2).mono ?_
       rintro e L43_21 ⟨rfl, hL43_21⟩
       replace e1 := e1.below hL43_21 e1.lt
       replace e2 := e2.below hL43_21 e2.lt
       replace e3 := e3.below hL43_21 e3.lt
       replace hts := hts.go hL43_21
       have B_L43_21 := ex_trans B_L43_20 hL43_21
       have X_L43_21 := ex_trans X_L43_20 hL43_21
       rw [ros_yes]
       clear z0 z1 z2 e1 e2 e3 hts
       go_wp2_with fail
       refine ⟨inEx X_L43_21, ?_⟩
       repeat (refine tp_quiet rfl ?_; go_big_quiet_step (fail); refine wpQuiet_nil ?_)
       refine tp_done ?_
       exact ⟨⟨X_L43_21, exFrame (by kernel_rfl)⟩⟩
    ·
     go_wp2_with fail
     have NR := ex_alloc (Below.refl W10.heap.size W10) (.cells #[.int .i64 0, .int .i64 2] 3)
     have e2 : Blk (W10.alloc (.cells #[.int .i64 0, .int .i64 2] 3)) W10.heap.size 3 #[.int .i64 0, .int .i64 2] := Blk.new _ _ _
     have B_L43_22 := ex_trans B_W10 NR
     have X_L43_22 := ex_trans hb10 NR
     obtain ⟨a2, ha2⟩ : ∃ p, W10.heap.size = p := ⟨_, rfl⟩
     rw [ha2] at e2 ⊢
     clear ha2 NR
     generalize W10.alloc (.cells #[.int .i64 0, .int .i64 2] 3) = L43_22 at *
     refine ⟨inEx X_L43_22, ?_⟩
     repeat (refine tp_quiet rfl ?_; go_big_quiet_step (fail); refine wpQuiet_nil ?_)
     refine tp_fork rfl rfl ?_ ?_
     ·
      go_wp2_with fail
      refine (shift_any L43_22).mono ?_
      rintro e L43_23 ⟨⟨Ah, Ak, ch, ck, rfl, hts⟩, hL43_23⟩
      replace e2 := e2.below hL43_23 e2.lt
      have B_L43_23 := ex_trans B_L43_22 hL43_23
      have X_L43_23 := ex_trans X_L43_22 hL43_23
      go_wp2_with fail
      refine ⟨inEx X_L43_23, ?_⟩
      repeat (refine tp_quiet rfl ?_; go_big_quiet_step (fail); refine wpQuiet_nil ?_)
      refine tp_loud rfl ?_
      go_wp2_with fail
      have NR := ex_alloc (Below.refl L43_23.heap.size L43_23) (.cells #[.int .i64 4, .int .i64 1] 3)
      have e1 : Blk (L43_23.alloc (.cells #[.int .i64 4, .int .i64 1] 3)) L43_23.heap.size 3 #[.int .i64 4, .int .i64 1] := Blk.new _ _ _
      replace e2 := e2.below NR e2.lt
      replace hts := hts.go NR
      have B_L43_24 := ex_trans B_L43_23 NR
      have X_L43_24 := ex_trans X_L43_23 NR
      obtain ⟨a1, ha1⟩ : ∃ p, L43_23.heap.size = p := ⟨_, rfl⟩
      rw [ha1] at e1 ⊢
      clear ha1 NR
      generalize L43_23.alloc (.cells #[.int .i64 4, .int .i64 1] 3) = L43_24 at *
      refine ⟨inEx X_L43_24, ?_⟩
      repeat (refine tp_quiet rfl ?_; go_big_quiet_step (fail); refine wpQuiet_nil ?_)
      refine tp_loud rfl ?_
      go_wp2_with fail
      have NR := ex_alloc (Below.refl L43_24.heap.size L43_24) (.cells #[.slice (some ⟨a1, 0, none⟩) 2 2, .slice (some ⟨a2, 0, none⟩) 2 2] 28)
      have e3 : Blk (L43_24.alloc (.cells #[.slice (some ⟨a1, 0, none⟩) 2 2, .slice (some ⟨a2, 0, none⟩) 2 2] 28)) L43_24.heap.size 28 #[.slice (some ⟨a1, 0, none⟩) 2 2, .slice (some ⟨a2, 0, none⟩) 2 2] := Blk.new _ _ _
      replace e2 := e2.below NR e2.lt
      replace hts := hts.go NR
      replace e1 := e1.below NR e1.lt
      have B_L43_25 := ex_trans B_L43_24 NR
      have X_L43_25 := ex_trans X_L43_24 NR
      obtain ⟨a3, ha3⟩ : ∃ p, L43_24.heap.size = p := ⟨_, rfl⟩
      rw [ha3] at e3 ⊢
      clear ha3 NR
      generalize L43_24.alloc (.cells #[.slice (some ⟨a1, 0, none⟩) 2 2, .slice (some ⟨a2, 0, none⟩) 2 2] 28) = L43_25 at *
      refine ⟨inEx X_L43_25, ?_⟩
      repeat (refine tp_quiet rfl ?_; go_big_quiet_step (fail); refine wpQuiet_nil ?_)
      refine tp_loud rfl ?_
      go_wp2_with fail
      have z0 := sl_2 (f := fI [4, 1]) e1 rfl rfl
      have z1 := sl_2 (f := fI [0, 2]) e2 rfl rfl
      have z2 := sl_2 (f := fun k _ => .slice (some ⟨[a1, a2].getD k 0, 0, none⟩) (gL [[4, 1], [0, 2]] k).length 2) e3 rfl rfl
      refine (ProveR_any shiftT Ah Ak ch ck L43_25 hts ⟨by show 2 ≤ _; omega, by show 2 ≤ _; omega⟩ [[4, 1], [0, 2]] (some ⟨a3, 0, none⟩) 2 (fun k => some ⟨[a1, a2].getD k 0, 0, none⟩) (fun _ => 2) ⟨z2, fun k hk => (match k, hk with | 0, _ => z0 | 1, _ => z1)⟩ ⟨by show 2 ≤ _; omega, fun k hk => (match k, hk with | 0, _ => by show 2 ≤ _; omega | 1, _ => by show 2 ≤ _; omega)⟩ 2).mono ?_
      rintro e L43_26 ⟨rfl, hL43_26⟩
      replace e2 := e2.below hL43_26 e2.lt
      replace hts := hts.go hL43_26
      replace e1 := e1.below hL43_26 e1.lt
      replace e3 := e3.below hL43_26 e3.lt
      have B_L43_26 := ex_trans B_L43_25 hL43_26
      have X_L43_26 := ex_trans X_L43_25 hL43_26
      rw [ros_yes]
      clear z0 z1 z2 e1 e2 e3 hts
      go_wp2_with fail
      refine ⟨inEx X_L43_26, ?_⟩
      repeat (refine tp_quiet rfl ?_; go_big_quiet_step (fail); refine wpQuiet_nil ?_)
      refine tp_done ?_
      exact ⟨⟨X_L43_26, exFrame (by kernel_rfl)⟩⟩
     ·
      go_wp2_with fail
      have NR := ex_alloc (Below.refl L43_22.heap.size L43_22) (.cells #[.int .i64 4, .int .i64 1] 3)
      have e1 : Blk (L43_22.alloc (.cells #[.int .i64 4, .int .i64 1] 3)) L43_22.heap.size 3 #[.int .i64 4, .int .i64 1] := Blk.new _ _ _
      replace e2 := e2.below NR e2.lt
      have B_L43_27 := ex_trans B_L43_22 NR
      have X_L43_27 := ex_trans X_L43_22 NR
      obtain ⟨a1, ha1⟩ : ∃ p, L43_22.heap.size = p := ⟨_, rfl⟩
      rw [ha1] at e1 ⊢
      clear ha1 NR
      generalize L43_22.alloc (.cells #[.int .i64 4, .int .i64 1] 3) = L43_27 at *
      refine ⟨inEx X_L43_27, ?_⟩
      repeat (refine tp_quiet rfl ?_; go_big_quiet_step (fail); refine wpQuiet_nil ?_)
      refine tp_fork rfl rfl ?_ ?_
      ·
       go_wp2_with fail
       refine (shift_any L43_27).mono ?_
       rintro e L43_28 ⟨⟨Ah, Ak, ch, ck, rfl, hts⟩, hL43_28⟩
       replace e2 := e2.below hL43_28 e2.lt
       replace e1 := e1.below hL43_28 e1.lt
       have B_L43_28 := ex_trans B_L43_27 hL43_28
       have X_L43_28 := ex_trans X_L43_27 hL43_28
       go_wp2_with fail
       refine ⟨inEx X_L43_28, ?_⟩
       repeat (refine tp_quiet rfl ?_; go_big_quiet_step (fail); refine wpQuiet_nil ?_)
       refine tp_loud rfl ?_
       go_wp2_with fail
       have NR := ex_alloc (Below.refl L43_28.heap.size L43_28) (.cells #[.slice (some ⟨a1, 0, none⟩) 2 2, .slice (some ⟨a2, 0, none⟩) 2 2] 28)
       have e3 : Blk (L43_28.alloc (.cells #[.slice (some ⟨a1, 0, none⟩) 2 2, .slice (some ⟨a2, 0, none⟩) 2 2] 28)) L43_28.heap.size 28 #[.slice (some ⟨a1, 0, none⟩) 2 2, .slice (some ⟨a2, 0, none⟩) 2 2] := Blk.new _ _ _
       replace e2 := e2.below NR e2.lt
       replace e1 := e1.below NR e1.lt
       replace hts := hts.go NR
       have B_L43_29 := ex_trans B_L43_28 NR
       have X_L43_29 := ex_trans X_L43_28 NR
       obtain ⟨a3, ha3⟩ : ∃ p, L43_28.heap.size = p := ⟨_, rfl⟩
       rw [ha3] at e3 ⊢
       clear ha3 NR
       generalize L43_28.alloc (.cells #[.slice (some ⟨a1, 0, none⟩) 2 2, .slice (some ⟨a2, 0, none⟩) 2 2] 28) = L43_29 at *
       refine ⟨inEx X_L43_29, ?_⟩
       repeat (refine tp_quiet rfl ?_; go_big_quiet_step (fail); refine wpQuiet_nil ?_)
       refine tp_loud rfl ?_
       go_wp2_with fail
       have z0 := sl_2 (f := fI [4, 1]) e1 rfl rfl
       have z1 := sl_2 (f := fI [0, 2]) e2 rfl rfl
       have z2 := sl_2 (f := fun k _ => .slice (some ⟨[a1, a2].getD k 0, 0, none⟩) (gL [[4, 1], [0, 2]] k).length 2) e3 rfl rfl
       refine (ProveR_any shiftT Ah Ak ch ck L43_29 hts ⟨by show 2 ≤ _; omega, by show 2 ≤ _; omega⟩ [[4, 1], [0, 2]] (some ⟨a3, 0, none⟩) 2 (fun k => some ⟨[a1, a2].getD k 0, 0, none⟩) (fun _ => 2) ⟨z2, fun k hk => (match k, hk with | 0, _ => z0 | 1, _ => z1)⟩ ⟨by show 2 ≤ _; omega, fun k hk => (match k, hk with | 0, _ => by show 2 ≤ _; omega | 1, _ => by show 2 ≤ _; omega)⟩ 2).mono ?_
       rintro e L43_30 ⟨rfl, hL43_30⟩
       replace e2 := e2.below hL43_30 e2.lt
       replace e1 := e1.below hL43_30 e1.lt
       replace hts := hts.go hL43_30
       replace e3 := e3.below hL43_30 e3.lt
       have B_L43_30 := ex_trans B_L43_29 hL43_30
       have X_L43_30 := ex_trans X_L43_29 hL43_30
       rw [ros_yes]
       clear z0 z1 z2 e1 e2 e3 hts
       go_wp2_with fail
       refine ⟨inEx X_L43_30, ?_⟩
       repeat (refine tp_quiet rfl ?_; go_big_quiet_step (fail); refine wpQuiet_nil ?_)
       refine tp_done ?_
       exact ⟨⟨X_L43_30, exFrame (by kernel_rfl)⟩⟩
      ·
       go_wp2_with fail
       have NR := ex_alloc (Below.refl L43_27.heap.size L43_27) (.cells #[.slice (some ⟨a1, 0, none⟩) 2 2, .slice (some ⟨a2, 0, none⟩) 2 2] 28)
       have e3 : Blk (L43_27.alloc (.cells #[.slice (some ⟨a1, 0, none⟩) 2 2, .slice (some ⟨a2, 0, none⟩) 2 2] 28)) L43_27.heap.size 28 #[.slice (some ⟨a1, 0, none⟩) 2 2, .slice (some ⟨a2, 0, none⟩) 2 2] := Blk.new _ _ _
       replace e2 := e2.below NR e2.lt
       replace e1 := e1.below NR e1.lt
       have B_L43_31 := ex_trans B_L43_27 NR
       have X_L43_31 := ex_trans X_L43_27 NR
       obtain ⟨a3, ha3⟩ : ∃ p, L43_27.heap.size = p := ⟨_, rfl⟩
       rw [ha3] at e3 ⊢
       clear ha3 NR
       generalize L43_27.alloc (.cells #[.slice (some ⟨a1, 0, none⟩) 2 2, .slice (some ⟨a2, 0, none⟩) 2 2] 28) = L43_31 at *
       refine ⟨inEx X_L43_31, ?_⟩
       repeat (refine tp_quiet rfl ?_; go_big_quiet_step (fail); refine wpQuiet_nil ?_)
       refine tp_loud rfl ?_
       go_wp2_with fail
       refine (shift_any L43_31).mono ?_
       rintro e L43_32 ⟨⟨Ah, Ak, ch, ck, rfl, hts⟩, hL43_32⟩
       replace e2 := e2.below hL43_32 e2.lt
       replace e1 := e1.below hL43_32 e1.lt
       replace e3 := e3.below hL43_32 e3.lt
       have B_L43_32 := ex_trans B_L43_31 hL43_32
       have X_L43_32 := ex_trans X_L43_31 hL43_32
       go_wp2_with fail
       refine ⟨inEx X_L43_32, ?_⟩
       repeat (refine tp_quiet rfl ?_; go_big_quiet_step (fail); refine wpQuiet_nil ?_)
       refine tp_loud rfl ?_
       go_wp2_with fail
       have z0 := sl_2 (f := fI [4, 1]) e1 rfl rfl
       have z1 := sl_2 (f := fI [0, 2]) e2 rfl rfl
       have z2 := sl_2 (f := fun k _ => .slice (some ⟨[a1, a2].getD k 0, 0, none⟩) (gL [[4, 1], [0, 2]] k).length 2) e3 rfl rfl
       refine (ProveR_any shiftT Ah Ak ch ck L43_32 hts ⟨by show 2 ≤ _; omega, by show 2 ≤ _; omega⟩ [[4, 1], [0, 2]] (some ⟨a3, 0, none⟩) 2 (fun k => some ⟨[a1, a2].getD k 0, 0, none⟩) (fun _ => 2) ⟨z2, fun k hk => (match k, hk with | 0, _ => z0 | 1, _ => z1)⟩ ⟨by show 2 ≤ _; omega, fun k hk => (match k, hk with | 0, _ => by show 2 ≤ _; omega | 1, _ => by show 2 ≤ _; omega)⟩ 2).mono ?_
       rintro e L43_33 ⟨rfl, hL43_33⟩
       replace e2 := e2.below hL43_33 e2.lt
       replace e1 := e1.below hL43_33 e1.lt
       replace e3 := e3.below hL43_33 e3.lt
       replace hts := hts.go hL43_33
       have B_L43_33 := ex_trans B_L43_32 hL43_33
       have X_L43_33 := ex_trans X_L43_32 hL43_33
       rw [ros_yes]
       clear z0 z1 z2 e1 e2 e3 hts
       go_wp2_with fail
       refine ⟨inEx X_L43_33, ?_⟩
       repeat (refine tp_quiet rfl ?_; go_big_quiet_step (fail); refine wpQuiet_nil ?_)
       refine tp_done ?_
       exact ⟨⟨X_L43_33, exFrame (by kernel_rfl)⟩⟩
   ·
    rintro a W11 hS ⟨⟨hb11, u11, rfl⟩⟩
    clear hS hb10
    refine parts_step ?_ ?_
    ·
     have B_W11 := ex_trans B_V7 hb11
     repeat (refine tp_quiet rfl ?_; go_big_quiet_step (fail); refine wpQuiet_nil ?_)
     refine tp_fork3 rfl rfl rfl ?_ ?_ ?_
     ·
      go_wp2_with fail
      refine (shift_any W11).mono ?_
      rintro e L51_1 ⟨⟨Ah, Ak, ch, ck, rfl, hts⟩, hL51_1⟩
      have B_L51_1 := ex_trans B_W11 hL51_1
      have X_L51_1 := ex_trans hb11 hL51_1
      go_wp2_with fail
      refine ⟨inEx X_L51_1, ?_⟩
      repeat (refine tp_quiet rfl ?_; go_big_quiet_step (fail); refine wpQuiet_nil ?_)
      refine tp_fork rfl rfl ?_ ?_
      ·
       go_wp2_with fail
       have NR := ex_alloc (Below.refl L51_1.heap.size L51_1) (.cells #[.int .i64 4, .int .i64 1] 3)
       have e1 : Blk (L51_1.alloc (.cells #[.int .i64 4, .int .i64 1] 3)) L51_1.heap.size 3 #[.int .i64 4, .int .i64 1] := Blk.new _ _ _
       replace hts := hts.go NR
       have B_L51_2 := ex_trans B_L51_1 NR
       have X_L51_2 := ex_trans X_L51_1 NR
       obtain ⟨a1, ha1⟩ : ∃ p, L51_1.heap.size = p := ⟨_, rfl⟩
       rw [ha1] at e1 ⊢
       clear ha1 NR
       generalize L51_1.alloc (.cells #[.int .i64 4, .int .i64 1] 3) = L51_2 at *
       refine ⟨inEx X_L51_2, ?_⟩
       repeat (refine tp_quiet rfl ?_; go_big_quiet_step (fail); refine wpQuiet_nil ?_)
       refine tp_loud rfl ?_
       go_wp2_with fail
       have NR := ex_alloc (Below.refl L51_2.heap.size L51_2) (.cells #[.int .i64 0, .int .i64 2] 3)
       have e2 : Blk (L51_2.alloc (.cells #[.int .i64 0, .int .i64 2] 3)) L51_2.heap.size 3 #[.int .i64 0, .int .i64 2] := Blk.new _ _ _
       replace hts := hts.go NR
       replace e1 := e1.below NR e1.lt
       have B_L51_3 := ex_trans B_L51_2 NR
       have X_L51_3 := ex_trans X_L51_2 NR
       obtain ⟨a2, ha2⟩ : ∃ p, L51_2.heap.size = p := ⟨_, rfl⟩
       rw [ha2] at e2 ⊢
       clear ha2 NR
       generalize L51_2.alloc (.cells #[.int .i64 0, .int .i64 2] 3) = L51_3 at *
       refine ⟨inEx X_L51_3, ?_⟩
       repeat (refine tp_quiet rfl ?_; go_big_quiet_step (fail); refine wpQuiet_nil ?_)
       refine tp_loud rfl ?_
       go_wp2_with fail
       have NR := ex_alloc (Below.refl L51_3.heap.size L51_3) (.cells #[.slice (some ⟨a1, 0, none⟩) 2 2, .slice (some ⟨a2, 0, none⟩) 2 2] 28)
       have e3 : Blk (L51_3.alloc (.cells #[.slice (some ⟨a1, 0, none⟩) 2 2, .slice (some ⟨a2, 0, none⟩) 2 2] 28)) L51_3.heap.size 28 #[.slice (some ⟨a1, 0, none⟩) 2 2, .slice (some ⟨a2, 0, none⟩) 2 2] := Blk.new _ _ _
       replace hts := hts.go NR
       replace e1 := e1.below NR e1.lt
       replace e2 := e2.below NR e2.lt
       have B_L51_4 := ex_trans B_L51_3 NR
       have X_L51_4 := ex_trans X_L51_3 NR
       obtain ⟨a3, ha3⟩ : ∃ p, L51_3.heap.size = p := ⟨_, rfl⟩
       rw [ha3] at e3 ⊢
       clear ha3 NR
       generalize L51_3.alloc (.cells #[.slice (some ⟨a1, 0, none⟩) 2 2, .slice (some ⟨a2, 0, none⟩) 2 2] 28) = L51_4 at *
       refine ⟨inEx X_L51_4, ?_⟩
       repeat (refine tp_quiet rfl ?_; go_big_quiet_step (fail); refine wpQuiet_nil ?_)
       refine tp_loud rfl ?_
       go_wp2_with fail
       have z0 := sl_2 (f := fI [4, 1]) e1 rfl rfl
       have z1 := sl_2 (f := fI [0, 2]) e2 rfl rfl
       have z2 := sl_2 (f := fun k _ => .slice (some ⟨[a1, a2].getD k 0, 0, none⟩) (gL [[4, 1], [0, 2]] k).length 2) e3 rfl rfl
       refine (ProveR_any shiftT Ah Ak ch ck L51_4 hts ⟨by show 2 ≤ _; omega, by show 2 ≤ _; omega⟩ [[4, 1], [0, 2]] (some ⟨a3, 0, none⟩) 2 (fun k => some ⟨[a1, a2].getD k 0, 0, none⟩) (fun _ => 2) ⟨z2, fun k hk => (match k, hk with | 0, _ => z0 | 1, _ => z1)⟩ ⟨by show 2 ≤ _; omega, fun k hk => (match k, hk with | 0, _ => by show 2 ≤ _; omega | 1, _ => by show 2 ≤ _; omega)⟩ 1).mono ?_
       rintro e L51_5 ⟨rfl, hL51_5⟩
       replace hts := hts.go hL51_5
       replace e1 := e1.below hL51_5 e1.lt
       replace e2 := e2.below hL51_5 e2.lt
       replace e3 := e3.below hL51_5 e3.lt
       have B_L51_5 := ex_trans B_L51_4 hL51_5
       have X_L51_5 := ex_trans X_L51_4 hL51_5
       rw [ros_many]
       clear z0 z1 z2 e1 e2 e3 hts
       go_wp2_with fail
       refine ⟨inEx X_L51_5, ?_⟩
       repeat (refine tp_quiet rfl ?_; go_big_quiet_step (fail); refine wpQuiet_nil ?_)
       refine tp_done ?_
       exact ⟨⟨X_L51_5, exFrame (by kernel_rfl)⟩⟩
      ·
       go_wp2_with fail
       have NR := ex_alloc (Below.refl L51_1.heap.size L51_1) (.cells #[.int .i64 0, .int .i64 2] 3)
       have e2 : Blk (L51_1.alloc (.cells #[.int .i64 0, .int .i64 2] 3)) L51_1.heap.size 3 #[.int .i64 0, .int .i64 2] := Blk.new _ _ _
       replace hts := hts.go NR
       have B_L51_6 := ex_trans B_L51_1 NR
       have X_L51_6 := ex_trans X_L51_1 NR
       obtain ⟨a2, ha2⟩ : ∃ p, L51_1.heap.size = p := ⟨_, rfl⟩
       rw [ha2] at e2 ⊢
       clear ha2 NR
       generalize L51_1.alloc (.cells #[.int .i64 0, .int .i64 2] 3) = L51_6 at *
       refine ⟨inEx X_L51_6, ?_⟩
       repeat (refine tp_quiet rfl ?_; go_big_quiet_step (fail); refine wpQuiet_nil ?_)
       refine tp_loud rfl ?_
       go_wp2_with fail
       have NR := ex_alloc (Below.refl L51_6.heap.size L51_6) (.cells #[.int .i64 4, .int .i64 1] 3)
       have e1 : Blk (L51_6.alloc (.cells #[.int .i64 4, .int .i64 1] 3)) L51_6.heap.size 3 #[.int .i64 4, .int .i64 1] := Blk.new _ _ _
       replace hts := hts.go NR
       replace e2 := e2.below NR e2.lt
       have B_L51_7 := ex_trans B_L51_6 NR
       have X_L51_7 := ex_trans X_L51_6 NR
       obtain ⟨a1, ha1⟩ : ∃ p, L51_6.heap.size = p := ⟨_, rfl⟩
       rw [ha1] at e1 ⊢
       clear ha1 NR
       generalize L51_6.alloc (.cells #[.int .i64 4, .int .i64 1] 3) = L51_7 at *
       refine ⟨inEx X_L51_7, ?_⟩
       repeat (refine tp_quiet rfl ?_; go_big_quiet_step (fail); refine wpQuiet_nil ?_)
       refine tp_loud rfl ?_
       go_wp2_with fail
       have NR := ex_alloc (Below.refl L51_7.heap.size L51_7) (.cells #[.slice (some ⟨a1, 0, none⟩) 2 2, .slice (some ⟨a2, 0, none⟩) 2 2] 28)
       have e3 : Blk (L51_7.alloc (.cells #[.slice (some ⟨a1, 0, none⟩) 2 2, .slice (some ⟨a2, 0, none⟩) 2 2] 28)) L51_7.heap.size 28 #[.slice (some ⟨a1, 0, none⟩) 2 2, .slice (some ⟨a2, 0, none⟩) 2 2] := Blk.new _ _ _
       replace hts := hts.go NR
       replace e2 := e2.below NR e2.lt
       replace e1 := e1.below NR e1.lt
       have B_L51_8 := ex_trans B_L51_7 NR
       have X_L51_8 := ex_trans X_L51_7 NR
       obtain ⟨a3, ha3⟩ : ∃ p, L51_7.heap.size = p := ⟨_, rfl⟩
       rw [ha3] at e3 ⊢
       clear ha3 NR
       generalize L51_7.alloc (.cells #[.slice (some ⟨a1, 0, none⟩) 2 2, .slice (some ⟨a2, 0, none⟩) 2 2] 28) = L51_8 at *
       refine ⟨inEx X_L51_8, ?_⟩
       repeat (refine tp_quiet rfl ?_; go_big_quiet_step (fail); refine wpQuiet_nil ?_)
       refine tp_loud rfl ?_
       go_wp2_with fail
       have z0 := sl_2 (f := fI [4, 1]) e1 rfl rfl
       have z1 := sl_2 (f := fI [0, 2]) e2 rfl rfl
       have z2 := sl_2 (f := fun k _ => .slice (some ⟨[a1, a2].getD k 0, 0, none⟩) (gL [[4, 1], [0, 2]] k).length 2) e3 rfl rfl
       refine (ProveR_any shiftT Ah Ak ch ck L51_8 hts ⟨by show 2 ≤ _; omega, by show 2 ≤ _; omega⟩ [[4, 1], [0, 2]] (some ⟨a3, 0, none⟩) 2 (fun k => some ⟨[a1, a2].getD k 0, 0, none⟩) (fun _ => 2) ⟨z2, fun k hk => (match k, hk with | 0, _ => z0 | 1, _ => z1)⟩ ⟨by show 2 ≤ _; omega, fun k hk => (match k, hk with | 0, _ => by show 2 ≤ _; omega | 1, _ => by show 2 ≤ _; omega)⟩ 1).mono ?_
       rintro e L51_9 ⟨rfl, hL51_9⟩
       replace hts := hts.go hL51_9
       replace e2 := e2.below hL51_9 e2.lt
       replace e1 := e1.below hL51_9 e1.lt
       replace e3 := e3.below hL51_9 e3.lt
       have B_L51_9 := ex_trans B_L51_8 hL51_9
       have X_L51_9 := ex_trans X_L51_8 hL51_9
       rw [ros_many]
       clear z0 z1 z2 e1 e2 e3 hts
       go_wp2_with fail
       refine ⟨inEx X_L51_9, ?_⟩
       repeat (refine tp_quiet rfl ?_; go_big_quiet_step (fail); refine wpQuiet_nil ?_)
       refine tp_done ?_
       exact ⟨⟨X_L51_9, exFrame (by kernel_rfl)⟩⟩
     ·
      go_wp2_with fail
      have NR := ex_alloc (Below.refl W11.heap.size W11) (.cells #[.int .i64 4, .int .i64 1] 3)
      have e1 : Blk (W11.alloc (.cells #[.int .i64 4, .int .i64 1] 3)) W11.heap.size 3 #[.int .i64 4, .int .i64 1] := Blk.new _ _ _
      have B_L51_10 := ex_trans B_W11 NR
      have X_L51_10 := ex_trans hb11 NR
      obtain ⟨a1, ha1⟩ : ∃ p, W11.heap.size = p := ⟨_, rfl⟩
      rw [ha1] at e1 ⊢
      clear ha1 NR
      generalize W11.alloc (.cells #[.int .i64 4, .int .i64 1] 3) = L51_10 at *
      refine ⟨inEx X_L51_10, ?_⟩
      repeat (refine tp_quiet rfl ?_; go_big_quiet_step (fail); refine wpQuiet_nil ?_)
      refine tp_fork rfl rfl ?_ ?_
      ·
       go_wp2_with fail
       refine (shift_any L51_10).mono ?_
       rintro e L51_11 ⟨⟨Ah, Ak, ch, ck, rfl, hts⟩, hL51_11⟩
       replace e1 := e1.below hL51_11 e1.lt
       have B_L51_11 := ex_trans B_L51_10 hL51_11
       have X_L51_11 := ex_trans X_L51_10 hL51_11
       go_wp2_with fail
       refine ⟨inEx X_L51_11, ?_⟩
       repeat (refine tp_quiet rfl ?_; go_big_quiet_step (fail); refine wpQuiet_nil ?_)
       refine tp_loud rfl ?_
       go_wp2_with fail
       have NR := ex_alloc (Below.refl L51_11.heap.size L51_11) (.cells #[.int .i64 0, .int .i64 2] 3)
       have e2 : Blk (L51_11.alloc (.cells #[.int .i64 0, .int .i64 2] 3)) L51_11.heap.size 3 #[.int .i64 0, .int .i64 2] := Blk.new _ _ _
       replace e1 := e1.below NR e1.lt
       replace hts := hts.go NR
       have B_L51_12 := ex_trans B_L51_11 NR
       have X_L51_12 := ex_trans X_L51_11 NR
       obtain ⟨a2, ha2⟩ : ∃ p, L51_11.heap.size = p := ⟨_, rfl⟩
       rw [ha2] at e2 ⊢
       clear ha2 NR
       generalize L51_11.alloc (.cells #[.int .i64 0, .int .i64 2] 3) = L51_12 at *
       refine ⟨inEx X_L51_12, ?_⟩
       repeat (refine tp_quiet rfl ?_; go_big_quiet_step (fail); refine wpQuiet_nil ?_)
       refine tp_loud rfl ?_
       go_wp2_with fail
       have NR := ex_alloc (Below.refl L51_12.heap.size L51_12) (.cells #[.slice (some ⟨a1, 0, none⟩) 2 2, .slice (some ⟨a2, 0, none⟩) 2 2] 28)
       have e3 : Blk (L51_12.alloc (.cells #[.slice (some ⟨a1, 0, none⟩) 2 2, .slice (some ⟨a2, 0, none⟩) 2 2] 28)) L51_12.heap.size 28 #[.slice (some ⟨a1, 0, none⟩) 2 2, .slice (some ⟨a2, 0, none⟩) 2 2] := Blk.new _ _ _
       replace e1 := e1.below NR e1.lt
       replace hts := hts.go NR
       replace e2 := e2.below NR e2.lt
       have B_L51_13 := ex_trans B_L51_12 NR
       have X_L51_13 := ex_trans X_L51_12 NR
       obtain ⟨a3, ha3⟩ : ∃ p, L51_12.heap.size = p := ⟨_, rfl⟩
       rw [ha3] at e3 ⊢
       clear ha3 NR
       generalize L51_12.alloc (.cells #[.slice (some ⟨a1, 0, none⟩) 2 2, .slice (some ⟨a2, 0, none⟩) 2 2] 28) = L51_13 at *
       refine ⟨inEx X_L51_13, ?_⟩
       repeat (refine tp_quiet rfl ?_; go_big_quiet_step (fail); refine wpQuiet_nil ?_)
       refine tp_loud rfl ?_
       go_wp2_with fail
       have z0 := sl_2 (f := fI [4, 1]) e1 rfl rfl
       have z1 := sl_2 (f := fI [0, 2]) e2 rfl rfl
       have z2 := sl_2 (f := fun k _ => .slice (some ⟨[a1, a2].getD k 0, 0, none⟩) (gL [[4, 1], [0, 2]] k).length 2) e3 rfl rfl
       refine (ProveR_any shiftT Ah Ak ch ck L51_13 hts ⟨by show 2 ≤ _; omega, by show 2 ≤ _; omega⟩ [[4, 1], [0, 2]] (some ⟨a3, 0, none⟩) 2 (fun k => some ⟨[a1, a2].getD k 0, 0, none⟩) (fun _ => 2) ⟨z2, fun k hk => (match k, hk with | 0, _ => z0 | 1, _ => z1)⟩ ⟨by show 2 ≤ _; omega, fun k hk => (match k, hk with | 0, _ => by show 2 ≤ _; omega | 1, _ => by show 2 ≤ _; omega)⟩ 1).mono ?_
       rintro e L51_14 ⟨rfl, hL51_14⟩
       replace e1 := e1.below hL51_14 e1.lt
       replace hts := hts.go hL51_14
       replace e2 := e2.below hL51_14 e2.lt
       replace e3 := e3.below hL51_14 e3.lt
       have B_L51_14 := ex_trans B_L51_13 hL51_14
       have X_L51_14 := ex_trans X_L51_13 hL51_14
       rw [ros_many]
       clear z0 z1 z2 e1 e2 e3 hts
       go_wp2_with fail
       refine ⟨inEx X_L51_14, ?_⟩
       repeat (refine tp_quiet rfl ?_; go_big_quiet_step (fail); refine wpQuiet_nil ?_)
       refine tp_done ?_
       exact ⟨⟨X_L51_14, exFrame (by kernel_rfl)⟩⟩
      ·
       go_wp2_with fail
       have NR := ex_alloc (Below.refl L51_10.heap.size L51_10) (.cells #[.int .i64 0, .int .i64 2] 3)
       have e2 : Blk (L51_10.alloc (.cells #[.int .i64 0, .int .i64 2] 3)) L51_10.heap.size 3 #[.int .i64 0, .int .i64 2] := Blk.new _ _ _
       replace e1 := e1.below NR e1.lt
       have B_L51_15 := ex_trans B_L51_10 NR
       have X_L51_15 := ex_trans X_L51_10 NR
       obtain ⟨a2, ha2⟩ : ∃ p, L51_10.heap.size = p := ⟨_, rfl⟩
       rw [ha2] at e2 ⊢
       clear ha2 NR
       generalize L51_10.alloc (.cells #[.int .i64 0, .int .i64 2] 3) = L51_15 at *
       refine ⟨inEx X_L51_15, ?_⟩
       repeat (refine tp_quiet rfl ?_; go_big_quiet_step (fail); refine wpQuiet_nil ?_)
       refine tp_fork rfl rfl ?_ ?_
       ·
        go_wp2_with fail
        refine (shift_any L51_15).mono ?_
        rintro e L51_16 ⟨⟨Ah, Ak, ch, ck, rfl, hts⟩, hL51_16⟩
        replace e1 := e1.below hL51_16 e1.lt
        replace e2 := e2.below hL51_16 e2.lt
        have B_L51_16 := ex_trans B_L51_15 hL51_16
        have X_L51_16 := ex_trans X_L51_15 hL51_16
        go_wp2_with fail
        refine ⟨inEx X_L51_16, ?_⟩
        repeat (refine tp_quiet rfl ?_; go_big_quiet_step (fail); refine wpQuiet_nil ?_)
        refine tp_loud rfl ?_
        go_wp2_with fail
        have NR := ex_alloc (Below.refl L51_16.heap.size L51_16) (.cells #[.slice (some ⟨a1, 0, none⟩) 2 2, .slice (some ⟨a2, 0, none⟩) 2 2] 28)
        have e3 : Blk (L51_16.alloc (.cells #[.slice (some ⟨a1, 0, none⟩) 2 2, .slice (some ⟨a2, 0, none⟩) 2 2] 28)) L51_16.heap.size 28 #[.slice (some ⟨a1, 0, none⟩) 2 2, .slice (some ⟨a2, 0, none⟩) 2 2] := Blk.new _ _ _
        replace e1 := e1.below NR e1.lt
        replace e2 := e2.below NR e2.lt
        replace hts := hts.go NR
        have B_L51_17 := ex_trans B_L51_16 NR
        have X_L51_17 := ex_trans X_L51_16 NR
        obtain ⟨a3, ha3⟩ : ∃ p, L51_16.heap.size = p := ⟨_, rfl⟩
        rw [ha3] at e3 ⊢
        clear ha3 NR
        generalize L51_16.alloc (.cells #[.slice (some ⟨a1, 0, none⟩) 2 2, .slice (some ⟨a2, 0, none⟩) 2 2] 28) = L51_17 at *
        refine ⟨inEx X_L51_17, ?_⟩
        repeat (refine tp_quiet rfl ?_; go_big_quiet_step (fail); refine wpQuiet_nil ?_)
        refine tp_loud rfl ?_
        go_wp2_with fail
        have z0 := sl_2 (f := fI [4, 1]) e1 rfl rfl
        have z1 := sl_2 (f := fI [0, 2]) e2 rfl rfl
        have z2 := sl_2 (f := fun k _ => .slice (some ⟨[a1, a2].getD k 0, 0, none⟩) (gL [[4, 1], [0, 2]] k).length 2) e3 rfl rfl
        refine (ProveR_any shiftT Ah Ak ch ck L51_17 hts ⟨by show 2 ≤ _; omega, by show 2 ≤ _; omega⟩ [[4, 1], [0, 2]] (some ⟨a3, 0, none⟩) 2 (fun k => some ⟨[a1, a2].getD k 0, 0, none⟩) (fun _ => 2) ⟨z2, fun k hk => (match k, hk with | 0, _ => z0 | 1, _ => z1)⟩ ⟨by show 2 ≤ _; omega, fun k hk => (match k, hk with | 0, _ => by show 2 ≤ _; omega | 1, _ => by show 2 ≤ _; omega)⟩ 1).mono ?_
        rintro e L51_18 ⟨rfl, hL51_18⟩
        replace e1 := e1.below hL51_18 e1.lt
        replace e2 := e2.below hL51_18 e2.lt
        replace hts := hts.go hL51_18
        replace e3 := e3.below hL51_18 e3.lt
        have B_L51_18 := ex_trans B_L51_17 hL51_18
        have X_L51_18 := ex_trans X_L51_17 hL51_18
        rw [ros_many]
        clear z0 z1 z2 e1 e2 e3 hts
        go_wp2_with fail
        refine ⟨inEx X_L51_18, ?_⟩
        repeat (refine tp_quiet rfl ?_; go_big_quiet_step (fail); refine wpQuiet_nil ?_)
        refine tp_done ?_
        exact ⟨⟨X_L51_18, exFrame (by kernel_rfl)⟩⟩
       ·
        go_wp2_with fail
        have NR := ex_alloc (Below.refl L51_15.heap.size L51_15) (.cells #[.slice (some ⟨a1, 0, none⟩) 2 2, .slice (some ⟨a2, 0, none⟩) 2 2] 28)
        have e3 : Blk (L51_15.alloc (.cells #[.slice (some ⟨a1, 0, none⟩) 2 2, .slice (some ⟨a2, 0, none⟩) 2 2] 28)) L51_15.heap.size 28 #[.slice (some ⟨a1, 0, none⟩) 2 2, .slice (some ⟨a2, 0, none⟩) 2 2] := Blk.new _ _ _
        replace e1 := e1.below NR e1.lt
        replace e2 := e2.below NR e2.lt
        have B_L51_19 := ex_trans B_L51_15 NR
        have X_L51_19 := ex_trans X_L51_15 NR
        obtain ⟨a3, ha3⟩ : ∃ p, L51_15.heap.size = p := ⟨_, rfl⟩
        rw [ha3] at e3 ⊢
        clear ha3 NR
        generalize L51_15.alloc (.cells #[.slice (some ⟨a1, 0, none⟩) 2 2, .slice (some ⟨a2, 0, none⟩) 2 2] 28) = L51_19 at *
        refine ⟨inEx X_L51_19, ?_⟩
        repeat (refine tp_quiet rfl ?_; go_big_quiet_step (fail); refine wpQuiet_nil ?_)
        refine tp_loud rfl ?_
        go_wp2_with fail
        refine (shift_any L51_19).mono ?_
        rintro e L51_20 ⟨⟨Ah, Ak, ch, ck, rfl, hts⟩, hL51_20⟩
        replace e1 := e1.below hL51_20 e1.lt
        replace e2 := e2.below hL51_20 e2.lt
        replace e3 := e3.below hL51_20 e3.lt
        have B_L51_20 := ex_trans B_L51_19 hL51_20
        have X_L51_20 := ex_trans X_L51_19 hL51_20
        go_wp2_with fail
        refine ⟨inEx X_L51_20, ?_⟩
        repeat (refine tp_quiet rfl ?_; go_big_quiet_step (fail); refine wpQuiet_nil ?_)
        refine tp_loud rfl ?_
        go_wp2_with fail
        have z0 := sl_2 (f := fI [4, 1]) e1 rfl rfl
        have z1 := sl_2 (f := fI [0, 2]) e2 rfl rfl
        have z2 := sl_2 (f := fun k _ => .slice (some ⟨[a1, a2].getD k 0, 0, none⟩) (gL [[4, 1], [0, 2]] k).length 2) e3 rfl rfl
        refine (ProveR_any shiftT Ah Ak ch ck L51_20 hts ⟨by show 2 ≤ _; omega, by show 2 ≤ _; omega⟩ [[4, 1], [0, 2]] (some ⟨a3, 0, none⟩) 2 (fun k => some ⟨[a1, a2].getD k 0, 0, none⟩) (fun _ => 2) ⟨z2, fun k hk => (match k, hk with | 0, _ => z0 | 1, _ => z1)⟩ ⟨by show 2 ≤ _; omega, fun k hk => (match k, hk with | 0, _ => by show 2 ≤ _; omega | 1, _ => by show 2 ≤ _; omega)⟩ 1).mono ?_
        rintro e L51_21 ⟨rfl, hL51_21⟩
        replace e1 := e1.below hL51_21 e1.lt
        replace e2 := e2.below hL51_21 e2.lt
        replace e3 := e3.below hL51_21 e3.lt
        replace hts := hts.go hL51_21
        have B_L51_21 := ex_trans B_L51_20 hL51_21
        have X_L51_21 := ex_trans X_L51_20 hL51_21
        rw [ros_many]
        clear z0 z1 z2 e1 e2 e3 hts
        go_wp2_with fail
        refine ⟨inEx X_L51_21, ?_⟩
        repeat (refine tp_quiet rfl ?_; go_big_quiet_step (fail); refine wpQuiet_nil ?_)
        refine tp_done ?_
        exact ⟨⟨X_L51_21, exFrame (by kernel_rfl)⟩⟩
     ·
      go_wp2_with fail
      have NR := ex_alloc (Below.refl W11.heap.size W11) (.cells #[.int .i64 0, .int .i64 2] 3)
      have e2 : Blk (W11.alloc (.cells #[.int .i64 0, .int .i64 2] 3)) W11.heap.size 3 #[.int .i64 0, .int .i64 2] := Blk.new _ _ _
      have B_L51_22 := ex_trans B_W11 NR
      have X_L51_22 := ex_trans hb11 NR
      obtain ⟨a2, ha2⟩ : ∃ p, W11.heap.size = p := ⟨_, rfl⟩
      rw [ha2] at e2 ⊢
      clear ha2 NR
      generalize W11.alloc (.cells #[.int .i64 0, .int .i64 2] 3) = L51_22 at *
      refine ⟨inEx X_L51_22, ?_⟩
      repeat (refine tp_quiet rfl ?_; go_big_quiet_step (fail); refine wpQuiet_nil ?_)
      refine tp_fork rfl rfl ?_ ?_
      ·
       go_wp2_with fail
       refine (shift_any L51_22).mono ?_
       rintro e L51_23 ⟨⟨Ah, Ak, ch, ck, rfl, hts⟩, hL51_23⟩
       replace e2 := e2.below hL51_23 e2.lt
       have B_L51_23 := ex_trans B_L51_22 hL51_23
       have X_L51_23 := ex_trans X_L51_22 hL51_23
       go_wp2_with fail
       refine ⟨inEx X_L51_23, ?_⟩
       repeat (refine tp_quiet rfl ?_; go_big_quiet_step (fail); refine wpQuiet_nil ?_)
       refine tp_loud rfl ?_
       go_wp2_with fail
       have NR := ex_alloc (Below.refl L51_23.heap.size L51_23) (.cells #[.int .i64 4, .int .i64 1] 3)
       have e1 : Blk (L51_23.alloc (.cells #[.int .i64 4, .int .i64 1] 3)) L51_23.heap.size 3 #[.int .i64 4, .int .i64 1] := Blk.new _ _ _
       replace e2 := e2.below NR e2.lt
       replace hts := hts.go NR
       have B_L51_24 := ex_trans B_L51_23 NR
       have X_L51_24 := ex_trans X_L51_23 NR
       obtain ⟨a1, ha1⟩ : ∃ p, L51_23.heap.size = p := ⟨_, rfl⟩
       rw [ha1] at e1 ⊢
       clear ha1 NR
       generalize L51_23.alloc (.cells #[.int .i64 4, .int .i64 1] 3) = L51_24 at *
       refine ⟨inEx X_L51_24, ?_⟩
       repeat (refine tp_quiet rfl ?_; go_big_quiet_step (fail); refine wpQuiet_nil ?_)
       refine tp_loud rfl ?_
       go_wp2_with fail
       have NR := ex_alloc (Below.refl L51_24.heap.size L51_24) (.cells #[.slice (some ⟨a1, 0, none⟩) 2 2, .slice (some ⟨a2, 0, none⟩) 2 2] 28)
       have e3 : Blk (L51_24.alloc (.cells #[.slice (some ⟨a1, 0, none⟩) 2 2, .slice (some ⟨a2, 0, none⟩) 2 2] 28)) L51_24.heap.size 28 #[.slice (some ⟨a1, 0, none⟩) 2 2, .slice (some ⟨a2, 0, none⟩) 2 2] := Blk.new _ _ _
       replace e2 := e2.below NR e2.lt
       replace hts := hts.go NR
       replace e1 := e1.below NR e1.lt
       have B_L51_25 := ex_trans B_L51_24 NR
       have X_L51_25 := ex_trans X_L51_24 NR
       obtain ⟨a3, ha3⟩ : ∃ p, L51_24.heap.size = p := ⟨_, rfl⟩
       rw [ha3] at e3 ⊢
       clear ha3 NR
       generalize L51_24.alloc (.cells #[.slice (some ⟨a1, 0, none⟩) 2 2, .slice (some ⟨a2, 0, none⟩) 2 2] 28) = L51_25 at *
       refine ⟨inEx X_L51_25, ?_⟩
       repeat (refine tp_quiet rfl ?_; go_big_quiet_step (fail); refine wpQuiet_nil ?_)
       refine tp_loud rfl ?_
       go_wp2_with fail
       have z0 := sl_2 (f := fI [4, 1]) e1 rfl rfl
       have z1 := sl_2 (f := fI [0, 2]) e2 rfl rfl
       have z2 := sl_2 (f := fun k _ => .slice (some ⟨[a1, a2].getD k 0, 0, none⟩) (gL [[4, 1], [0, 2]] k).length 2) e3 rfl rfl
       refine (ProveR_any shiftT Ah Ak ch ck L51_25 hts ⟨by show 2 ≤ _; omega, by show 2 ≤ _; omega⟩ [[4, 1], [0, 2]] (some ⟨a3, 0, none⟩) 2 (fun k => some ⟨[a1, a2].getD k 0, 0, none⟩) (fun _ => 2) ⟨z2, fun k hk => (match k, hk with | 0, _ => z0 | 1, _ => z1)⟩ ⟨by show 2 ≤ _; omega, fun k hk => (match k, hk with | 0, _ => by show 2 ≤ _; omega | 1, _ => by show 2 ≤ _; omega)⟩ 1).mono ?_
       rintro e L51_26 ⟨rfl, hL51_26⟩
       replace e2 := e2.below hL51_26 e2.lt
       replace hts := hts.go hL51_26
       replace e1 := e1.below hL51_26 e1.lt
       replace e3 := e3.below hL51_26 e3.lt
       have B_L51_26 := ex_trans B_L51_25 hL51_26
       have X_L51_26 := ex_trans X_L51_25 hL51_26
       rw [ros_many]
       clear z0 z1 z2 e1 e2 e3 hts
       go_wp2_with fail
       refine ⟨inEx X_L51_26, ?_⟩
       repeat (refine tp_quiet rfl ?_; go_big_quiet_step (fail); refine wpQuiet_nil ?_)
       refine tp_done ?_
       exact ⟨⟨X_L51_26, exFrame (by kernel_rfl)⟩⟩
      ·
       go_wp2_with fail
       have NR := ex_alloc (Below.refl L51_22.heap.size L51_22) (.cells #[.int .i64 4, .int .i64 1] 3)
       have e1 : Blk (L51_22.alloc (.cells #[.int .i64 4, .int .i64 1] 3)) L51_22.heap.size 3 #[.int .i64 4, .int .i64 1] := Blk.new _ _ _
       replace e2 := e2.below NR e2.lt
       have B_L51_27 := ex_trans B_L51_22 NR
       have X_L51_27 := ex_trans X_L51_22 NR
       obtain ⟨a1, ha1⟩ : ∃ p, L51_22.heap.size = p := ⟨_, rfl⟩
       rw [ha1] at e1 ⊢
       clear ha1 NR
       generalize L51_22.alloc (.cells #[.int .i64 4, .int .i64 1] 3) = L51_27 at *
       refine ⟨inEx X_L51_27, ?_⟩
       repeat (refine tp_quiet rfl ?_; go_big_quiet_step (fail); refine wpQuiet_nil ?_)
       refine tp_fork rfl rfl ?_ ?_
       ·
        go_wp2_with fail
        refine (shift_any L51_27).mono ?_
        rintro e L51_28 ⟨⟨Ah, Ak, ch, ck, rfl, hts⟩, hL51_28⟩
        replace e2 := e2.below hL51_28 e2.lt
        replace e1 := e1.below hL51_28 e1.lt
        have B_L51_28 := ex_trans B_L51_27 hL51_28
        have X_L51_28 := ex_trans X_L51_27 hL51_28
        go_wp2_with fail
        refine ⟨inEx X_L51_28, ?_⟩
        repeat (refine tp_quiet rfl ?_; go_big_quiet_step (fail); refine wpQuiet_nil ?_)
        refine tp_loud rfl ?_
        go_wp2_with fail
        have NR := ex_alloc (Below.refl L51_28.heap.size L51_28) (.cells #[.slice (some ⟨a1, 0, none⟩) 2 2, .slice (some ⟨a2, 0, none⟩) 2 2] 28)
        have e3 : Blk (L51_28.alloc (.cells #[.slice (some ⟨a1, 0, none⟩) 2 2, .slice (some ⟨a2, 0, none⟩) 2 2] 28)) L51_28.heap.size 28 #[.slice (some ⟨a1, 0, none⟩) 2 2, .slice (some ⟨a2, 0, none⟩) 2 2] := Blk.new _ _ _
        replace e2 := e2.below NR e2.lt
        replace e1 := e1.below NR e1.lt
        replace hts := hts.go NR
        have B_L51_29 := ex_trans B_L51_28 NR
        have X_L51_29 := ex_trans X_L51_28 NR
        obtain ⟨a3, ha3⟩ : ∃ p, L51_28.heap.size = p := ⟨_, rfl⟩
        rw [ha3] at e3 ⊢
        clear ha3 NR
        generalize L51_28.alloc (.cells #[.slice (some ⟨a1, 0, none⟩) 2 2, .slice (some ⟨a2, 0, none⟩) 2 2] 28) = L51_29 at *
        refine ⟨inEx X_L51_29, ?_⟩
        repeat (refine tp_quiet rfl ?_; go_big_quiet_step (fail); refine wpQuiet_nil ?_)
        refine tp_loud rfl ?_
        go_wp2_with fail
        have z0 := sl_2 (f := fI [4, 1]) e1 rfl rfl
        have z1 := sl_2 (f := fI [0, 2]) e2 rfl rfl
        have z2 := sl_2 (f := fun k _ => .slice (some ⟨[a1, a2].getD k 0, 0, none⟩) (gL [[4, 1], [0, 2]] k).length 2) e3 rfl rfl
        refine (ProveR_any shiftT Ah Ak ch ck L51_29 hts ⟨by show 2 ≤ _; omega, by show 2 ≤ _; omega⟩ [[4, 1], [0, 2]] (some ⟨a3, 0, none⟩) 2 (fun k => some ⟨[a1, a2].getD k 0, 0, none⟩) (fun _ => 2) ⟨z2, fun k hk => (match k, hk with | 0, _ => z0 | 1, _ => z1)⟩ ⟨by show 2 ≤ _; omega, fun k hk => (match k, hk with | 0, _ => by show 2 ≤ _; omega | 1, _ => by show 2 ≤ _; omega)⟩ 1).mono ?_
        rintro e L51_30 ⟨rfl, hL51_30⟩
        replace e2 := e2.below hL51_30 e2.lt
        replace e1 := e1.below hL51_30 e1.lt
        replace hts := hts.go hL51_30
        replace e3 := e3.below hL51_30 e3.lt
        have B_L51_30 := ex_trans B_L51_29 hL51_30
        have X_L51_30 := ex_trans X_L51_29 hL51_30
        rw [ros_many]
        clear z0 z1 z2 e1 e2 e3 hts
        go_wp2_with fail
        refine ⟨inEx X_L51_30, ?_⟩
        repeat (refine tp_quiet rfl ?_; go_big_quiet_step (fail); refine wpQuiet_nil ?_)
        refine tp_done ?_
        exact ⟨⟨X_L51_30, exFrame (by kernel_rfl)⟩⟩
       ·
        go_wp2_with fail
        have NR := ex_alloc (Below.refl L51_27.heap.size L51_27) (.cells #[.slice (some ⟨a1, 0, none⟩) 2 2, .slice (some ⟨a2, 0, none⟩) 2 2] 28)
        have e3 : Blk (L51_27.alloc (.cells #[.slice (some ⟨a1, 0, none⟩) 2 2, .slice (some ⟨a2, 0, none⟩) 2 2] 28)) L51_27.heap.size 28 #[.slice (some ⟨a1, 0, none⟩) 2 2, .slice (some ⟨a2, 0, none⟩) 2 2] := Blk.new _ _ _
        replace e2 := e2.below NR e2.lt
        replace e1 := e1.below NR e1.lt
        have B_L51_31 := ex_trans B_L51_27 NR
        have X_L51_31 := ex_trans X_L51_27 NR
        obtain ⟨a3, ha3⟩ : ∃ p, L51_27.heap.size = p := ⟨_, rfl⟩
        rw [ha3] at e3 ⊢
        clear ha3 NR
        generalize L51_27.alloc (.cells #[.slice (some ⟨a1, 0, none⟩) 2 2, .slice (some ⟨a2, 0, none⟩) 2 2] 28) = L51_31 at *
        refine ⟨inEx X_L51_31, ?_⟩
        repeat (refine tp_quiet rfl ?_; go_big_quiet_step (fail); refine wpQuiet_nil ?_)
        refine tp_loud rfl ?_
        go_wp2_with fail
        refine (shift_any L51_31).mono ?_
        rintro e L51_32 ⟨⟨Ah, Ak, ch, ck, rfl, hts⟩, hL51_32⟩
        replace e2 := e2.below hL51_32 e2.lt
        replace e1 := e1.below hL51_32 e1.lt
        replace e3 := e3.below hL51_32 e3.lt
        have B_L51_32 := ex_trans B_L51_31 hL51_32
        have X_L51_32 := ex_trans X_L51_31 hL51_32
        go_wp2_with fail
        refine ⟨inEx X_L51_32, ?_⟩
        repeat (refine tp_quiet rfl ?_; go_big_quiet_step (fail); refine wpQuiet_nil ?_)
        refine tp_loud rfl ?_
        go_wp2_with fail
        have z0 := sl_2 (f := fI [4, 1]) e1 rfl rfl
        have z1 := sl_2 (f := fI [0, 2]) e2 rfl rfl
        have z2 := sl_2 (f := fun k _ => .slice (some ⟨[a1, a2].getD k 0, 0, none⟩) (gL [[4, 1], [0, 2]] k).length 2) e3 rfl rfl
        refine (ProveR_any shiftT Ah Ak ch ck L51_32 hts ⟨by show 2 ≤ _; omega, by show 2 ≤ _; omega⟩ [[4, 1], [0, 2]] (some ⟨a3, 0, none⟩) 2 (fun k => some ⟨[a1, a2].getD k 0, 0, none⟩) (fun _ => 2) ⟨z2, fun k hk => (match k, hk with | 0, _ => z0 | 1, _ => z1)⟩ ⟨by show 2 ≤ _; omega, fun k hk => (match k, hk with | 0, _ => by show 2 ≤ _; omega | 1, _ => by show 2 ≤ _; omega)⟩ 1).mono ?_
        rintro e L51_33 ⟨rfl, hL51_33⟩
        replace e2 := e2.below hL51_33 e2.lt
        replace e1 := e1.below hL51_33 e1.lt
        replace e3 := e3.below hL51_33 e3.lt
        replace hts := hts.go hL51_33
        have B_L51_33 := ex_trans B_L51_32 hL51_33
        have X_L51_33 := ex_trans X_L51_32 hL51_33
        rw [ros_many]
        clear z0 z1 z2 e1 e2 e3 hts
        go_wp2_with fail
        refine ⟨inEx X_L51_33, ?_⟩
        repeat (refine tp_quiet rfl ?_; go_big_quiet_step (fail); refine wpQuiet_nil ?_)
        refine tp_done ?_
        exact ⟨⟨X_L51_33, exFrame (by kernel_rfl)⟩⟩
    ·
     rintro a W12 hS ⟨⟨hb12, u12, rfl⟩⟩
     clear hS hb11
     refine parts_last ?_
     ·
      have B_W12 := ex_trans B_V7 hb12
      repeat (refine tq_quiet rfl ?_; go_big_quiet_step (fail); refine wpQuiet_nil ?_)
      refine tq_fork3 rfl rfl rfl ?_ ?_ ?_
      ·
       go_wp2_with fail
       refine (shift_any W12).mono ?_
       rintro e L58_1 ⟨⟨Ah, Ak, ch, ck, rfl, hts⟩, hL58_1⟩
       have B_L58_1 := ex_trans B_W12 hL58_1
       have X_L58_1 := ex_trans hb12 hL58_1
       go_wp2_with fail
       refine ⟨inEx X_L58_1, ?_⟩
       repeat (refine tq_quiet rfl ?_; go_big_quiet_step (fail); refine wpQuiet_nil ?_)
       refine tq_fork rfl rfl ?_ ?_
       ·
        go_wp2_with fail
        have NR := ex_alloc (Below.refl L58_1.heap.size L58_1) (.cells #[.int .i64 4, .int .i64 2] 3)
        have e1 : Blk (L58_1.alloc (.cells #[.int .i64 4, .int .i64 2] 3)) L58_1.heap.size 3 #[.int .i64 4, .int .i64 2] := Blk.new _ _ _
        replace hts := hts.go NR
        have B_L58_2 := ex_trans B_L58_1 NR
        have X_L58_2 := ex_trans X_L58_1 NR
        obtain ⟨a1, ha1⟩ : ∃ p, L58_1.heap.size = p := ⟨_, rfl⟩
        rw [ha1] at e1 ⊢
        clear ha1 NR
        generalize L58_1.alloc (.cells #[.int .i64 4, .int .i64 2] 3) = L58_2 at *
        refine ⟨inEx X_L58_2, ?_⟩
        repeat (refine tq_quiet rfl ?_; go_big_quiet_step (fail); refine wpQuiet_nil ?_)
        refine tq_loud rfl ?_
        go_wp2_with fail
        have NR := ex_alloc (Below.refl L58_2.heap.size L58_2) (.cells #[.int .i64 0, .int .i64 1] 3)
        have e2 : Blk (L58_2.alloc (.cells #[.int .i64 0, .int .i64 1] 3)) L58_2.heap.size 3 #[.int .i64 0, .int .i64 1] := Blk.new _ _ _
        replace hts := hts.go NR
        replace e1 := e1.below NR e1.lt
        have B_L58_3 := ex_trans B_L58_2 NR
        have X_L58_3 := ex_trans X_L58_2 NR
        obtain ⟨a2, ha2⟩ : ∃ p, L58_2.heap.size = p := ⟨_, rfl⟩
        rw [ha2] at e2 ⊢
        clear ha2 NR
        generalize L58_2.alloc (.cells #[.int .i64 0, .int .i64 1] 3) = L58_3 at *
        refine ⟨inEx X_L58_3, ?_⟩
        repeat (refine tq_quiet rfl ?_; go_big_quiet_step (fail); refine wpQuiet_nil ?_)
        refine tq_loud rfl ?_
        go_wp2_with fail
        have NR := ex_alloc (Below.refl L58_3.heap.size L58_3) (.cells #[.slice (some ⟨a1, 0, none⟩) 2 2, .slice (some ⟨a2, 0, none⟩) 2 2] 28)
        have e3 : Blk (L58_3.alloc (.cells #[.slice (some ⟨a1, 0, none⟩) 2 2, .slice (some ⟨a2, 0, none⟩) 2 2] 28)) L58_3.heap.size 28 #[.slice (some ⟨a1, 0, none⟩) 2 2, .slice (some ⟨a2, 0, none⟩) 2 2] := Blk.new _ _ _
        replace hts := hts.go NR
        replace e1 := e1.below NR e1.lt
        replace e2 := e2.below NR e2.lt
        have B_L58_4 := ex_trans B_L58_3 NR
        have X_L58_4 := ex_trans X_L58_3 NR
        obtain ⟨a3, ha3⟩ : ∃ p, L58_3.heap.size = p := ⟨_, rfl⟩
        rw [ha3] at e3 ⊢
        clear ha3 NR
        generalize L58_3.alloc (.cells #[.slice (some ⟨a1, 0, none⟩) 2 2, .slice (some ⟨a2, 0, none⟩) 2 2] 28) = L58_4 at *
        refine ⟨inEx X_L58_4, ?_⟩
        repeat (refine tq_quiet rfl ?_; go_big_quiet_step (fail); refine wpQuiet_nil ?_)
        refine tq_loud rfl ?_
        go_wp2_with fail
        have z0 := sl_2 (f := fI [4, 2]) e1 rfl rfl
        have z1 := sl_2 (f := fI [0, 1]) e2 rfl rfl
        have z2 := sl_2 (f := fun k _ => .slice (some ⟨[a1, a2].getD k 0, 0, none⟩) (gL [[4, 2], [0, 1]] k).length 2) e3 rfl rfl
        refine (ProveR_any shiftT Ah Ak ch ck L58_4 hts ⟨by show 2 ≤ _; omega, by show 2 ≤ _; omega⟩ [[4, 2], [0, 1]] (some ⟨a3, 0, none⟩) 2 (fun k => some ⟨[a1, a2].getD k 0, 0, none⟩) (fun _ => 2) ⟨z2, fun k hk => (match k, hk with | 0, _ => z0 | 1, _ => z1)⟩ ⟨by show 2 ≤ _; omega, fun k hk => (match k, hk with | 0, _ => by show 2 ≤ _; omega | 1, _ => by show 2 ≤ _; omega)⟩ 2).mono ?_
        rintro e L58_5 ⟨rfl, hL58_5⟩
        replace hts := hts.go hL58_5
        replace e1 := e1.below hL58_5 e1.lt
        replace e2 := e2.below hL58_5 e2.lt
        replace e3 := e3.below hL58_5 e3.lt
        have B_L58_5 := ex_trans B_L58_4 hL58_5
        have X_L58_5 := ex_trans X_L58_4 hL58_5
        rw [ros_no]
        clear z0 z1 z2 e1 e2 e3 hts
        go_wp2_with fail
        refine ⟨inEx X_L58_5, ?_⟩
        repeat (refine tq_quiet rfl ?_; go_big_quiet_step (fail); refine wpQuiet_nil ?_)
        refine tq_done (r := [_]) rfl ?_
        go_wp2_with fail
        exact HREST.out _ _ X_L58_5 (exFrame (by kernel_rfl))
       ·
        go_wp2_with fail
        have NR := ex_alloc (Below.refl L58_1.heap.size L58_1) (.cells #[.int .i64 0, .int .i64 1] 3)
        have e2 : Blk (L58_1.alloc (.cells #[.int .i64 0, .int .i64 1] 3)) L58_1.heap.size 3 #[.int .i64 0, .int .i64 1] := Blk.new _ _ _
        replace hts := hts.go NR
        have B_L58_6 := ex_trans B_L58_1 NR
        have X_L58_6 := ex_trans X_L58_1 NR
        obtain ⟨a2, ha2⟩ : ∃ p, L58_1.heap.size = p := ⟨_, rfl⟩
        rw [ha2] at e2 ⊢
        clear ha2 NR
        generalize L58_1.alloc (.cells #[.int .i64 0, .int .i64 1] 3) = L58_6 at *
        refine ⟨inEx X_L58_6, ?_⟩
        repeat (refine tq_quiet rfl ?_; go_big_quiet_step (fail); refine wpQuiet_nil ?_)
        refine tq_loud rfl ?_
        go_wp2_with fail
        have NR := ex_alloc (Below.refl L58_6.heap.size L58_6) (.cells #[.int .i64 4, .int .i64 2] 3)
        have e1 : Blk (L58_6.alloc (.cells #[.int .i64 4, .int .i64 2] 3)) L58_6.heap.size 3 #[.int .i64 4, .int .i64 2] := Blk.new _ _ _
        replace hts := hts.go NR
        replace e2 := e2.below NR e2.lt
        have B_L58_7 := ex_trans B_L58_6 NR
        have X_L58_7 := ex_trans X_L58_6 NR
        obtain ⟨a1, ha1⟩ : ∃ p, L58_6.heap.size = p := ⟨_, rfl⟩
        rw [ha1] at e1 ⊢
        clear ha1 NR
        generalize L58_6.alloc (.cells #[.int .i64 4, .int .i64 2] 3) = L58_7 at *
        refine ⟨inEx X_L58_7, ?_⟩
        repeat (refine tq_quiet rfl ?_; go_big_quiet_step (fail); refine wpQuiet_nil ?_)
        refine tq_loud rfl ?_
        go_wp2_with fail
        have NR := ex_alloc (Below.refl L58_7.heap.size L58_7) (.cells #[.slice (some ⟨a1, 0, none⟩) 2 2, .slice (some ⟨a2, 0, none⟩) 2 2] 28)
        have e3 : Blk (L58_7.alloc (.cells #[.slice (some ⟨a1, 0, none⟩) 2 2, .slice (some ⟨a2, 0, none⟩) 2 2] 28)) L58_7.heap.size 28 #[.slice (some ⟨a1, 0, none⟩) 2 2, .slice (some ⟨a2, 0, none⟩) 2 2] := Blk.new _ _ _
        replace hts := hts.go NR
        replace e2 := e2.below NR e2.lt
        replace e1 := e1.below NR e1.lt
        have B_L58_8 := ex_trans B_L58_7 NR
        have X_L58_8 := ex_trans X_L58_7 NR
        obtain ⟨a3, ha3⟩ : ∃ p, L58_7.heap.size = p := ⟨_, rfl⟩
        rw [ha3] at e3 ⊢
        clear ha3 NR
        generalize L58_7.alloc (.cells #[.slice (some ⟨a1, 0, none⟩) 2 2, .slice (some ⟨a2, 0, none⟩) 2 2] 28) = L58_8 at *
        refine ⟨inEx X_L58_8, ?_⟩
        repeat (refine tq_quiet rfl ?_; go_big_quiet_step (fail); refine wpQuiet_nil ?_)
        refine tq_loud rfl ?_
        go_wp2_with fail
        have z0 := sl_2 (f := fI [4, 2]) e1 rfl rfl
        have z1 := sl_2 (f := fI [0, 1]) e2 rfl rfl
        have z2 := sl_2 (f := fun k _ => .slice (some ⟨[a1, a2].getD k 0, 0, none⟩) (gL [[4, 2], [0, 1]] k).length 2) e3 rfl rfl
        refine (ProveR_any shiftT Ah Ak ch ck L58_8 hts ⟨by show 2 ≤ _; omega, by show 2 ≤ _; omega⟩ [[4, 2], [0, 1]] (some ⟨a3, 0, none⟩) 2 (fun k => some ⟨[a1, a2].getD k 0, 0, none⟩) (fun _ => 2) ⟨z2, fun k hk => (match k, hk with | 0, _ => z0 | 1, _ => z1)⟩ ⟨by show 2 ≤ _; omega, fun k hk => (match k, hk with | 0, _ => by show 2 ≤ _; omega | 1, _ => by show 2 ≤ _; omega)⟩ 2).mono ?_
        rintro e L58_9 ⟨rfl, hL58_9⟩
        replace hts := hts.go hL58_9
        replace e2 := e2.below hL58_9 e2.lt
        replace e1 := e1.below hL58_9 e1.lt
        replace e3 := e3.below hL58_9 e3.lt
        have B_L58_9 := ex_trans B_L58_8 hL58_9
        have X_L58_9 := ex_trans X_L58_8 hL58_9
        rw [ros_no]
        clear z0 z1 z2 e1 e2 e3 hts
        go_wp2_with fail
        refine ⟨inEx X_L58_9, ?_⟩
        repeat (refine tq_quiet rfl ?_; go_big_quiet_step (fail); refine wpQuiet_nil ?_)
        refine tq_done (r := [_]) rfl ?_
        go_wp2_with fail
        exact HREST.out _ _ X_L58_9 (exFrame (by kernel_rfl))
      ·
       go_wp2_with fail
       have NR := ex_alloc (Below.refl W12.heap.size W12) (.cells #[.int .i64 4, .int .i64 2] 3)
       have e1 : Blk (W12.alloc (.cells #[.int .i64 4, .int .i64 2] 3)) W12.heap.size 3 #[.int .i64 4, .int .i64 2] := Blk.new _ _ _
       have B_L58_10 := ex_trans B_W12 NR
       have X_L58_10 := ex_trans hb12 NR
       obtain ⟨a1, ha1⟩ : ∃ p, W12.heap.size = p := ⟨_, rfl⟩
       rw [ha1] at e1 ⊢
       clear ha1 NR
       generalize W12.alloc (.cells #[.int .i64 4, .int .i64 2] 3) = L58_10 at *
       refine ⟨inEx X_L58_10, ?_⟩
       repeat (refine tq_quiet rfl ?_; go_big_quiet_step (fail); refine wpQuiet_nil ?_)
       refine tq_fork rfl rfl ?_ ?_
       ·
        go_wp2_with fail
        refine (shift_any L58_10).mono ?_
        rintro e L58_11 ⟨⟨Ah, Ak, ch, ck, rfl, hts⟩, hL58_11⟩
        replace e1 := e1.below hL58_11 e1.lt
        have B_L58_11 := ex_trans B_L58_10 hL58_11
        have X_L58_11 := ex_trans X_L58_10 hL58_11
        go_wp2_with fail
        refine ⟨inEx X_L58_11, ?_⟩
        repeat (refine tq_quiet rfl ?_; go_big_quiet_step (fail); refine wpQuiet_nil ?_)
        refine tq_loud rfl ?_
        go_wp2_with fail
        have NR := ex_alloc (Below.refl L58_11.heap.size L58_11) (.cells #[.int .i64 0, .int .i64 1] 3)
        have e2 : Blk (L58_11.alloc (.cells #[.int .i64 0, .int .i64 1] 3)) L58_11.heap.size 3 #[.int .i64 0, .int .i64 1] := Blk.new _ _ _
        replace e1 := e1.below NR e1.lt
        replace hts := hts.go NR
        have B_L58_12 := ex_trans B_L58_11 NR
        have X_L58_12 := ex_trans X_L58_11 NR
        obtain ⟨a2, ha2⟩ : ∃ p, L58_11.heap.size = p := ⟨_, rfl⟩
        rw [ha2] at e2 ⊢
        clear ha2 NR
        generalize L58_11.alloc (.cells #[.int .i64 0, .int .i64 1] 3) = L58_12 at *
        refine ⟨inEx X_L58_12, ?_⟩
        repeat (refine tq_quiet rfl ?_; go_big_quiet_step (fail); refine wpQuiet_nil ?_)
        refine tq_loud rfl ?_
        go_wp2_with fail
        have NR := ex_alloc (Below.refl L58_12.heap.size L58_12) (.cells #[.slice (some ⟨a1, 0, none⟩) 2 2, .slice (some ⟨a2, 0, none⟩) 2 2] 28)
        have e3 : Blk (L58_12.alloc (.cells #[.slice (some ⟨a1, 0, none⟩) 2 2, .slice (some ⟨a2, 0, none⟩) 2 2] 28)) L58_12.heap.size 28 #[.slice (some ⟨a1, 0, none⟩) 2 2, .slice (some ⟨a2, 0, none⟩) 2 2] := Blk.new _ _ _
        replace e1 := e1.below NR e1.lt
        replace hts := hts.go NR
        replace e2 := e2.below NR e2.lt
        have B_L58_13 := ex_trans B_L58_12 NR
        have X_L58_13 := ex_trans X_L58_12 NR
        obtain ⟨a3, ha3⟩ : ∃ p, L58_12.heap.size = p := ⟨_, rfl⟩
        rw [ha3] at e3 ⊢
        clear ha3 NR
        generalize L58_12.alloc (.cells #[.slice (some ⟨a1, 0, none⟩) 2 2, .slice (some ⟨a2, 0, none⟩) 2 2] 28) = L58_13 at *
        refine ⟨inEx X_L58_13, ?_⟩
        repeat (refine tq_quiet rfl ?_; go_big_quiet_step (fail); refine wpQuiet_nil ?_)
        refine tq_loud rfl ?_
        go_wp2_with fail
        have z0 := sl_2 (f := fI [4, 2]) e1 rfl rfl
        have z1 := sl_2 (f := fI [0, 1]) e2 rfl rfl
        have z2 := sl_2 (f := fun k _ => .slice (some ⟨[a1, a2].getD k 0, 0, none⟩) (gL [[4, 2], [0, 1]] k).length 2) e3 rfl rfl
        refine (ProveR_any shiftT Ah Ak ch ck L58_13 hts ⟨by show 2 ≤ _; omega, by show 2 ≤ _; omega⟩ [[4, 2], [0, 1]] (some ⟨a3, 0, none⟩) 2 (fun k => some ⟨[a1, a2].getD k 0, 0, none⟩) (fun _ => 2) ⟨z2, fun k hk => (match k, hk with | 0, _ => z0 | 1, _ => z1)⟩ ⟨by show 2 ≤ _; omega, fun k hk => (match k, hk with | 0, _ => by show 2 ≤ _; omega | 1, _ => by show 2 ≤ _; omega)⟩ 2).mono ?_
        rintro e L58_14 ⟨rfl, hL58_14⟩
        replace e1 := e1.below hL58_14 e1.lt
        replace hts := hts.go hL58_14
        replace e2 := e2.below hL58_14 e2.lt
        replace e3 := e3.below hL58_14 e3.lt
        have B_L58_14 := ex_trans B_L58_13 hL58_14
        have X_L58_14 := ex_trans X_L58_13 hL58_14
        rw [ros_no]
        clear z0 z1 z2 e1 e2 e3 hts
        go_wp2_with fail
        refine ⟨inEx X_L58_14, ?_⟩
        repeat (refine tq_quiet rfl ?_; go_big_quiet_step (fail); refine wpQuiet_nil ?_)
        refine tq_done (r := [_]) rfl ?_
        go_wp2_with fail
        exact HREST.out _ _ X_L58_14 (exFrame (by kernel_rfl))
       ·
        go_wp2_with fail
        have NR := ex_alloc (Below.refl L58_10.heap.size L58_10) (.cells #[.int .i64 0, .int .i64 1] 3)
        have e2 : Blk (L58_10.alloc (.cells #[.int .i64 0, .int .i64 1] 3)) L58_10.heap.size 3 #[.int .i64 0, .int .i64 1] := Blk.new _ _ _
        replace e1 := e1.below NR e1.lt
        have B_L58_15 := ex_trans B_L58_10 NR
        have X_L58_15 := ex_trans X_L58_10 NR
        obtain ⟨a2, ha2⟩ : ∃ p, L58_10.heap.size = p := ⟨_, rfl⟩
        rw [ha2] at e2 ⊢
        clear ha2 NR
        generalize L58_10.alloc (.cells #[.int .i64 0, .int .i64 1] 3) = L58_15 at *
        refine ⟨inEx X_L58_15, ?_⟩
        repeat (refine tq_quiet rfl ?_; go_big_quiet_step (fail); refine wpQuiet_nil ?_)
        refine tq_fork rfl rfl ?_ ?_
        ·
         go_wp2_with fail
         refine (shift_any L58_15).mono ?_
         rintro e L58_16 ⟨⟨Ah, Ak, ch, ck, rfl, hts⟩, hL58_16⟩
         replace e1 := e1.below hL58_16 e1.lt
         replace e2 := e2.below hL58_16 e2.lt
         have B_L58_16 := ex_trans B_L58_15 hL58_16
         have X_L58_16 := ex_trans X_L58_15 hL58_16
         go_wp2_with fail
         refine ⟨inEx X_L58_16, ?_⟩
         repeat (refine tq_quiet rfl ?_; go_big_quiet_step (fail); refine wpQuiet_nil ?_)
         refine tq_loud rfl ?_
         go_wp2_with fail
         have NR := ex_alloc (Below.refl L58_16.heap.size L58_16) (.cells #[.slice (some ⟨a1, 0, none⟩) 2 2, .slice (some ⟨a2, 0, none⟩) 2 2] 28)
         have e3 : Blk (L58_16.alloc (.cells #[.slice (some ⟨a1, 0, none⟩) 2 2, .slice (some ⟨a2, 0, none⟩) 2 2] 28)) L58_16.heap.size 28 #[.slice (some ⟨a1, 0, none⟩) 2 2, .slice (some ⟨a2, 0, none⟩) 2 2] := Blk.new _ _ _
         replace e1 := e1.below NR e1.lt
         replace e2 := e2.below NR e2.lt
         replace hts := hts.go NR
         have B_L58_17 := ex_trans B_L58_16 NR
         have X_L58_17 := ex_trans X_L58_16 NR
         obtain ⟨a3, ha3⟩ : ∃ p, L58_16.heap.size = p := ⟨_, rfl⟩
         rw [ha3] at e3 ⊢
         clear ha3 NR
         generalize L58_16.alloc (.cells #[.slice (some ⟨a1, 0, none⟩) 2 2, .slice (some ⟨a2, 0, none⟩) 2 2] 28) = L58_17 at *
         refine ⟨inEx X_L58_17, ?_⟩
         repeat (refine tq_quiet rfl ?_; go_big_quiet_step (fail); refine wpQuiet_nil ?_)
         refine tq_loud rfl ?_
         go_wp2_with fail
         have z0 := sl_2 (f := fI [4, 2]) e1 rfl rfl
         have z1 := sl_2 (f := fI [0, 1]) e2 rfl rfl
         have z2 := sl_2 (f := fun k _ => .slice (some ⟨[a1, a2].getD k 0, 0, none⟩) (gL [[4, 2], [0, 1]] k).length 2) e3 rfl rfl
         refine (ProveR_any shiftT Ah Ak ch ck L58_17 hts ⟨by show 2 ≤ _; omega, by show 2 ≤ _; omega⟩ [[4, 2], [0, 1]] (some ⟨a3, 0, none⟩) 2 (fun k => some ⟨[a1, a2].getD k 0, 0, none⟩) (fun _ => 2) ⟨z2, fun k hk => (match k, hk with | 0, _ => z0 | 1, _ => z1)⟩ ⟨by show 2 ≤ _; omega, fun k hk => (match k, hk with | 0, _ => by show 2 ≤ _; omega | 1, _ => by show 2 ≤ _; omega)⟩ 2).mono ?_
         rintro e L58_18 ⟨rfl, hL58_18⟩
         replace e1 := e1.below hL58_18 e1.lt
         replace e2 := e2.below hL58_18 e2.lt
         replace hts := hts.go hL58_18
         replace e3 := e3.below hL58_18 e3.lt
         have B_L58_18 := ex_trans B_L58_17 hL58_18
         have X_L58_18 := ex_trans X_L58_17 hL58_18
         rw [ros_no]
         clear z0 z1 z2 e1 e2 e3 hts
         go_wp2_with fail
         refine ⟨inEx X_L58_18, ?_⟩
         repeat (refine tq_quiet rfl ?_; go_big_quiet_step (fail); refine wpQuiet_nil ?_)
         refine tq_done (r := [_]) rfl ?_
         go_wp2_with fail
         exact HREST.out _ _ X_L58_18 (exFrame (by kernel_rfl))
        ·
         go_wp2_with fail
         have NR := ex_alloc (Below.refl L58_15.heap.size L58_15) (.cells #[.slice (some ⟨a1, 0, none⟩) 2 2, .slice (some ⟨a2, 0, none⟩) 2 2] 28)
         have e3 : Blk (L58_15.alloc (.cells #[.slice (some ⟨a1, 0, none⟩) 2 2, .slice (some ⟨a2, 0, none⟩) 2 2] 28)) L58_15.heap.size 28 #[.slice (some ⟨a1, 0, none⟩) 2 2, .slice (some ⟨a2, 0, none⟩) 2 2] := Blk.new _ _ _
         replace e1 := e1.below NR e1.lt
         replace e2 := e2.below NR e2.lt
         have B_L58_19 := ex_trans B_L58_15 NR
         have X_L58_19 := ex_trans X_L58_15 NR
         obtain ⟨a3, ha3⟩ : ∃ p, L58_15.heap.size = p := ⟨_, rfl⟩
         rw [ha3] at e3 ⊢
         clear ha3 NR
         generalize L58_15.alloc (.cells #[.slice (some ⟨a1, 0, none⟩) 2 2, .slice (some ⟨a2, 0, none⟩) 2 2] 28) = L58_19 at *
         refine ⟨inEx X_L58_19, ?_⟩
         repeat (refine tq_quiet rfl ?_; go_big_quiet_step (fail); refine wpQuiet_nil ?_)
         refine tq_loud rfl ?_
         go_wp2_with fail
         refine (shift_any L58_19).mono ?_
         rintro e L58_20 ⟨⟨Ah, Ak, ch, ck, rfl, hts⟩, hL58_20⟩
         replace e1 := e1.below hL58_20 e1.lt
         replace e2 := e2.below hL58_20 e2.lt
         replace e3 := e3.below hL58_20 e3.lt
         have B_L58_20 := ex_trans B_L58_19 hL58_20
         have X_L58_20 := ex_trans X_L58_19 hL58_20
         go_wp2_with fail
         refine ⟨inEx X_L58_20, ?_⟩
         repeat (refine tq_quiet rfl ?_; go_big_quiet_step (fail); refine wpQuiet_nil ?_)
         refine tq_loud rfl ?_
         go_wp2_with fail
         have z0 := sl_2 (f := fI [4, 2]) e1 rfl rfl
         have z1 := sl_2 (f := fI [0, 1]) e2 rfl rfl
         have z2 := sl_2 (f := fun k _ => .slice (some ⟨[a1, a2].getD k 0, 0, none⟩) (gL [[4, 2], [0, 1]] k).length 2) e3 rfl rfl
         refine (ProveR_any shiftT Ah Ak ch ck L58_20 hts ⟨by show 2 ≤ _; omega, by show 2 ≤ _; omega⟩ [[4, 2], [0, 1]] (some ⟨a3, 0, none⟩) 2 (fun k => some ⟨[a1, a2].getD k 0, 0, none⟩) (fun _ => 2) ⟨z2, fun k hk => (match k, hk with | 0, _ => z0 | 1, _ => z1)⟩ ⟨by show 2 ≤ _; omega, fun k hk => (match k, hk with | 0, _ => by show 2 ≤ _; omega | 1, _ => by show 2 ≤ _; omega)⟩ 2).mono ?_
         rintro e L58_21 ⟨rfl, hL58_21⟩
         replace e1 := e1.below hL58_21 e1.lt
         replace e2 := e2.below hL58_21 e2.lt
         replace e3 := e3.below hL58_21 e3.lt
         replace hts := hts.go hL58_21
         have B_L58_21 := ex_trans B_L58_20 hL58_21
         have X_L58_21 := ex_trans X_L58_20 hL58_21
         rw [ros_no]
         clear z0 z1 z2 e1 e2 e3 hts
         go_wp2_with fail
         refine ⟨inEx X_L58_21, ?_⟩
         repeat (refine tq_quiet rfl ?_; go_big_quiet_step (fail); refine wpQuiet_nil ?_)
         refine tq_done (r := [_]) rfl ?_
         go_wp2_with fail
         exact HREST.out _ _ X_L58_21 (exFrame (by kernel_rfl))
      ·
       go_wp2_with fail
       have NR := ex_alloc (Below.refl W12.heap.size W12) (.cells #[.int .i64 0, .int .i64 1] 3)
       have e2 : Blk (W12.alloc (.cells #[.int .i64 0, .int .i64 1] 3)) W12.heap.size 3 #[.int .i64 0, .int .i64 1] := Blk.new _ _ _
       have B_L58_22 := ex_trans B_W12 NR
       have X_L58_22 := ex_trans hb12 NR
       obtain ⟨a2, ha2⟩ : ∃ p, W12.heap.size = p := ⟨_, rfl⟩
       rw [ha2] at e2 ⊢
       clear ha2 NR
       generalize W12.alloc (.cells #[.int .i64 0, .int .i64 1] 3) = L58_22 at *
       refine ⟨inEx X_L58_22, ?_⟩
       repeat (refine tq_quiet rfl ?_; go_big_quiet_step (fail); refine wpQuiet_nil ?_)
       refine tq_fork rfl rfl ?_ ?_
       ·
        go_wp2_with fail
        refine (shift_any L58_22).mono ?_
        rintro e L58_23 ⟨⟨Ah, Ak, ch, ck, rfl, hts⟩, hL58_23⟩
        replace e2 := e2.below hL58_23 e2.lt
        have B_L58_23 := ex_trans B_L58_22 hL58_23
        have X_L58_23 := ex_trans X_L58_22 hL58_23
        go_wp2_with fail
        refine ⟨inEx X_L58_23, ?_⟩
        repeat (refine tq_quiet rfl ?_; go_big_quiet_step (fail); refine wpQuiet_nil ?_)
        refine tq_loud rfl ?_
        go_wp2_with fail
        have NR := ex_alloc (Below.refl L58_23.heap.size L58_23) (.cells #[.int .i64 4, .int .i64 2] 3)
        have e1 : Blk (L58_23.alloc (.cells #[.int .i64 4, .int .i64 2] 3)) L58_23.heap.size 3 #[.int .i64 4, .int .i64 2] := Blk.new _ _ _
        replace e2 := e2.below NR e2.lt
        replace hts := hts.go NR
        have B_L58_24 := ex_trans B_L58_23 NR
        have X_L58_24 := ex_trans X_L58_23 NR
        obtain ⟨a1, ha1⟩ : ∃ p, L58_23.heap.size = p := ⟨_, rfl⟩
        rw [ha1] at e1 ⊢
        clear ha1 NR
        generalize L58_23.alloc (.cells #[.int .i64 4, .int .i64 2] 3) = L58_24 at *
        refine ⟨inEx X_L58_24, ?_⟩
        repeat (refine tq_quiet rfl ?_; go_big_quiet_step (fail); refine wpQuiet_nil ?_)
        refine tq_loud rfl ?_
        go_wp2_with fail
        have NR := ex_alloc (Below.refl L58_24.heap.size L58_24) (.cells #[.slice (some ⟨a1, 0, none⟩) 2 2, .slice (some ⟨a2, 0, none⟩) 2 2] 28)
        have e3 : Blk (L58_24.alloc (.cells #[.slice (some ⟨a1, 0, none⟩) 2 2, .slice (some ⟨a2, 0, none⟩) 2 2] 28)) L58_24.heap.size 28 #[.slice (some ⟨a1, 0, none⟩) 2 2, .slice (some ⟨a2, 0, none⟩) 2 2] := Blk.new _ _ _
        replace e2 := e2.below NR e2.lt
        replace hts := hts.go NR
        replace e1 := e1.below NR e1.lt
        have B_L58_25 := ex_trans B_L58_24 NR
        have X_L58_25 := ex_trans X_L58_24 NR
        obtain ⟨a3, ha3⟩ : ∃ p, L58_24.heap.size = p := ⟨_, rfl⟩
        rw [ha3] at e3 ⊢
        clear ha3 NR
        generalize L58_24.alloc (.cells #[.slice (some ⟨a1, 0, none⟩) 2 2, .slice (some ⟨a2, 0, none⟩) 2 2] 28) = L58_25 at *
        refine ⟨inEx X_L58_25, ?_⟩
        repeat (refine tq_quiet rfl ?_; go_big_quiet_step (fail); refine wpQuiet_nil ?_)
        refine tq_loud rfl ?_
        go_wp2_with fail
        have z0 := sl_2 (f := fI [4, 2]) e1 rfl rfl
        have z1 := sl_2 (f := fI [0, 1]) e2 rfl rfl
        have z2 := sl_2 (f := fun k _ => .slice (some ⟨[a1, a2].getD k 0, 0, none⟩) (gL [[4, 2], [0, 1]] k).length 2) e3 rfl rfl
        refine (ProveR_any shiftT Ah Ak ch ck L58_25 hts ⟨by show 2 ≤ _; omega, by show 2 ≤ _; omega⟩ [[4, 2], [0, 1]] (some ⟨a3, 0, none⟩) 2 (fun k => some ⟨[a1, a2].getD k 0, 0, none⟩) (fun _ => 2) ⟨z2, fun k hk => (match k, hk with | 0, _ => z0 | 1, _ => z1)⟩ ⟨by show 2 ≤ _; omega, fun k hk => (match k, hk with | 0, _ => by show 2 ≤ _; omega | 1, _ => by show 2 ≤ _; omega)⟩ 2).mono ?_
        rintro e L58_26 ⟨rfl, hL58_26⟩
        replace e2 := e2.below hL58_26 e2.lt
        replace hts := hts.go hL58_26
        replace e1 := e1.below hL58_26 e1.lt
        replace e3 := e3.below hL58_26 e3.lt
        have B_L58_26 := ex_trans B_L58_25 hL58_26
        have X_L58_26 := ex_trans X_L58_25 hL58_26
        rw [ros_no]
        clear z0 z1 z2 e1 e2 e3 hts
        go_wp2_with fail
        refine ⟨inEx X_L58_26, ?_⟩
        repeat (refine tq_quiet rfl ?_; go_big_quiet_step (fail); refine wpQuiet_nil ?_)
        refine tq_done (r := [_]) rfl ?_
        go_wp2_with fail
        exact HREST.out _ _ X_L58_26 (exFrame (by kernel_rfl))
       ·
        go_wp2_with fail
        have NR := ex_alloc (Below.refl L58_22.heap.size L58_22) (.cells #[.int .i64 4, .int .i64 2] 3)
        have e1 : Blk (L58_22.alloc (.cells #[.int .i64 4, .int .i64 2] 3)) L58_22.heap.size 3 #[.int .i64 4, .int .i64 2] := Blk.new _ _ _
        replace e2 := e2.below NR e2.lt
        have B_L58_27 := ex_trans B_L58_22 NR
        have X_L58_27 := ex_trans X_L58_22 NR
        obtain ⟨a1, ha1⟩ : ∃ p, L58_22.heap.size = p := ⟨_, rfl⟩
        rw [ha1] at e1 ⊢
        clear ha1 NR
        generalize L58_22.alloc (.cells #[.int .i64 4, .int .i64 2] 3) = L58_27 at *
        refine ⟨inEx X_L58_27, ?_⟩
        repeat (refine tq_quiet rfl ?_; go_big_quiet_step (fail); refine wpQuiet_nil ?_)
        refine tq_fork rfl rfl ?_ ?_
        ·
         go_wp2_with fail
         refine (shift_any L58_27).mono ?_
         rintro e L58_28 ⟨⟨Ah, Ak, ch, ck, rfl, hts⟩, hL58_28⟩
         replace e2 := e2.below hL58_28 e2.lt
         replace e1 := e1.below hL58_28 e1.lt
         have B_L58_28 := ex_trans B_L58_27 hL58_28
         have X_L58_28 := ex_trans X_L58_27 hL58_28
         go_wp2_with fail
         refine ⟨inEx X_L58_28, ?_⟩
         repeat (refine tq_quiet rfl ?_; go_big_quiet_step (fail); refine wpQuiet_nil ?_)
         refine tq_loud rfl ?_
         go_wp2_with fail
         have NR := ex_alloc (Below.refl L58_28.heap.size L58_28) (.cells #[.slice (some ⟨a1, 0, none⟩) 2 2, .slice (some ⟨a2, 0, none⟩) 2 2] 28)
         have e3 : Blk (L58_28.alloc (.cells #[.slice (some ⟨a1, 0, none⟩) 2 2, .slice (some ⟨a2, 0, none⟩) 2 2] 28)) L58_28.heap.size 28 #[.slice (some ⟨a1, 0, none⟩) 2 2, .slice (some ⟨a2, 0, none⟩) 2 2] := Blk.new _ _ _
         replace e2 := e2.below NR e2.lt
         replace e1 := e1.below NR e1.lt
         replace hts := hts.go NR
         have B_L58_29 := ex_trans B_L58_28 NR
         have X_L58_29 := ex_trans X_L58_28 NR
         obtain ⟨a3, ha3⟩ : ∃ p, L58_28.heap.size = p := ⟨_, rfl⟩
         rw [ha3] at e3 ⊢
         clear ha3 NR
         generalize L58_28.alloc (.cells #[.slice (some ⟨a1, 0, none⟩) 2 2, .slice (some ⟨a2, 0, none⟩) 2 2] 28) = L58_29 at *
         refine ⟨inEx X_L58_29, ?_⟩
         repeat (refine tq_quiet rfl ?_; go_big_quiet_step (fail); refine wpQuiet_nil ?_)
         refine tq_loud rfl ?_
         go_wp2_with fail
         have z0 := sl_2 (f := fI [4, 2]) e1 rfl rfl
         have z1 := sl_2 (f := fI [0, 1]) e2 rfl rfl
         have z2 := sl_2 (f := fun k _ => .slice (some ⟨[a1, a2].getD k 0, 0, none⟩) (gL [[4, 2], [0, 1]] k).length 2) e3 rfl rfl
         refine (ProveR_any shiftT Ah Ak ch ck L58_29 hts ⟨by show 2 ≤ _; omega, by show 2 ≤ _; omega⟩ [[4, 2], [0, 1]] (some ⟨a3, 0, none⟩) 2 (fun k => some ⟨[a1, a2].getD k 0, 0, none⟩) (fun _ => 2) ⟨z2, fun k hk => (match k, hk with | 0, _ => z0 | 1, _ => z1)⟩ ⟨by show 2 ≤ _; omega, fun k hk => (match k, hk with | 0, _ => by show 2 ≤ _; omega | 1, _ => by show 2 ≤ _; omega)⟩ 2).mono ?_
         rintro e L58_30 ⟨rfl, hL58_30⟩
         replace e2 := e2.below hL58_30 e2.lt
         replace e1 := e1.below hL58_30 e1.lt
         replace hts := hts.go hL58_30
         replace e3 := e3.below hL58_30 e3.lt
         have B_L58_30 := ex_trans B_L58_29 hL58_30
         have X_L58_30 := ex_trans X_L58_29 hL58_30
         rw [ros_no]
         clear z0 z1 z2 e1 e2 e3 hts
         go_wp2_with fail
         refine ⟨inEx X_L58_30, ?_⟩
         repeat (refine tq_quiet rfl ?_; go_big_quiet_step (fail); refine wpQuiet_nil ?_)
         refine tq_done (r := [_]) rfl ?_
         go_wp2_with fail
         exact HREST.out _ _ X_L58_30 (exFrame (by kernel_rfl))
        ·
         go_wp2_with fail
         have NR := ex_alloc (Below.refl L58_27.heap.size L58_27) (.cells #[.slice (some ⟨a1, 0, none⟩) 2 2, .slice (some ⟨a2, 0, none⟩) 2 2] 28)
         have e3 : Blk (L58_27.alloc (.cells #[.slice (some ⟨a1, 0, none⟩) 2 2, .slice (some ⟨a2, 0, none⟩) 2 2] 28)) L58_27.heap.size 28 #[.slice (some ⟨a1, 0, none⟩) 2 2, .slice (some ⟨a2, 0, none⟩) 2 2] := Blk.new _ _ _
         replace e2 := e2.below NR e2.lt
         replace e1 := e1.below NR e1.lt
         have B_L58_31 := ex_trans B_L58_27 NR
         have X_L58_31 := ex_trans X_L58_27 NR
         obtain ⟨a3, ha3⟩ : ∃ p, L58_27.heap.size = p := ⟨_, rfl⟩
         rw [ha3] at e3 ⊢
         clear ha3 NR
         generalize L58_27.alloc (.cells #[.slice (some ⟨a1, 0, none⟩) 2 2, .slice (some ⟨a2, 0, none⟩) 2 2] 28) = L58_31 at *
         refine ⟨inEx X_L58_31, ?_⟩
         repeat (refine tq_quiet rfl ?_; go_big_quiet_step (fail); refine wpQuiet_nil ?_)
         refine tq_loud rfl ?_
         go_wp2_with fail
         refine (shift_any L58_31).mono ?_
         rintro e L58_32 ⟨⟨Ah, Ak, ch, ck, rfl, hts⟩, hL58_32⟩
         replace e2 := e2.below hL58_32 e2.lt
         replace e1 := e1.below hL58_32 e1.lt
         replace e3 := e3.below hL58_32 e3.lt
         have B_L58_32 := ex_trans B_L58_31 hL58_32
         have X_L58_32 := ex_trans X_L58_31 hL58_32
         go_wp2_with fail
         refine ⟨inEx X_L58_32, ?_⟩
         repeat (refine tq_quiet rfl ?_; go_big_quiet_step (fail); refine wpQuiet_nil ?_)
         refine tq_loud rfl ?_
         go_wp2_with fail
         have z0 := sl_2 (f := fI [4, 2]) e1 rfl rfl
         have z1 := sl_2 (f := fI [0, 1]) e2 rfl rfl
         have z2 := sl_2 (f := fun k _ => .slice (some ⟨[a1, a2].getD k 0, 0, none⟩) (gL [[4, 2], [0, 1]] k).length 2) e3 rfl rfl
         refine (ProveR_any shiftT Ah Ak ch ck L58_32 hts ⟨by show 2 ≤ _; omega, by show 2 ≤ _; omega⟩ [[4, 2], [0, 1]] (some ⟨a3, 0, none⟩) 2 (fun k => some ⟨[a1, a2].getD k 0, 0, none⟩) (fun _ => 2) ⟨z2, fun k hk => (match k, hk with | 0, _ => z0 | 1, _ => z1)⟩ ⟨by show 2 ≤ _; omega, fun k hk => (match k, hk with | 0, _ => by show 2 ≤ _; omega | 1, _ => by show 2 ≤ _; omega)⟩ 2).mono ?_
         rintro e L58_33 ⟨rfl, hL58_33⟩
         replace e2 := e2.below hL58_33 e2.lt
         replace e1 := e1.below hL58_33 e1.lt
         replace e3 := e3.below hL58_33 e3.lt
         replace hts := hts.go hL58_33
         have B_L58_33 := ex_trans B_L58_32 hL58_33
         have X_L58_33 := ex_trans X_L58_32 hL58_33
         rw [ros_no]
         clear z0 z1 z2 e1 e2 e3 hts
         go_wp2_with fail
         refine ⟨inEx X_L58_33, ?_⟩
         repeat (refine tq_quiet rfl ?_; go_big_quiet_step (fail); refine wpQuiet_nil ?_)
         refine tq_done (r := [_]) rfl ?_
         go_wp2_with fail
         exact HREST.out _ _ X_L58_33 (exFrame (by kernel_rfl))
end Go.Proofs.Ythihdiilokdidaa
end
