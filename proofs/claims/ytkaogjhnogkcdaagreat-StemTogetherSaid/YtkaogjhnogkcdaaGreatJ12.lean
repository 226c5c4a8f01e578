/- The reference's Creep, Sinks, IsTruth, Play (walks). · The reference's Play (walk). · append of any slice, at the list of a region's operations. · The reference's deep (walk): all that a day's heats can sink. · The reference's map of states: its zero. -/
import Derived.Laws.Cover1
import Derived.Test.YtkaogjhnogkcdaaGreatJ10
import Derived.Test.YtkaogjhnogkcdaaGreatJ3
set_option linter.unusedVariables false
set_option linter.unusedSimpArgs false
set_option linter.unusedSectionVars false
section
namespace Go.Proofs.YtkaogjhnogkcdaaGreat
open Go.RowKit
attribute [local go_sem] Ex.cell? Ex.frozen? Gx.cell?

set_option maxRecDepth 100000 in
set_option maxHeartbeats 800000 in
theorem CreepR_any (g : Gl) (Ab Ad : Option Addr) (cb cd : Nat) (day : Int) (w : World) (hg : GlIn w w.heap.size g Ab Ad) (hl : g.bands.length ≤ 1000000) :
  Calls Tryz.prog 64 #[.agg #[.int .i64 g.base, .slice Ab g.bands.length cb, .slice Ad g.depths.length cd, .int .i64 g.blo, .int .i64 g.bhi], .int .i64 day] w fun e w' =>
   e = .returned (.agg #[.int .i64 (creepTo g.bands day g.bands.length).lo, .int .i64 (creepTo g.bands day g.bands.length).hi]) ∧ Below w.heap.size w w' := by
 go_enter Tryz.func64, Tryz.ntmps64
 go_wp2_with fail
 go_loopw [6] (fun i wr => ∃ k : Nat, k ≤ g.bands.length ∧ i = .int .i64 k ∧ Below w.heap.size w wr ∧ Blk wr w.heap.size 27 #[.int .i64 g.base, .slice Ab g.bands.length cb, .slice Ad g.depths.length cd, .int .i64 g.blo, .int .i64 g.bhi] ∧ Blk wr (w.heap.size + 1) 25 #[.int .i64 0, .int .i64 0] ∧ Blk wr (w.heap.size + 1 + 1) 25 #[.int .i64 (creepTo g.bands day k).lo, .int .i64 (creepTo g.bands day k).hi])
  (fun i _ => g.bands.length - (intOf i).toNat)
 case atStart => exact ⟨0, by omega, rfl, ex_alloc (ex_alloc (ex_alloc (Below.refl _ _) _) _) _, ((Blk.new _ _ _).alloc _).alloc _, (Blk.new' _ _ _ (by simp)).alloc _, Blk.new' _ _ _ (by simp)⟩
 case round =>
  obtain ⟨k, hk, rfl, hbl, hq, hq1, hblk⟩ := hrel
  have a1 : wr.cell? ⟨w.heap.size, 1, none⟩ = some (.slice Ab g.bands.length cb) := hq.cell 1
  have l1 := hq.lt
  have hc0 : wr.cell? ⟨w.heap.size + 1 + 1, 0, none⟩ = some (.int .i64 (creepTo g.bands day k).lo) := hblk.cell 0
  have hc1 : wr.cell? ⟨w.heap.size + 1 + 1, 1, none⟩ = some (.int .i64 (creepTo g.bands day k).hi) := hblk.cell 1
  have hf0 := hblk.frozen 0
  have hf1 := hblk.frozen 1
  have hlt0 := hblk.lt
  have hd0 : wr.cell? ⟨w.heap.size + 1, 0, none⟩ = some (.int .i64 0) := hq1.cell 0
  have hd1 : wr.cell? ⟨w.heap.size + 1, 1, none⟩ = some (.int .i64 0) := hq1.cell 1
  have hg0 := hq1.frozen 0
  have hg1 := hq1.frozen 1
  have hlt1 := hq1.lt
  by_cases hlt : k < g.bands.length
  ·
   obtain ⟨b, off, rfl, hbB, h0, h1, h2⟩ := IsBds.at_ (hg.b.below hbl) hlt
   by_cases hd : (gB g.bands k).from_ ≤ day
   ·
    go_wp2
    go_roundw
    case rel => exact ⟨k + 1, by omega, by go_num, ex_set (ex_set hbl (by simp; omega) _) (by simp; omega) _, (hq.far (p := ⟨w.heap.size + 1 + 1, 0, none⟩) (by simp; omega) _).far (p := ⟨w.heap.size + 1 + 1, 1, none⟩) (by simp; omega) _, (hq1.far (p := ⟨w.heap.size + 1 + 1, 0, none⟩) (by simp) _).far (p := ⟨w.heap.size + 1 + 1, 1, none⟩) (by simp) _, by rw [creepTo, if_pos hd]; exact (hblk.set_ 0 _).set_ 1 _⟩
    case measure => simp [intOf]; omega
   ·
    go_wp2
    go_roundw
    case rel => exact ⟨k + 1, by omega, by go_num, hbl, hq, hq1, by rw [creepTo, if_neg hd]; exact hblk⟩
    case measure => simp [intOf]; omega
  ·
   have HK : Hid (k = g.bands.length) := Lib.hid (by omega)
   go_wp2
   have r5 := (hq1.set_ 0 (.int .i64 (creepTo g.bands day k).lo)).set_ 1 (.int .i64 (creepTo g.bands day k).hi)
   simp only [List.setIfInBounds_toArray, List.set_cons_zero, List.set_cons_succ] at r5
   refine bodyPost_ret (results_cell_row rfl _ _ (w.heap.size + 1) 25 #[.int .i64 (creepTo g.bands day k).lo, .int .i64 (creepTo g.bands day k).hi] (0, 0) _ rfl r5 rfl rfl rfl) rfl ?_
   exact ⟨by rw [HK.out], ex_set (ex_set hbl (by first | (simp; done) | (simp; omega)) _) (by first | (simp; done) | (simp; omega)) _⟩

set_option maxHeartbeats 800000 in
theorem SinksR_any (g : Gl) (Ab Ad : Option Addr) (cb cd : Nat) (heat : Int) (w : World) (hg : GlIn w w.heap.size g Ab Ad) (hl : g.depths.length ≤ 1000000) :
  Calls Tryz.prog 94 #[.agg #[.int .i64 g.base, .slice Ab g.bands.length cb, .slice Ad g.depths.length cd, .int .i64 g.blo, .int .i64 g.bhi], .int .i64 heat] w fun e w' => e = .returned (.int .i64 (sinksTo g.depths heat g.depths.length)) ∧ Below w.heap.size w w' := by
 go_enter Tryz.func94, Tryz.ntmps94
 go_wp2_with fail
 go_loopw [5, 6] (fun s i wr => ∃ k : Nat, k ≤ g.depths.length ∧ i = .int .i64 k ∧ s = .int .i64 (sinksTo g.depths heat k) ∧ Below w.heap.size w wr ∧ Blk wr w.heap.size 27 #[.int .i64 g.base, .slice Ab g.bands.length cb, .slice Ad g.depths.length cd, .int .i64 g.blo, .int .i64 g.bhi])
  (fun _ i _ => g.depths.length - (intOf i).toNat)
 case atStart => exact ⟨0, by omega, rfl, rfl, ex_alloc (Below.refl _ _) _, Blk.new _ _ _⟩
 case round =>
  obtain ⟨k, hk, rfl, rfl, hbl, hq⟩ := hrel
  have a1 : wr.cell? ⟨w.heap.size, 2, none⟩ = some (.slice Ad g.depths.length cd) := hq.cell 2
  have l1 := hq.lt
  by_cases hlt : k < g.depths.length
  ·
   obtain ⟨b, off, rfl, hbB, h0, h1⟩ := IsDps.at_ (hg.d.below hbl) hlt
   by_cases hd : (gD g.depths k).from_ ≤ heat
   ·
    go_wp2
    go_roundw
    case rel => exact ⟨k + 1, by omega, by go_num, by rw [sinksTo, if_pos hd], hbl, hq⟩
    case measure => simp [intOf]; omega
   ·
    go_wp2
    go_roundw
    case rel => exact ⟨k + 1, by omega, by go_num, by rw [sinksTo, if_neg hd], hbl, hq⟩
    case measure => simp [intOf]; omega
  ·
   have HK : Hid (k = g.depths.length) := Lib.hid (by omega)
   go_wp2
   go_ret
   exact ⟨by rw [← HK.out]; rfl, hbl⟩

theorem max3_eq (x y z : Int) : (if z > (if y > x then y else x) then z else (if y > x then y else x)) = mx3 x y z := by
 unfold mx3
 split <;> split <;> omega
theorem wpList_max3 {P : Program} {ops : Array Oper} {rest : List Oper} {o : Oper} {a : Act} {Q : Exit → Act → World → Prop} (w : World) (hgd : o.guard = none) (p q s : Operand) (ts : Array TypeId)
  (hop : o.op = .call { callee := .builtin .max, args := #[p, q, s], argTypes := ts }) (x y z : Int) (h1 : a.eval p = .int .i64 x) (h2 : a.eval q = .int .i64 y) (h3 : a.eval s = .int .i64 z)
  (hK : wpList P ops Q rest (a.put o.dst (.int .i64 (mx3 x y z))) w) : wpList P ops Q (o :: rest) a w := by
 refine wpList_plain hgd fun K hK' => ?_
 have hrun := run_max_int3 (P := P) (w := w) ts o.type .i64 .i64 .i64 x y z
 rw [max3_eq] at hrun
 unfold Oper.wp
 simp only [execOp, hop, resolve, invoke, builtin, h1, h2, h3, hrun, Result.andThen, Sem.run_bind, Sem.run_pure, List.map_toArray, List.map_cons, List.map_nil]
 exact hK' _ _ hK

end Go.Proofs.YtkaogjhnogkcdaaGreat
end

section
namespace Go.Proofs.YtkaogjhnogkcdaaGreat
open Go.RowKit
attribute [local go_sem] Ex.cell? Ex.frozen? Gx.cell?

set_option maxRecDepth 100000 in
set_option maxHeartbeats 3200000 in
theorem PlayR_any (g : Gl) (Ab Ad : Option Addr) (cb cd : Nat) (h : List Rg) (w : World) (hg : GlIn w w.heap.size g Ab Ad) (A1 A2 A3 : Option Addr) (c1 c2 c3 : Nat) (t1 t2 t3 : List Int) (k1 : SlAt w w.heap.size 1 A1 t1.length (fI t1)) (k2 : SlAt w w.heap.size 1 A2 t2.length (fI t2)) (k3 : SlAt w w.heap.size 1 A3 t3.length (fI t3)) (hok : Ok g h) (ht : truthB g h t1 t2 t3 = true) :
    Calls Tryz.prog 78 #[.agg #[.int .i64 g.base, .slice Ab g.bands.length cb, .slice Ad g.depths.length cd, .int .i64 g.blo, .int .i64 g.bhi], .agg #[.slice A1 t1.length c1, .slice A2 t2.length c2, .slice A3 t3.length c3]] w fun e w' =>
      (∃ v, e = .returned v ∧ w'.ownsRow w.heap.size 3 1 v (playTo g t1 t2 t3 h.length).length ((playTo g t1 t2 t3 h.length).map (Value.int .i64))) ∧ Below w.heap.size w w' := by
  obtain ⟨i0, hi0, hz0, hz1, hz2⟩ := info_parts int_info
  have HI := Lib.hid hi0
  have hb1 := ex_alloc (ex_alloc (Below.refl w.heap.size w) (.cells #[.int .i64 g.base, .slice Ab g.bands.length cb, .slice Ad g.depths.length cd, .int .i64 g.blo, .int .i64 g.bhi] 27)) (.cells #[.slice A1 t1.length c1, .slice A2 t2.length c2, .slice A3 t3.length c3] 143)
  have HT := Lib.hid (truthB_iff.1 ht)
  have HK := Lib.hid hok
  have hnh := hok.nh.2
  clear ht hok hi0
  go_enter Tryz.func78, Tryz.ntmps78
  go_wp2_with fail
  go_loopw [5, 6, 7, 8] (fun r s v i wr => ∃ k : Nat, k ≤ h.length ∧ i = .int .i64 k ∧ r = .int .i64 (riseTo t2 k) ∧ s = .int .i64 (sinkTo g t1 t3 k) ∧ Below w.heap.size w wr ∧
      Blk wr w.heap.size 27 #[.int .i64 g.base, .slice Ab g.bands.length cb, .slice Ad g.depths.length cd, .int .i64 g.blo, .int .i64 g.bhi] ∧ Blk wr (w.heap.size + 1) 143 #[.slice A1 t1.length c1, .slice A2 t2.length c2, .slice A3 t3.length c3] ∧
      wr.ownsRow (w.heap.size + 1 + 1) 3 1 v (playTo g t1 t2 t3 k).length ((playTo g t1 t2 t3 k).map (Value.int .i64)))
    (fun _ _ _ i _ => h.length - (intOf i).toNat)
  case atStart => exact ⟨0, by omega, rfl, rfl, rfl, hb1, (Blk.new _ _ _).alloc _, Blk.new' _ _ _ (by simp), by simp [playTo], .inl ⟨rfl, by simp [playTo]⟩⟩
  case round =>
    obtain ⟨k, hk, rfl, rfl, rfl, hbl, hq1, hq2, hown⟩ := hrel
    have d0 : wr.cell? ⟨w.heap.size + 1, 0, none⟩ = some (.slice A1 t1.length c1) := hq2.cell 0
    have d1 : wr.cell? ⟨w.heap.size + 1, 1, none⟩ = some (.slice A2 t2.length c2) := hq2.cell 1
    have d2 : wr.cell? ⟨w.heap.size + 1, 2, none⟩ = some (.slice A3 t3.length c3) := hq2.cell 2
    have l1 := hq1.lt
    have l2 := hq2.lt
    by_cases hlt : k < h.length
    · have a0 : wr.cell? ⟨w.heap.size, 0, none⟩ = some (.int .i64 g.base) := hq1.cell 0
      have a1 : wr.cell? ⟨w.heap.size, 1, none⟩ = some (.slice Ab g.bands.length cb) := hq1.cell 1
      have a2 : wr.cell? ⟨w.heap.size, 2, none⟩ = some (.slice Ad g.depths.length cd) := hq1.cell 2
      have a3 : wr.cell? ⟨w.heap.size, 3, none⟩ = some (.int .i64 g.blo) := hq1.cell 3
      have a4 : wr.cell? ⟨w.heap.size, 4, none⟩ = some (.int .i64 g.bhi) := hq1.cell 4
      obtain ⟨b1, o1, rfl, hbb1, p3⟩ := IsInts.at_ (k1.below hbl) (show k < t1.length by rw [HT.out.1.1]; exact hlt)
      obtain ⟨b2, o2, rfl, hbb2, p4⟩ := IsInts.at_ (k2.below hbl) (show k < t2.length by rw [HT.out.1.2.1]; exact hlt)
      obtain ⟨b3, o3, rfl, hbb3, p5⟩ := IsInts.at_ (k3.below hbl) (show k < t3.length by rw [HT.out.1.2.2]; exact hlt)
      have z1 : k < t1.length := by rw [HT.out.1.1]; exact hlt
      have z2 : k < t2.length := by rw [HT.out.1.2.1]; exact hlt
      have z3 : k < t3.length := by rw [HT.out.1.2.2]; exact hlt
      have hBr : w.heap.size ≤ wr.heap.size := hbl.size
      have m1 : b1 < wr.heap.size := by omega
      have m2 : b2 < wr.heap.size := by omega
      have m3 : b3 < wr.heap.size := by omega
      have hl5 : g.depths.length ≤ 1000000 := by have := HK.out.nd; omega
      have r0 := dayOk_iff.1 (HT.out.2 k hlt)
      have r1 : 0 ≤ riseTo t2 k ∧ riseTo t2 k ≤ 100000 := by have := riseTo_bd HK.out HT.out.2 hk; omega
      have r2 : 0 ≤ sinkTo g t1 t3 k ∧ sinkTo g t1 t3 k ≤ 100000 := by have := sinkTo_bd HK.out HT.out.2 hk; omega
      have r3 : 0 ≤ gI t2 k ∧ gI t2 k ≤ 100000 := by have := HK.out.creep k; omega
      have r4 : 0 ≤ gI t3 k ∧ gI t3 k ≤ 100000 := by have := HK.out.back; omega
      have r5 : -1000 ≤ g.base ∧ g.base ≤ 1000 := HK.out.base
      clear r0
      have hR := Lib.hid (show riseTo t2 (k + 1) = riseTo t2 k + gI t2 k from rfl)
      have hS := Lib.hid (show sinkTo g t1 t3 (k + 1) = mx3 (sinkTo g t1 t3 k - gI t3 k) 0 (sinksTo g.depths (gI t1 k) g.depths.length) from rfl)
      have hrk : 0 ≤ riseTo t2 k + gI t2 k ∧ riseTo t2 k + gI t2 k ≤ 100000 := by have := riseTo_bd HK.out HT.out.2 (d := k + 1) (by omega); rw [hR.out] at this; omega
      have hsk : 0 ≤ mx3 (sinkTo g t1 t3 k - gI t3 k) 0 (sinksTo g.depths (gI t1 k) g.depths.length) ∧ mx3 (sinkTo g t1 t3 k - gI t3 k) 0 (sinksTo g.depths (gI t1 k) g.depths.length) ≤ 100000 := by have := sinkTo_bd HK.out HT.out.2 (d := k + 1) (by omega); rw [hS.out] at this; omega
      go_wp2_with fail
      refine wp_region_ext_mix 15 [(false, 0), (false, 1), (false, 2), (false, 3), (false, 4), (false, 5), (false, 6), (false, 7), (false, 8), (false, 9), (false, 10), (false, 11), (false, 12), (true, 13), (true, 14)] (by kernel_rfl) (by kernel_rfl) (by intro d _ _ _ _ h; cases d <;> exact h) ?_
      have hX0 := (Below.refl wr.heap.size wr).drew
      repeat (refine mix_quiet rfl ?_; go_big_quiet_step (fail); refine wpQuiet_nil ?_)
      refine mix_loud rfl ?_
      go_wp2_with fail
      refine (SinksR_any g _ _ _ _ _ wr.drew ((hg.below (ex_trans hbl hX0)).up (ex_trans hbl hX0).size) hl5).mono ?_
      rintro e x1 ⟨rfl, hx1⟩
      have hX1 := ex_trans hX0 hx1
      go_wp2_with fail
      refine ⟨inEx hX1, ?_⟩
      refine mix_loud rfl ?_
      refine wpList_max3 _ rfl _ _ _ _ rfl (sinkTo g t1 t3 k - gI t3 k) 0 (sinksTo g.depths (gI t1 k) g.depths.length) rfl rfl rfl ?_
      generalize mx3 (sinkTo g t1 t3 k - gI t3 k) 0 (sinksTo g.depths (gI t1 k) g.depths.length) = sk at *
      refine ⟨inEx hX1, ?_⟩
      refine mix_nil rfl ?_
      have hB1 := ex_trans hbl hX1
      have y1 := hq1.below hX1 l1
      have y2 := hq2.below hX1 l2
      have n0 : x1.cell? ⟨w.heap.size, 0, none⟩ = some (.int .i64 g.base) := y1.cell 0
      have hown1 := own_below hown hX1
      generalize riseTo t2 k + gI t2 k = rk at *
      have y4 := hown1.alloc (.cells #[.int .i64 (g.base + rk - sk)] 3)
      have hlen : (playTo g t1 t2 t3 k).length = k := playTo_len
      have c63 : (playTo g t1 t2 t3 k).length + 1 ≤ maxLen := by rw [hlen]; unfold maxLen; omega
      have cby : ((playTo g t1 t2 t3 k).length + 1) * 8 ≤ 140737488355328 := by rw [hlen]; omega
      have HLEN := Lib.hid hlen
      clear hlen
      have hbase3 : w.heap.size + 1 + 1 ≤ x1.heap.size + 1 := by have := y2.lt; omega
      go_wp2_with (at_builtin; refine wpList_append_lies _ rfl _ _ _ rfl (w.heap.size + 1 + 1) 3 i0 _ 1 8 Tryz.underlying72 HI.out hz0 hz1 hz2 rfl (by omega) u7 _ _ rfl y4 ⟨x1.heap.size, 0, none⟩ 1 1 [.int .i64 (g.base + rk - sk)] rfl rfl (World.news_of_block (heap_alloc_new x1 _)) (by simp [Value.oneCell']) (by omega) c63 cby (by simpa using hbase3) (x1.heap.size + 1) (by simp) ?_; intro gg cap w1 hown' hgrow hat hlt')
      go_roundw
      case rel =>
        have hz : zAt g t1 t2 t3 k = g.base + rk - sk := by unfold zAt; rw [hR.out, hS.out]
        refine ⟨k + 1, by omega, by go_num, by rw [hR.out], by rw [hS.out], (ex_alloc hB1 _).grown hgrow (by simp; omega) (fun j hj => Nat.le_trans (by omega) (own_ge hown1 hj)), (y1.alloc _).grown hgrow (own_blk hown1 (by omega)), (y2.alloc _).grown hgrow (own_blk hown1 (by omega)), ?_⟩
        rw [playTo_succ, hz]; exact own_snoc rfl hown'
      case measure => simp [intOf]; omega
    · have HK2 : Hid (k = h.length) := Lib.hid (by omega)
      have z1 : ¬ k < t1.length := by rw [HT.out.1.1]; exact hlt
      go_wp2
      go_ret
      exact ⟨⟨_, rfl, by rw [← HK2.out]; exact own_base hown (by omega)⟩, hbl⟩

end Go.Proofs.YtkaogjhnogkcdaaGreat
end

section
namespace Go.Proofs.YtkaogjhnogkcdaaGreat
open Go.RowKit

theorem news_of {α : Type} {f : α → List Value} {sz : Nat} (hsz : 0 < sz) (hf : ∀ a, (f a).length = sz) {F : Nat → Nat → Value} {l : List α} (hF : ∀ (k : Nat) (hk : k < l.length) (j : Nat), j < sz → (f l[k])[j]? = some (F k j)) {w : World} {b off : Nat}
    (hc : ∀ k j, k < l.length → j < sz → w.cell? ⟨b, off + k * sz + j, none⟩ = some (F k j)) : ∀ j u, (l.flatMap f)[j]? = some u → w.cell? ((⟨b, off, none⟩ : Addr).add j) = some u := by
  intro j u hu
  have hlen : (l.flatMap f).length = l.length * sz := by
    clear hF hc hu
    induction l with
    | nil => simp
    | cons a l ih => rw [List.flatMap_cons, List.length_append, hf, ih, List.length_cons, Nat.add_mul, Nat.one_mul, Nat.add_comm]
  have hj : j < l.length * sz := by
    have := (List.getElem?_eq_some_iff.1 hu).1
    rwa [hlen] at this
  have hk : j / sz < l.length := (Nat.div_lt_iff_lt_mul hsz).2 hj
  have hr : j % sz < sz := Nat.mod_lt _ hsz
  have e : j = j / sz * sz + j % sz := by have := Nat.div_add_mod j sz; rw [Nat.mul_comm] at this; omega
  have h1 := (flat_get hf hk hr).trans (hF _ hk _ hr)
  rw [← e, hu] at h1
  injection h1 with h1
  rw [Addr.add_lit, h1, ← hc _ _ hk hr]
  congr 2
  omega

section
variable {P : Program}
theorem wpList_append_nothing {ops : Array Oper} {rest : List Oper} {o : Oper} {a : Act} {Q : Exit → Act → World → Prop} (w : World) (hg : o.guard = none) (s x : Operand) (t e : TypeId) (i : TypeInfo)
    (hop : o.op = .call { callee := .builtin .append, args := #[s, x], argTypes := #[t, t] }) (ht : P.underlying t = some (.slice e)) (hi : P.info? e = some i) (B A : Option Addr) (n k c : Nat) (hle : n ≤ k)
    (hs : a.eval s = .slice B n k) (hx : a.eval x = .slice A 0 c) (hK : wpList P ops Q rest (a.put o.dst (.slice B n k)) w) : wpList P ops Q (o :: rest) a w := by
  refine wpList_plain hg fun K hK' => ?_
  have hrun : (Builtin.append_ #[t, t] o.type #[.slice B n k, .slice A 0 c]).run P w = .ok (.slice B n k) w := by
    cases A <;> cases B <;> simp [Builtin.append_, run_underlying ht, sizeOf, typeInfo, hi, Builtin.lenOf, Builtin.firstCells, loadCells, loadCellsFrom, storeCells, hle]
  unfold Oper.wp
  simp [execOp, hop, resolve, invoke, builtin, hs, hx, hrun, Result.andThen]
  exact hK' _ _ hK
theorem own_cap {w : World} {base : Nat} {e : TypeId} {sz n k : Nat} {B : Option Addr} {xs : List Value} (h : w.ownsRow base e sz (.slice B n k) n xs) : n ≤ k := by
  rcases h.2 with ⟨h1, h2⟩ | ⟨g, cap, cur, h1, _, _, h2, _⟩
  · injection h1 with h1 h3 h4; omega
  · injection h1 with h1 h3 h4; omega
theorem wpList_append_all {ops : Array Oper} {rest : List Oper} {o : Oper} {a : Act} {w : World} {Q : Exit → Act → World → Prop} (hgd : o.guard = none) (s x : Operand) (t : TypeId)
    (ho : o.op = .call { callee := .builtin .append, args := #[s, x], argTypes := #[t, t] })
    (base : Nat) (e : TypeId) (i : TypeInfo) (z : Value) (size bytes : Nat) (ht : P.underlying t = some (.slice e)) (hi : P.info? e = some i) (hz : i.zero = some z)
    (hsize : i.size = size) (hby : i.bytes = bytes) (hzs : z.cells.size = size) (hsz : 0 < size)
    (B : Option Addr) (n k : Nat) (xs : List Value) (hs : a.eval s = .slice B n k) (hown : w.ownsRow base e size (.slice B n k) n xs)
    (A : Option Addr) (m c : Nat) (news : List Value) (hx : a.eval x = .slice A m c) (hl : news.length = m * size) (hA : 0 < m → ∃ b off, A = some ⟨b, off, none⟩ ∧ ∀ j u, news[j]? = some u → w.cell? ((⟨b, off, none⟩ : Addr).add j) = some u) (h1 : ∀ u ∈ news, u.oneCell' = true)
    (h63 : n + m ≤ maxLen) (hbytes : (n + m) * bytes ≤ 140737488355328) (hbase : base ≤ w.heap.size) (H : Nat) (hH : w.heap.size = H)
    (h : ∀ B' k' w', w'.ownsRow base e size (.slice B' (n + m) k') (n + m) (xs ++ news) → w.grownBy w' (Value.slice B n k).ownBlock → (∀ g, (Value.slice B' (n + m) k').ownBlock = some g → (Value.slice B n k).ownBlock = some g ∨ g = H) → wpList P ops Q rest (a.put o.dst (.slice B' (n + m) k')) w') : wpList P ops Q (o :: rest) a w := by
  rcases Nat.eq_zero_or_pos m with h0 | h0
  · subst h0
    have hn : news = [] := List.eq_nil_of_length_eq_zero (by simpa using hl)
    subst hn
    have hcap := own_cap hown
    refine wpList_append_nothing w hgd s x t e i ho ht hi B A n k c hcap hs hx ?_
    exact h B k w (by simpa using hown) (World.grownBy.refl _ _) (fun g hg => .inl (by simpa using hg))
  · obtain ⟨b, off, rfl, hnews⟩ := hA h0
    exact wpList_append_lies w hgd s x t ho base e i z size bytes ht hi hz hsize hby hzs hsz _ n xs hs hown ⟨b, off, none⟩ m c news hx hl hnews h1 h0 h63 hbytes hbase H hH
      (fun g cap w' h2 h3 h4 _ => h _ _ w' h2 h3 (fun g' hg => by
        have : g = g' := by simpa [Value.ownBlock] using hg
        subst this; exact h4))
theorem one_at {w : World} {g sz : Nat} {t : TypeId} {cs : Array Value} {F : Nat → Nat → Value} (hb : Blk w g t cs) (h : ∀ j, j < sz → cs[j]? = some (F 0 j)) : SlAt w w.heap.size sz (some ⟨g, 0, none⟩) 1 F := fun _ => ⟨g, 0, rfl, hb.lt, fun k j hk hj => by
  obtain rfl : k = 0 := by omega
  rw [cell_of_row _ _ _ _ _ _ hb]
  simpa using h j hj⟩
theorem wpList_append_list {ops : Array Oper} {rest : List Oper} {o : Oper} {a : Act} {w : World} {Q : Exit → Act → World → Prop} {α : Type} {f : α → List Value} {F : List α → Nat → Nat → Value} {sz : Nat} (hf : ∀ a, (f a).length = sz)
    (hF : ∀ (l : List α) (k : Nat) (hk : k < l.length) (j : Nat), j < sz → (f l[k])[j]? = some (F l k j)) (h1 : ∀ a u, u ∈ f a → u.oneCell' = true) (hgd : o.guard = none) (s x : Operand) (t : TypeId)
    (ho : o.op = .call { callee := .builtin .append, args := #[s, x], argTypes := #[t, t] })
    (base : Nat) (e : TypeId) (i : TypeInfo) (z : Value) (bytes : Nat) (ht : P.underlying t = some (.slice e)) (hi : P.info? e = some i) (hz : i.zero = some z)
    (hsize : i.size = sz) (hby : i.bytes = bytes) (hzs : z.cells.size = sz) (hsz : 0 < sz)
    (B : Option Addr) (k : Nat) (xs : List α) (hs : a.eval s = .slice B xs.length k) (hown : w.ownsRow base e sz (.slice B xs.length k) xs.length (xs.flatMap f))
    (A : Option Addr) (c : Nat) (ys : List α) (hx : a.eval x = .slice A ys.length c) (hA : SlAt w w.heap.size sz A ys.length (F ys))
    (h63 : xs.length + ys.length ≤ maxLen) (hbytes : (xs.length + ys.length) * bytes ≤ 140737488355328) (hbase : base ≤ w.heap.size) (H : Nat) (hH : w.heap.size = H)
    (h : ∀ L B' k' w', Hid (L = xs ++ ys) → w'.ownsRow base e sz (.slice B' L.length k') L.length (L.flatMap f) → w.grownBy w' (Value.slice B xs.length k).ownBlock → (∀ g, (Value.slice B' L.length k').ownBlock = some g → (Value.slice B xs.length k).ownBlock = some g ∨ g = H) → wpList P ops Q rest (a.put o.dst (.slice B' L.length k')) w') : wpList P ops Q (o :: rest) a w := by
  have hlen : (ys.flatMap f).length = ys.length * sz := by
    clear hA hx hbytes h63 h
    induction ys with
    | nil => simp
    | cons a l ih => rw [List.flatMap_cons, List.length_append, hf, ih, List.length_cons, Nat.add_mul, Nat.one_mul, Nat.add_comm]
  refine wpList_append_all hgd s x t ho base e i z sz bytes ht hi hz hsize hby hzs hsz B xs.length k _ hs hown A ys.length c (ys.flatMap f) hx hlen (fun h0 => ?_) (fun u hu => by obtain ⟨a, _, ha⟩ := List.mem_flatMap.1 hu; exact h1 a u ha) h63 hbytes hbase H hH (fun B' k' w' g1 g2 g3 => ?_)
  · obtain ⟨b, off, rfl, _, hc⟩ := hA h0
    exact ⟨b, off, rfl, news_of hsz hf (hF ys) (fun k j hk hj => by rw [Nat.add_assoc]; exact hc k j hk hj)⟩
  · have e1 : (xs ++ ys).length = xs.length + ys.length := List.length_append
    have := h (xs ++ ys) B' k' w' (Lib.hid rfl) (by rw [e1, List.flatMap_append]; exact g1) g2 (by rw [e1]; exact g3)
    rwa [e1] at this
end
end Go.Proofs.YtkaogjhnogkcdaaGreat
end

section
namespace Go.Proofs.YtkaogjhnogkcdaaGreat
open Go.RowKit
attribute [local go_sem] Ex.cell? Ex.frozen?

def DeepIs (g : Gl) (lo : Int) (k : Nat) (L : List Int) : Prop := L.length ≤ k ∧ ∀ y, y ∈ L ↔ ∃ j : Nat, j < k ∧ y = sinks g (lo + j)
theorem DeepIs.has {g : Gl} {lo : Int} {k : Nat} {L : List Int} (h : DeepIs g lo k L) (hh : hasB L (sinks g (lo + k)) = true) : DeepIs g lo (k + 1) L := by
 have hm : sinks g (lo + k) ∈ L := of_decide_eq_true hh
 refine ⟨by have := h.1; omega, fun y => ?_⟩
 rw [h.2]
 constructor
 ·
  rintro ⟨j, h1, h2⟩; exact ⟨j, by omega, h2⟩
 ·
  rintro ⟨j, h1, h2⟩
  rcases Nat.lt_succ_iff_lt_or_eq.1 h1 with h3 | h3
  ·
   exact ⟨j, h3, h2⟩
  ·
   subst h3; rw [h2]; exact (h.2 _).1 hm
theorem DeepIs.more {g : Gl} {lo : Int} {k : Nat} {L : List Int} (h : DeepIs g lo k L) : DeepIs g lo (k + 1) (L ++ [sinks g (lo + k)]) := by
 refine ⟨by have := h.1; simp; omega, fun y => ?_⟩
 rw [List.mem_append, List.mem_singleton, h.2]
 constructor
 ·
  rintro (⟨j, h1, h2⟩ | h2)
  ·
   exact ⟨j, by omega, h2⟩
  ·
   exact ⟨k, by omega, h2⟩
 ·
  rintro ⟨j, h1, h2⟩
  rcases Nat.lt_succ_iff_lt_or_eq.1 h1 with h3 | h3
  ·
   exact .inl ⟨j, h3, h2⟩
  ·
   subst h3; exact .inr h2

end Go.Proofs.YtkaogjhnogkcdaaGreat
end

section
namespace Go.Proofs.YtkaogjhnogkcdaaGreat
open Go.RowKit

def isF : Value → Bool
  | .bool b => !b
  | _ => false
theorem isF_iff {v : Value} (h : isF v = true) : v = .bool false := by
  cases v <;> simp [isF] at h
  rw [h]
def chkF : List Value → Nat → Bool
  | [], n => n == 0
  | v :: l, n => match n with
    | 0 => false
    | n + 1 => isF v && chkF l n
theorem chkF_iff : ∀ {l : List Value} {n : Nat}, chkF l n = true → l.length = n ∧ ∀ v ∈ l, v = .bool false
  | [], n, h => by
    simp [chkF] at h
    exact ⟨by simp [h], fun v hv => by cases hv⟩
  | v :: l, 0, h => by simp [chkF] at h
  | v :: l, n + 1, h => by
    simp only [chkF, Bool.and_eq_true] at h
    obtain ⟨h1, h2⟩ := chkF_iff h.2
    refine ⟨by rw [List.length_cons, h1], fun u hu => ?_⟩
    rcases List.mem_cons.1 hu with rfl | hu
    · exact isF_iff h.1
    · exact h2 u hu
def mapZ (i : Option TypeInfo) : Bool := match i with
  | some i => (match i.zero with
    | some (.agg c) => chkF c.toList 27404
    | _ => false)
  | none => false
end Go.Proofs.YtkaogjhnogkcdaaGreat
end
