/- Spill: an end of what a stock can be: the search (walk). · Spill: the ranges of all stocks (walk). · Spill: Roster (walk). -/
import Derived.Deep.LoopGhost
import Derived.Laws.IdiomCopy
import Derived.Test.YthihdiilokdidaaV7
import Derived.Test.YthihdiilokdidaaV2
import Derived.Test.YthihdiilokdidaaV3
set_option linter.unusedVariables false
set_option linter.unusedSimpArgs false
set_option linter.unusedSectionVars false
section
namespace Go.Proofs.Ythihdiilokdidaa
open Go.RowKit
attribute [local go_sem] Ex.cell? Ex.frozen? run_store_func

theorem half_less {up : Bool} {r : Rg} (h : r.lo < r.hi) : ((halfA up r).hi - (halfA up r).lo).toNat < (r.hi - r.lo).toNat ∧ ((halfB up r).hi - (halfB up r).lo).toNat < (r.hi - r.lo).toNat := by
 cases up <;> simp only [halfA, halfB, if_true, Bool.false_eq_true, if_false] <;> omega
structure FdI (s : Ws) (Ar Am Aw : Option Addr) (cr cm cw m : Nat) (F : Spot → Option Rg) (w W : World) (p0 p9 r d : Nat) (fx : Nat) (old rg : Rg) : Prop where
 q3 : Blk W p0 153 #[.slice Ar s.rooms.length cr, .int .i64 s.days, .slice Am s.moves.length cm, .slice Aw s.wgs.length cw, .map (some m)]
 q4 : Blk W (p0 + 1) 169 #[.int .i64 (r : Int), .int .i64 (d : Int)]
 q5 : Blk W (p0 + 1 + 1) 174 #[.func (.func fx) #[] #[]]
 q7 : Blk W (p0 + 1 + 1 + 1) 50 #[.int .i64 old.lo, .int .i64 old.hi]
 q9 : Blk W p9 50 #[.int .i64 rg.lo, .int .i64 rg.hi]
 hm : StMp W m F
 fr : Fr (fun b => b = m) w W
 far : p0 + 1 + 1 + 1 < p9
theorem FdI.below {s : Ws} {Ar Am Aw : Option Addr} {cr cm cw m : Nat} {F : Spot → Option Rg} {w W W' : World} {p0 p9 r d fx : Nat} {old rg : Rg} (h : FdI s Ar Am Aw cr cm cw m F w W p0 p9 r d fx old rg) (hb : Below W.heap.size W W') : FdI s Ar Am Aw cr cm cw m F w W' p0 p9 r d fx old rg :=
 ⟨h.q3.below hb h.q3.lt, h.q4.below hb h.q4.lt, h.q5.below hb h.q5.lt, h.q7.below hb h.q7.lt, h.q9.below hb h.q9.lt, h.hm.below hb, h.fr.trans (Fr.below hb) (fun _ _ h => h), h.far⟩
theorem FdI.frM {s : Ws} {Ar Am Aw : Option Addr} {cr cm cw m : Nat} {F : Spot → Option Rg} {w W W' : World} {p0 p9 r d fx : Nat} {old rg : Rg} (h : FdI s Ar Am Aw cr cm cw m F w W p0 p9 r d fx old rg) (hm : StMp W' m F) (hf : Fr (fun b => b = m) W W') : FdI s Ar Am Aw cr cm cw m F w W' p0 p9 r d fx old rg :=
 ⟨h.q3.frM h.hm hf, h.q4.frM h.hm hf, h.q5.frM h.hm hf, h.q7.frM h.hm hf, h.q9.frM h.hm hf, hm, h.fr.trans hf (fun _ _ h => h), h.far⟩
theorem FdI.set {s : Ws} {Ar Am Aw : Option Addr} {cr cm cw m : Nat} {F : Spot → Option Rg} {w W : World} {p0 p9 r d fx : Nat} {old rg : Rg} (h : FdI s Ar Am Aw cr cm cw m F w W p0 p9 r d fx old rg) (hp : w.heap.size ≤ p9) (x y : Int) : FdI s Ar Am Aw cr cm cw m F w ((W.setCell ⟨p9, 0, none⟩ (.int .i64 x)).setCell ⟨p9, 1, none⟩ (.int .i64 y)) p0 p9 r d fx old ⟨x, y⟩ := by
 have hf := (Fr.set (R := fun b => b = p9) W p9 0 (.int .i64 x) rfl).trans (Fr.set (R := fun b => b = p9) (W.setCell ⟨p9, 0, none⟩ (.int .i64 x)) p9 1 (.int .i64 y) rfl) (fun _ _ h => h)
 have hf2 : Fr (fun b => b = m) w ((W.setCell ⟨p9, 0, none⟩ (.int .i64 x)).setCell ⟨p9, 1, none⟩ (.int .i64 y)) := ⟨hf.os.trans h.fr.os, hf.tape.trans h.fr.tape, hf.output.trans h.fr.output, Nat.le_trans h.fr.size hf.size, fun k hk hn => (hf.block k (by have := h.fr.size; omega) (by omega)).trans (h.fr.block k hk hn)⟩
 have hq := (h.q9.set_ 0 (.int .i64 x)).set_ 1 (.int .i64 y)
 simp only [List.setIfInBounds_toArray, List.set_cons_zero, List.set_cons_succ] at hq
 have := h.far
 have h9 := blk_isMap h.q9 h.hm
 exact ⟨h.q3.fr hf (by omega), h.q4.fr hf (by omega), h.q5.fr hf (by omega), h.q7.fr hf (by omega), hq, h.hm.fr hf (fun e => h9 e.symm), hf2, h.far⟩
set_option maxRecDepth 100000 in
set_option maxHeartbeats 3200000 in
theorem find_lo (s : Ws) (Ar Am Aw : Option Addr) (cr cm cw : Nat) (w : World) (hs : WsIn w w.heap.size s Ar Am Aw) (m : Nat) (F : Spot → Option Rg) (st : Sts) (hw : WoOk s.wo) (hd : s.days = (s.wo.days : Int)) (hm : StMp w m F) (hF : StAll F st s.rooms.length s.wo.days) (hst : StsOk st) (r d : Nat) (hr : r < s.rooms.length) (hdd : d < s.wo.days) (Z : Int → Prop) (zlo zhi : Int) (hEnds : EndsOf Z zlo zhi)
  (hZ : ∀ g : Rg, CanSt s.wo (narrowS st r d g) ↔ ∃ z, Z z ∧ g.lo ≤ z ∧ z ≤ g.hi) (hin : ∀ z, Z z → inR z (st r d)) :
  Calls Try.prog 97 #[.agg #[.slice Ar s.rooms.length cr, .int .i64 s.days, .slice Am s.moves.length cm, .slice Aw s.wgs.length cw, .map (some m)], cSp ((r : Int), (d : Int)), .agg #[.func (.func 98) #[] #[]]] w fun e w' => e = .returned (.int .i64 zlo) ∧ StMp w' m F ∧ Fr (fun b => b = m) w w' := by
 have hzin : if false = true then (st r d).lo ≤ zhi ∧ zhi ≤ (st r d).hi else (st r d).lo ≤ zlo ∧ zlo ≤ (st r d).hi := by
  have h1 := hin _ hEnds.1
  have h2 := hin _ hEnds.2.1
  simpa [inR] using h1
 unfold cSp
 obtain ⟨⟨olo, ohi⟩, hold⟩ : ∃ x, st r d = x := ⟨_, rfl⟩
 have hso := hst r d
 have hF0 := hF r d hr hdd
 rw [hold] at hF0 hso
 have hlk0 := MpIs.at_ (et := 50) Try.underlying151 cSp_fd (hm.below (ex_alloc (ex_alloc (ex_alloc (Below.refl w.heap.size w) (.cells #[.slice Ar s.rooms.length cr, .int .i64 s.days, .slice Am s.moves.length cm, .slice Aw s.wgs.length cw, .map (some m)] 153)) (.cells #[.int .i64 (r : Int), .int .i64 (d : Int)] 169)) (.cells #[.func (.func 98) #[] #[]] 174))) ((r : Int), (d : Int)) hF0
 unfold cSp cRg at hlk0
 have HDs := Lib.hid hd
 have HOLD := Lib.hid hold
 clear hd hold hF0
 dsimp only at hso
 have hb4 := ex_alloc (ex_alloc (ex_alloc (ex_alloc (Below.refl w.heap.size w) (.cells #[.slice Ar s.rooms.length cr, .int .i64 s.days, .slice Am s.moves.length cm, .slice Aw s.wgs.length cw, .map (some m)] 153)) (.cells #[.int .i64 (r : Int), .int .i64 (d : Int)] 169)) (.cells #[.func (.func 98) #[] #[]] 174)) (.cells #[.int .i64 olo, .int .i64 ohi] 50)
 go_enter Try.func97, Try.ntmps97
 go_upto_region 3 with fail
 clear hlk0
 have q0 : Blk ((((w.alloc (.cells #[.slice Ar s.rooms.length cr, .int .i64 s.days, .slice Am s.moves.length cm, .slice Aw s.wgs.length cw, .map (some m)] 153)).alloc (.cells #[.int .i64 (r : Int), .int .i64 (d : Int)] 169)).alloc (.cells #[.func (.func 98) #[] #[]] 174)).alloc (.cells #[.int .i64 olo, .int .i64 ohi] 50)) (w.heap.size) 153 #[.slice Ar s.rooms.length cr, .int .i64 s.days, .slice Am s.moves.length cm, .slice Aw s.wgs.length cw, .map (some m)] := (((Blk.new' _ _ _ (by simp)).alloc _).alloc _).alloc _
 have q1 : Blk ((((w.alloc (.cells #[.slice Ar s.rooms.length cr, .int .i64 s.days, .slice Am s.moves.length cm, .slice Aw s.wgs.length cw, .map (some m)] 153)).alloc (.cells #[.int .i64 (r : Int), .int .i64 (d : Int)] 169)).alloc (.cells #[.func (.func 98) #[] #[]] 174)).alloc (.cells #[.int .i64 olo, .int .i64 ohi] 50)) (w.heap.size + 1) 169 #[.int .i64 (r : Int), .int .i64 (d : Int)] := ((Blk.new' _ _ _ (by simp)).alloc _).alloc _
 have q2 : Blk ((((w.alloc (.cells #[.slice Ar s.rooms.length cr, .int .i64 s.days, .slice Am s.moves.length cm, .slice Aw s.wgs.length cw, .map (some m)] 153)).alloc (.cells #[.int .i64 (r : Int), .int .i64 (d : Int)] 169)).alloc (.cells #[.func (.func 98) #[] #[]] 174)).alloc (.cells #[.int .i64 olo, .int .i64 ohi] 50)) (w.heap.size + 1 + 1) 174 #[.func (.func 98) #[] #[]] := (Blk.new' _ _ _ (by simp)).alloc _
 have q3 : Blk ((((w.alloc (.cells #[.slice Ar s.rooms.length cr, .int .i64 s.days, .slice Am s.moves.length cm, .slice Aw s.wgs.length cw, .map (some m)] 153)).alloc (.cells #[.int .i64 (r : Int), .int .i64 (d : Int)] 169)).alloc (.cells #[.func (.func 98) #[] #[]] 174)).alloc (.cells #[.int .i64 olo, .int .i64 ohi] 50)) (w.heap.size + 1 + 1 + 1) 50 #[.int .i64 olo, .int .i64 ohi] := Blk.new' _ _ _ (by simp)
 show Code.wp _ _ _ _ ((((w.alloc (.cells #[.slice Ar s.rooms.length cr, .int .i64 s.days, .slice Am s.moves.length cm, .slice Aw s.wgs.length cw, .map (some m)] 153)).alloc (.cells #[.int .i64 (r : Int), .int .i64 (d : Int)] 169)).alloc (.cells #[.func (.func 98) #[] #[]] 174)).alloc (.cells #[.int .i64 olo, .int .i64 ohi] 50))
 have hm4 := hm.below hb4
 have hz4 : ((((w.alloc (.cells #[.slice Ar s.rooms.length cr, .int .i64 s.days, .slice Am s.moves.length cm, .slice Aw s.wgs.length cw, .map (some m)] 153)).alloc (.cells #[.int .i64 (r : Int), .int .i64 (d : Int)] 169)).alloc (.cells #[.func (.func 98) #[] #[]] 174)).alloc (.cells #[.int .i64 olo, .int .i64 ohi] 50)).heap.size = w.heap.size + 1 + 1 + 1 + 1 := by simp
 generalize (((w.alloc (.cells #[.slice Ar s.rooms.length cr, .int .i64 s.days, .slice Am s.moves.length cm, .slice Aw s.wgs.length cw, .map (some m)] 153)).alloc (.cells #[.int .i64 (r : Int), .int .i64 (d : Int)] 169)).alloc (.cells #[.func (.func 98) #[] #[]] 174)).alloc (.cells #[.int .i64 olo, .int .i64 ohi] 50) = V at *
 obtain ⟨p0, hp0⟩ : ∃ p, w.heap.size = p := ⟨_, rfl⟩
 rw [hp0] at q0 q1 q2 q3 hz4 ⊢
 have HP0 := Lib.hid hp0
 clear hp0
 rename_i Q' K hK
 have hrest : ∀ (W : World) (p9 : Nat) (a : Act), FdI s Ar Am Aw cr cm cw m F w W p0 p9 r d 98 ⟨olo, ohi⟩ ⟨olo, ohi⟩ → (∃ u : Nat → Value, a = ⟨List.toArray (u 0 :: u 1 :: u 2 :: .pointer (some ⟨p0, 0, none⟩) :: .pointer (some ⟨p0 + 1, 0, none⟩) :: .pointer (some ⟨p0 + 1 + 1, 0, none⟩) :: .int .i64 0 :: .pointer (some ⟨p0 + 1 + 1 + 1, 0, none⟩) :: .func (.func 120) #[] #[.pointer (some ⟨p0, 0, none⟩), .pointer (some ⟨p0 + 1, 0, none⟩), .pointer (some ⟨p0 + 1 + 1 + 1, 0, none⟩)] :: .pointer (some ⟨p9, 0, none⟩) :: u 10 :: u 11 :: u 12 :: u 13 :: u 14 :: u 15 :: u 16 :: u 17 :: u 18 :: u 19 :: u 20 :: u 21 :: u 22 :: u 23 :: u 24 :: u 25 :: u 26 :: u 27 :: u 28 :: u 29 :: u 30 :: u 31 :: u 32 :: u 33 :: u 34 :: u 35 :: u 36 :: u 37 :: u 38 :: u 39 :: u 40 :: u 41 :: u 42 :: []), []⟩) → K a W := by
  rintro W p9 a hI ⟨u, rfl⟩
  refine hK _ _ ?_
  clear hK q0 q1 q2 q3 hm4 hb4 hz4 V
  go_wp2_with fail
  refine wp_loop_ghost (fun n a W => Rel (fun a W => ∃ rg, Hid (n = (rg.hi - rg.lo).toNat) ∧ Hid (FindIs Z false ⟨olo, ohi⟩ rg) ∧ FdI s Ar Am Aw cr cm cw m F w W p0 p9 r d 98 ⟨olo, ohi⟩ rg ∧ ∃ u : Nat → Value, a = ⟨List.toArray (u 0 :: u 1 :: u 2 :: .pointer (some ⟨p0, 0, none⟩) :: .pointer (some ⟨p0 + 1, 0, none⟩) :: .pointer (some ⟨p0 + 1 + 1, 0, none⟩) :: .int .i64 0 :: .pointer (some ⟨p0 + 1 + 1 + 1, 0, none⟩) :: .func (.func 120) #[] #[.pointer (some ⟨p0, 0, none⟩), .pointer (some ⟨p0 + 1, 0, none⟩), .pointer (some ⟨p0 + 1 + 1 + 1, 0, none⟩)] :: .pointer (some ⟨p9, 0, none⟩) :: u 10 :: u 11 :: u 12 :: u 13 :: u 14 :: u 15 :: u 16 :: u 17 :: u 18 :: u 19 :: u 20 :: u 21 :: u 22 :: u 23 :: u 24 :: u 25 :: u 26 :: u 27 :: u 28 :: u 29 :: u 30 :: u 31 :: u 32 :: u 33 :: u 34 :: u 35 :: u 36 :: u 37 :: u 38 :: u 39 :: u 40 :: u 41 :: u 42 :: []), []⟩) a W) _ ⟨⟨⟨olo, ohi⟩, Lib.hid rfl, Lib.hid ⟨⟨Int.le_refl _, Int.le_refl _⟩, zlo, zhi, hEnds, by have := hzin; rw [HOLD.out] at this; exact this⟩, hI, exFrame (by kernel_rfl)⟩⟩ ?_
  clear hI
  rintro n a W1 ⟨⟨⟨lo, hi⟩, HN, HFd, hI, u1, rfl⟩⟩
  have hle := HFd.out.le
  have hsub := HFd.out.sub
  dsimp only at hle hsub
  have c0 : W1.cell? ⟨p9, 0, none⟩ = some (.int .i64 lo) := hI.q9.cell 0
  have c1 : W1.cell? ⟨p9, 1, none⟩ = some (.int .i64 hi) := hI.q9.cell 1
  have e0 : W1.cell? ⟨p0 + 1 + 1, 0, none⟩ = some (.func (.func 98) #[] #[]) := hI.q5.cell 0
  have l9 := hI.q9.lt
  have l5 := hI.q5.lt
  have hp9 : w.heap.size ≤ p9 := by have := hI.far; rw [HP0.out]; omega
  by_cases hlt : lo < hi
  ·
   go_wp2_with fail
   refine (lower_any lo hi W1 (by omega)).mono ?_
   rintro e W2 ⟨rfl, h2⟩
   have hI2 := hI.below h2
   obtain ⟨⟨alo, ahi⟩, hA⟩ : ∃ x, halfA false ⟨lo, hi⟩ = x := ⟨_, rfl⟩
   obtain ⟨⟨blo, bhi⟩, hB⟩ : ∃ x, halfB false ⟨lo, hi⟩ = x := ⟨_, rfl⟩
   rw [hA, hB]
   have hless := half_less (up := false) (r := ⟨lo, hi⟩) hlt
   have hsa := HFd.out.subA hlt
   rw [hA] at hsa hless
   rw [hB] at hless
   dsimp only at hsa hless
   have hab : 0 ≤ alo ∧ alo ≤ 1048576 ∧ 0 ≤ ahi ∧ ahi ≤ 1048576 := by
    have h1 : (halfA false ⟨lo, hi⟩).lo = alo := by rw [hA]
    have h2 : (halfA false ⟨lo, hi⟩).hi = ahi := by rw [hA]
    simp only [halfA, if_true, Bool.false_eq_true, if_false] at h1 h2
    omega
   have HA := Lib.hid hA
   have HB := Lib.hid hB
   have HLS := Lib.hid hless
   clear hA hB hless hsa c0 c1 e0 l9 l5
   have B4 := ex_alloc (ex_alloc (Below.refl W2.heap.size W2) (.cells #[.int .i64 alo, .int .i64 ahi] 50)) (.cells #[.int .i64 blo, .int .i64 bhi] 50)
   have hI4 := hI2.below B4
   have t10 : Blk ((W2.alloc (.cells #[.int .i64 alo, .int .i64 ahi] 50)).alloc (.cells #[.int .i64 blo, .int .i64 bhi] 50)) W2.heap.size 50 #[.int .i64 alo, .int .i64 ahi] := (Blk.new _ _ _).alloc _
   have t11 : Blk ((W2.alloc (.cells #[.int .i64 alo, .int .i64 ahi] 50)).alloc (.cells #[.int .i64 blo, .int .i64 bhi] 50)) (W2.heap.size + 1) 50 #[.int .i64 blo, .int .i64 bhi] := Blk.new' _ _ _ (by simp)
   go_upto_region 6 with fail
   show Code.wp _ _ _ _ ((W2.alloc (.cells #[.int .i64 alo, .int .i64 ahi] 50)).alloc (.cells #[.int .i64 blo, .int .i64 bhi] 50))
   have hz4 : p9 < W2.heap.size := hI2.q9.lt
   generalize (W2.alloc (.cells #[.int .i64 alo, .int .i64 ahi] 50)).alloc (.cells #[.int .i64 blo, .int .i64 bhi] 50) = W4 at *
   generalize W2.heap.size = p10 at *
   have c0 : W4.cell? ⟨p9, 0, none⟩ = some (.int .i64 lo) := hI4.q9.cell 0
   have c1 : W4.cell? ⟨p9, 1, none⟩ = some (.int .i64 hi) := hI4.q9.cell 1
   have e0 : W4.cell? ⟨p0 + 1 + 1, 0, none⟩ = some (.func (.func 98) #[] #[]) := hI4.q5.cell 0
   have l9 := hI4.q9.lt
   have l5 := hI4.q5.lt
   have y0 : W4.cell? ⟨p10 + 1, 0, none⟩ = some (.int .i64 blo) := t11.cell 0
   have y1 : W4.cell? ⟨p10 + 1, 1, none⟩ = some (.int .i64 bhi) := t11.cell 1
   have ly := t11.lt
   have zf := hI4.q9.frozen0
   have hI5 := hI4.set hp9 blo bhi
   have v10 : Blk ((W4.setCell ⟨p9, 0, none⟩ (.int .i64 blo)).setCell ⟨p9, 1, none⟩ (.int .i64 bhi)) p10 50 #[.int .i64 alo, .int .i64 ahi] := (t10.far (p := ⟨p9, 0, none⟩) (by show p10 ≠ p9; omega) _).far (p := ⟨p9, 1, none⟩) (by show p10 ≠ p9; omega) _
   go_upto_region 7 with fail
   generalize (W4.setCell ⟨p9, 0, none⟩ (.int .i64 blo)).setCell ⟨p9, 1, none⟩ (.int .i64 bhi) = W5 at *
   clear y0 y1 ly zf t10 t11 c0 c1 e0 l9 l5
   have y0 : W5.cell? ⟨p10, 0, none⟩ = some (.int .i64 alo) := v10.cell 0
   have y1 : W5.cell? ⟨p10, 1, none⟩ = some (.int .i64 ahi) := v10.cell 1
   have ly := v10.lt
   go_wp2_with fail
   refine (may_any s Ar Am Aw cr cm cw m F st hw HDs.out p0 (p0 + 1) (p0 + 1 + 1 + 1) r d alo ahi W5 ((hs.frM hm hI5.fr).up hI5.fr.size) hI5.hm hF hst hr hdd hab hI5.q3 hI5.q4 (by rw [HOLD.out]; exact hI5.q7)).mono ?_
   rintro e W6 ⟨rfl, m6, f6⟩
   have hI6 := hI5.frM m6 f6
   have w10 := v10.frM hI5.hm f6
   clear y0 y1 ly v10
   have y0 : W6.cell? ⟨p10, 0, none⟩ = some (.int .i64 alo) := w10.cell 0
   have y1 : W6.cell? ⟨p10, 1, none⟩ = some (.int .i64 ahi) := w10.cell 1
   have ly := w10.lt
   have zf := hI6.q9.frozen0
   have l9 := hI6.q9.lt
   have c06 : W6.cell? ⟨p9, 0, none⟩ = some (.int .i64 blo) := hI6.q9.cell 0
   have c16 : W6.cell? ⟨p9, 1, none⟩ = some (.int .i64 bhi) := hI6.q9.cell 1
   have hq := hZ ⟨alo, ahi⟩
   dsimp only at hq
   cases hB : truB (CanSt s.wo (narrowS st r d ⟨alo, ahi⟩))
   ·
    have HFd2 : Hid (FindIs Z false ⟨olo, ohi⟩ ⟨blo, bhi⟩) := Lib.hid (by have := HFd.out.no hlt (fun hz => by rw [HA.out] at hz; rw [truB_iff.2 (hq.2 hz)] at hB; cases hB); rwa [HB.out] at this)
    clear hq hB
    go_wp2_with fail
    exact ⟨_, by rw [HN.out]; exact HLS.out.2, ⟨⟨blo, bhi⟩, Lib.hid rfl, HFd2, hI6, exFrame (by kernel_rfl)⟩⟩
   ·
    have HFd2 : Hid (FindIs Z false ⟨olo, ohi⟩ ⟨alo, ahi⟩) := Lib.hid (by have := HFd.out.yes hlt (by rw [HA.out]; exact hq.1 (truB_iff.1 hB)); rwa [HA.out] at this)
    have hI7 := hI6.set hp9 alo ahi
    clear hq hB
    go_wp2_with fail
    exact ⟨_, by rw [HN.out]; exact HLS.out.1, ⟨⟨alo, ahi⟩, Lib.hid rfl, HFd2, hI7, exFrame (by kernel_rfl)⟩⟩
  ·
   have HR : Hid (lo = zlo) := Lib.hid (by have := HFd.out.done (by show hi ≤ lo; omega) hEnds; simpa using this)
   go_wp2
   go_ret
   exact ⟨by rw [HR.out]; rfl, hI.hm, hI.fr⟩
 have hp9' : ∀ V' : World, Below V.heap.size V V' → ∀ p9, V.heap.size ≤ p9 → Blk V' p9 50 #[.int .i64 olo, .int .i64 ohi] → FdI s Ar Am Aw cr cm cw m F w V' p0 p9 r d 98 ⟨olo, ohi⟩ ⟨olo, ohi⟩ := fun V' hb p9 hp hq => ⟨q0.below hb q0.lt, q1.below hb q1.lt, q2.below hb q2.lt, q3.below hb q3.lt, hq, hm4.below hb, (Fr.below hb4).trans (Fr.below hb) (fun _ _ h => h), by omega⟩
 clear hK
 have z0 : V.cell? ⟨p0 + 1 + 1 + 1, 0, none⟩ = some (.int .i64 olo) := q3.cell 0
 have z1 : V.cell? ⟨p0 + 1 + 1 + 1, 1, none⟩ = some (.int .i64 ohi) := q3.cell 1
 have lz := q3.lt
 refine wp_region_ext_tqF 8 (.quiet 0 (.quiet 1 (.quiet 2 (.quiet 3 (.fork 4 (.fork 5 (.quiet 6 (.loud 7 .done)) 7 (.loud 5 (.quiet 6 .done))) 7 (.loud 4 (.loud 5 (.quiet 6 .done)))))))) (by kernel_rfl) (by kernel_rfl) (by intro d _ _ _ _ h; cases d <;> exact h) ?_
 have D0 := (Below.refl V.heap.size V).drew
 repeat (refine tq_quiet rfl ?_; go_big_quiet_step (fail); refine wpQuiet_nil ?_)
 have hmn : min ohi 1048576 = ohi := by omega
 obtain ⟨Y, hY⟩ : ∃ Y, V.drew = Y := ⟨_, rfl⟩
 rw [hY] at D0 ⊢
 clear hY
 refine tq_fork rfl rfl ?_ ?_
 ·
  have N1 := ex_trans D0 (ex_alloc (Below.refl Y.heap.size Y) (.cells #[.int .i64 ohi, .int .i64 1048576] 3))
  have ns : Blk (Y.alloc (.cells #[.int .i64 ohi, .int .i64 1048576] 3)) Y.heap.size 3 #[.int .i64 ohi, .int .i64 1048576] := Blk.new _ _ _
  have hge1 := D0.size
  go_wp2_with fail
  obtain ⟨g1, hg1⟩ : ∃ x, Y.heap.size = x := ⟨_, rfl⟩
  rw [hg1] at hge1 ns ⊢
  skip
  generalize Y.alloc (.cells #[.int .i64 ohi, .int .i64 1048576] 3) = Z1 at *
  refine ⟨inEx N1, ?_⟩
  repeat (refine tq_quiet rfl ?_; go_big_quiet_step (fail); refine wpQuiet_nil ?_)
  refine tq_fork rfl rfl ?_ ?_
  ·
   go_wp2_with fail
   refine (least2 g1 2 ohi 1048576 Z1 (ns.cell 0) (ns.cell 1)).mono ?_
   rw [hmn]
   rintro e w' ⟨rfl, rfl⟩
   go_wp2_with fail
   refine ⟨inEx N1, ?_⟩
   repeat (refine tq_quiet rfl ?_; go_big_quiet_step (fail); refine wpQuiet_nil ?_)
   refine tq_loud rfl ?_
   have N2 := ex_trans N1 (ex_alloc (Below.refl Z1.heap.size Z1) (.cells #[.int .i64 0, .int .i64 0] 50))
   have na : Blk (Z1.alloc (.cells #[.int .i64 0, .int .i64 0] 50)) Z1.heap.size 50 #[.int .i64 0, .int .i64 0] := Blk.new _ _ _
   replace ns := ns.below (ex_alloc (Below.refl Z1.heap.size Z1) (.cells #[.int .i64 0, .int .i64 0] 50)) ns.lt
   have hge2 := N1.size
   go_wp2_with fail
   obtain ⟨g2, hg2⟩ : ∃ x, Z1.heap.size = x := ⟨_, rfl⟩
   rw [hg2] at hge2 na ⊢
   skip
   generalize Z1.alloc (.cells #[.int .i64 0, .int .i64 0] 50) = Z2 at *
   refine ⟨inEx N2, ?_⟩
   repeat (refine tq_quiet rfl ?_; go_big_quiet_step (fail); refine wpQuiet_nil ?_)
   have y0 : Z2.cell? ⟨g2, 0, none⟩ = some (.int .i64 0) := na.cell 0
   have y1 : Z2.cell? ⟨g2, 1, none⟩ = some (.int .i64 0) := na.cell 1
   have yl := na.lt
   have yf := na.frozen0
   have nq := (na.set_ 0 (.int .i64 olo)).set_ 1 (.int .i64 ohi)
   simp only [List.setIfInBounds_toArray, List.set_cons_zero, List.set_cons_succ] at nq
   have Bf := ex_set (ex_set N2 (p := ⟨g2, 0, none⟩) (by show V.heap.size ≤ g2; omega) (.int .i64 olo)) (p := ⟨g2, 1, none⟩) (by show V.heap.size ≤ g2; omega) (.int .i64 ohi)
   refine tq_done (r := [_]) rfl ?_
   go_wp2_with fail
   exact hrest _ g2 _ (hp9' _ Bf _ (by omega) nq) (exFrame (by kernel_rfl))
  ·
   have N3 := ex_trans N1 (ex_alloc (Below.refl Z1.heap.size Z1) (.cells #[.int .i64 0, .int .i64 0] 50))
   have na : Blk (Z1.alloc (.cells #[.int .i64 0, .int .i64 0] 50)) Z1.heap.size 50 #[.int .i64 0, .int .i64 0] := Blk.new _ _ _
   replace ns := ns.below (ex_alloc (Below.refl Z1.heap.size Z1) (.cells #[.int .i64 0, .int .i64 0] 50)) ns.lt
   have hge3 := N1.size
   go_wp2_with fail
   obtain ⟨g3, hg3⟩ : ∃ x, Z1.heap.size = x := ⟨_, rfl⟩
   rw [hg3] at hge3 na ⊢
   skip
   generalize Z1.alloc (.cells #[.int .i64 0, .int .i64 0] 50) = Z3 at *
   refine ⟨inEx N3, ?_⟩
   repeat (refine tq_quiet rfl ?_; go_big_quiet_step (fail); refine wpQuiet_nil ?_)
   refine tq_loud rfl ?_
   go_wp2_with fail
   refine (least2 g1 2 ohi 1048576 Z3 (ns.cell 0) (ns.cell 1)).mono ?_
   rw [hmn]
   rintro e w' ⟨rfl, rfl⟩
   go_wp2_with fail
   refine ⟨inEx N3, ?_⟩
   repeat (refine tq_quiet rfl ?_; go_big_quiet_step (fail); refine wpQuiet_nil ?_)
   have y0 : Z3.cell? ⟨g3, 0, none⟩ = some (.int .i64 0) := na.cell 0
   have y1 : Z3.cell? ⟨g3, 1, none⟩ = some (.int .i64 0) := na.cell 1
   have yl := na.lt
   have yf := na.frozen0
   have nq := (na.set_ 0 (.int .i64 olo)).set_ 1 (.int .i64 ohi)
   simp only [List.setIfInBounds_toArray, List.set_cons_zero, List.set_cons_succ] at nq
   have Bf := ex_set (ex_set N3 (p := ⟨g3, 0, none⟩) (by show V.heap.size ≤ g3; omega) (.int .i64 olo)) (p := ⟨g3, 1, none⟩) (by show V.heap.size ≤ g3; omega) (.int .i64 ohi)
   refine tq_done (r := [_]) rfl ?_
   go_wp2_with fail
   exact hrest _ g3 _ (hp9' _ Bf _ (by omega) nq) (exFrame (by kernel_rfl))
 ·
  have N4 := ex_trans D0 (ex_alloc (Below.refl Y.heap.size Y) (.cells #[.int .i64 0, .int .i64 0] 50))
  have na : Blk (Y.alloc (.cells #[.int .i64 0, .int .i64 0] 50)) Y.heap.size 50 #[.int .i64 0, .int .i64 0] := Blk.new _ _ _
  have hge4 := D0.size
  go_wp2_with fail
  obtain ⟨g4, hg4⟩ : ∃ x, Y.heap.size = x := ⟨_, rfl⟩
  rw [hg4] at hge4 na ⊢
  skip
  generalize Y.alloc (.cells #[.int .i64 0, .int .i64 0] 50) = Z4 at *
  refine ⟨inEx N4, ?_⟩
  repeat (refine tq_quiet rfl ?_; go_big_quiet_step (fail); refine wpQuiet_nil ?_)
  refine tq_loud rfl ?_
  have N5 := ex_trans N4 (ex_alloc (Below.refl Z4.heap.size Z4) (.cells #[.int .i64 ohi, .int .i64 1048576] 3))
  have ns : Blk (Z4.alloc (.cells #[.int .i64 ohi, .int .i64 1048576] 3)) Z4.heap.size 3 #[.int .i64 ohi, .int .i64 1048576] := Blk.new _ _ _
  replace na := na.below (ex_alloc (Below.refl Z4.heap.size Z4) (.cells #[.int .i64 ohi, .int .i64 1048576] 3)) na.lt
  have hge5 := N4.size
  go_wp2_with fail
  obtain ⟨g5, hg5⟩ : ∃ x, Z4.heap.size = x := ⟨_, rfl⟩
  rw [hg5] at hge5 ns ⊢
  skip
  generalize Z4.alloc (.cells #[.int .i64 ohi, .int .i64 1048576] 3) = Z5 at *
  refine ⟨inEx N5, ?_⟩
  repeat (refine tq_quiet rfl ?_; go_big_quiet_step (fail); refine wpQuiet_nil ?_)
  refine tq_loud rfl ?_
  go_wp2_with fail
  refine (least2 g5 2 ohi 1048576 Z5 (ns.cell 0) (ns.cell 1)).mono ?_
  rw [hmn]
  rintro e w' ⟨rfl, rfl⟩
  go_wp2_with fail
  refine ⟨inEx N5, ?_⟩
  repeat (refine tq_quiet rfl ?_; go_big_quiet_step (fail); refine wpQuiet_nil ?_)
  have y0 : Z5.cell? ⟨g4, 0, none⟩ = some (.int .i64 0) := na.cell 0
  have y1 : Z5.cell? ⟨g4, 1, none⟩ = some (.int .i64 0) := na.cell 1
  have yl := na.lt
  have yf := na.frozen0
  have nq := (na.set_ 0 (.int .i64 olo)).set_ 1 (.int .i64 ohi)
  simp only [List.setIfInBounds_toArray, List.set_cons_zero, List.set_cons_succ] at nq
  have Bf := ex_set (ex_set N5 (p := ⟨g4, 0, none⟩) (by show V.heap.size ≤ g4; omega) (.int .i64 olo)) (p := ⟨g4, 1, none⟩) (by show V.heap.size ≤ g4; omega) (.int .i64 ohi)
  refine tq_done (r := [_]) rfl ?_
  go_wp2_with fail
  exact hrest _ g4 _ (hp9' _ Bf _ (by omega) nq) (exFrame (by kernel_rfl))
set_option maxRecDepth 100000 in
set_option maxHeartbeats 3200000 in
theorem find_hi (s : Ws) (Ar Am Aw : Option Addr) (cr cm cw : Nat) (w : World) (hs : WsIn w w.heap.size s Ar Am Aw) (m : Nat) (F : Spot → Option Rg) (st : Sts) (hw : WoOk s.wo) (hd : s.days = (s.wo.days : Int)) (hm : StMp w m F) (hF : StAll F st s.rooms.length s.wo.days) (hst : StsOk st) (r d : Nat) (hr : r < s.rooms.length) (hdd : d < s.wo.days) (Z : Int → Prop) (zlo zhi : Int) (hEnds : EndsOf Z zlo zhi)
  (hZ : ∀ g : Rg, CanSt s.wo (narrowS st r d g) ↔ ∃ z, Z z ∧ g.lo ≤ z ∧ z ≤ g.hi) (hin : ∀ z, Z z → inR z (st r d)) :
  Calls Try.prog 97 #[.agg #[.slice Ar s.rooms.length cr, .int .i64 s.days, .slice Am s.moves.length cm, .slice Aw s.wgs.length cw, .map (some m)], cSp ((r : Int), (d : Int)), .agg #[.func (.func 99) #[] #[]]] w fun e w' => e = .returned (.int .i64 zhi) ∧ StMp w' m F ∧ Fr (fun b => b = m) w w' := by
 have hzin : if true = true then (st r d).lo ≤ zhi ∧ zhi ≤ (st r d).hi else (st r d).lo ≤ zlo ∧ zlo ≤ (st r d).hi := by
  have h1 := hin _ hEnds.1
  have h2 := hin _ hEnds.2.1
  simpa [inR] using h2
 unfold cSp
 obtain ⟨⟨olo, ohi⟩, hold⟩ : ∃ x, st r d = x := ⟨_, rfl⟩
 have hso := hst r d
 have hF0 := hF r d hr hdd
 rw [hold] at hF0 hso
 have hlk0 := MpIs.at_ (et := 50) Try.underlying151 cSp_fd (hm.below (ex_alloc (ex_alloc (ex_alloc (Below.refl w.heap.size w) (.cells #[.slice Ar s.rooms.length cr, .int .i64 s.days, .slice Am s.moves.length cm, .slice Aw s.wgs.length cw, .map (some m)] 153)) (.cells #[.int .i64 (r : Int), .int .i64 (d : Int)] 169)) (.cells #[.func (.func 99) #[] #[]] 174))) ((r : Int), (d : Int)) hF0
 unfold cSp cRg at hlk0
 have HDs := Lib.hid hd
 have HOLD := Lib.hid hold
 clear hd hold hF0
 dsimp only at hso
 have hb4 := ex_alloc (ex_alloc (ex_alloc (ex_alloc (Below.refl w.heap.size w) (.cells #[.slice Ar s.rooms.length cr, .int .i64 s.days, .slice Am s.moves.length cm, .slice Aw s.wgs.length cw, .map (some m)] 153)) (.cells #[.int .i64 (r : Int), .int .i64 (d : Int)] 169)) (.cells #[.func (.func 99) #[] #[]] 174)) (.cells #[.int .i64 olo, .int .i64 ohi] 50)
 go_enter Try.func97, Try.ntmps97
 go_upto_region 3 with fail
 clear hlk0
 have q0 : Blk ((((w.alloc (.cells #[.slice Ar s.rooms.length cr, .int .i64 s.days, .slice Am s.moves.length cm, .slice Aw s.wgs.length cw, .map (some m)] 153)).alloc (.cells #[.int .i64 (r : Int), .int .i64 (d : Int)] 169)).alloc (.cells #[.func (.func 99) #[] #[]] 174)).alloc (.cells #[.int .i64 olo, .int .i64 ohi] 50)) (w.heap.size) 153 #[.slice Ar s.rooms.length cr, .int .i64 s.days, .slice Am s.moves.length cm, .slice Aw s.wgs.length cw, .map (some m)] := (((Blk.new' _ _ _ (by simp)).alloc _).alloc _).alloc _
 have q1 : Blk ((((w.alloc (.cells #[.slice Ar s.rooms.length cr, .int .i64 s.days, .slice Am s.moves.length cm, .slice Aw s.wgs.length cw, .map (some m)] 153)).alloc (.cells #[.int .i64 (r : Int), .int .i64 (d : Int)] 169)).alloc (.cells #[.func (.func 99) #[] #[]] 174)).alloc (.cells #[.int .i64 olo, .int .i64 ohi] 50)) (w.heap.size + 1) 169 #[.int .i64 (r : Int), .int .i64 (d : Int)] := ((Blk.new' _ _ _ (by simp)).alloc _).alloc _
 have q2 : Blk ((((w.alloc (.cells #[.slice Ar s.rooms.length cr, .int .i64 s.days, .slice Am s.moves.length cm, .slice Aw s.wgs.length cw, .map (some m)] 153)).alloc (.cells #[.int .i64 (r : Int), .int .i64 (d : Int)] 169)).alloc (.cells #[.func (.func 99) #[] #[]] 174)).alloc (.cells #[.int .i64 olo, .int .i64 ohi] 50)) (w.heap.size + 1 + 1) 174 #[.func (.func 99) #[] #[]] := (Blk.new' _ _ _ (by simp)).alloc _
 have q3 : Blk ((((w.alloc (.cells #[.slice Ar s.rooms.length cr, .int .i64 s.days, .slice Am s.moves.length cm, .slice Aw s.wgs.length cw, .map (some m)] 153)).alloc (.cells #[.int .i64 (r : Int), .int .i64 (d : Int)] 169)).alloc (.cells #[.func (.func 99) #[] #[]] 174)).alloc (.cells #[.int .i64 olo, .int .i64 ohi] 50)) (w.heap.size + 1 + 1 + 1) 50 #[.int .i64 olo, .int .i64 ohi] := Blk.new' _ _ _ (by simp)
 show Code.wp _ _ _ _ ((((w.alloc (.cells #[.slice Ar s.rooms.length cr, .int .i64 s.days, .slice Am s.moves.length cm, .slice Aw s.wgs.length cw, .map (some m)] 153)).alloc (.cells #[.int .i64 (r : Int), .int .i64 (d : Int)] 169)).alloc (.cells #[.func (.func 99) #[] #[]] 174)).alloc (.cells #[.int .i64 olo, .int .i64 ohi] 50))
 have hm4 := hm.below hb4
 have hz4 : ((((w.alloc (.cells #[.slice Ar s.rooms.length cr, .int .i64 s.days, .slice Am s.moves.length cm, .slice Aw s.wgs.length cw, .map (some m)] 153)).alloc (.cells #[.int .i64 (r : Int), .int .i64 (d : Int)] 169)).alloc (.cells #[.func (.func 99) #[] #[]] 174)).alloc (.cells #[.int .i64 olo, .int .i64 ohi] 50)).heap.size = w.heap.size + 1 + 1 + 1 + 1 := by simp
 generalize (((w.alloc (.cells #[.slice Ar s.rooms.length cr, .int .i64 s.days, .slice Am s.moves.length cm, .slice Aw s.wgs.length cw, .map (some m)] 153)).alloc (.cells #[.int .i64 (r : Int), .int .i64 (d : Int)] 169)).alloc (.cells #[.func (.func 99) #[] #[]] 174)).alloc (.cells #[.int .i64 olo, .int .i64 ohi] 50) = V at *
 obtain ⟨p0, hp0⟩ : ∃ p, w.heap.size = p := ⟨_, rfl⟩
 rw [hp0] at q0 q1 q2 q3 hz4 ⊢
 have HP0 := Lib.hid hp0
 clear hp0
 rename_i Q' K hK
 have hrest : ∀ (W : World) (p9 : Nat) (a : Act), FdI s Ar Am Aw cr cm cw m F w W p0 p9 r d 99 ⟨olo, ohi⟩ ⟨olo, ohi⟩ → (∃ u : Nat → Value, a = ⟨List.toArray (u 0 :: u 1 :: u 2 :: .pointer (some ⟨p0, 0, none⟩) :: .pointer (some ⟨p0 + 1, 0, none⟩) :: .pointer (some ⟨p0 + 1 + 1, 0, none⟩) :: .int .i64 0 :: .pointer (some ⟨p0 + 1 + 1 + 1, 0, none⟩) :: .func (.func 120) #[] #[.pointer (some ⟨p0, 0, none⟩), .pointer (some ⟨p0 + 1, 0, none⟩), .pointer (some ⟨p0 + 1 + 1 + 1, 0, none⟩)] :: .pointer (some ⟨p9, 0, none⟩) :: u 10 :: u 11 :: u 12 :: u 13 :: u 14 :: u 15 :: u 16 :: u 17 :: u 18 :: u 19 :: u 20 :: u 21 :: u 22 :: u 23 :: u 24 :: u 25 :: u 26 :: u 27 :: u 28 :: u 29 :: u 30 :: u 31 :: u 32 :: u 33 :: u 34 :: u 35 :: u 36 :: u 37 :: u 38 :: u 39 :: u 40 :: u 41 :: u 42 :: []), []⟩) → K a W := by
  rintro W p9 a hI ⟨u, rfl⟩
  refine hK _ _ ?_
  clear hK q0 q1 q2 q3 hm4 hb4 hz4 V
  go_wp2_with fail
  refine wp_loop_ghost (fun n a W => Rel (fun a W => ∃ rg, Hid (n = (rg.hi - rg.lo).toNat) ∧ Hid (FindIs Z true ⟨olo, ohi⟩ rg) ∧ FdI s Ar Am Aw cr cm cw m F w W p0 p9 r d 99 ⟨olo, ohi⟩ rg ∧ ∃ u : Nat → Value, a = ⟨List.toArray (u 0 :: u 1 :: u 2 :: .pointer (some ⟨p0, 0, none⟩) :: .pointer (some ⟨p0 + 1, 0, none⟩) :: .pointer (some ⟨p0 + 1 + 1, 0, none⟩) :: .int .i64 0 :: .pointer (some ⟨p0 + 1 + 1 + 1, 0, none⟩) :: .func (.func 120) #[] #[.pointer (some ⟨p0, 0, none⟩), .pointer (some ⟨p0 + 1, 0, none⟩), .pointer (some ⟨p0 + 1 + 1 + 1, 0, none⟩)] :: .pointer (some ⟨p9, 0, none⟩) :: u 10 :: u 11 :: u 12 :: u 13 :: u 14 :: u 15 :: u 16 :: u 17 :: u 18 :: u 19 :: u 20 :: u 21 :: u 22 :: u 23 :: u 24 :: u 25 :: u 26 :: u 27 :: u 28 :: u 29 :: u 30 :: u 31 :: u 32 :: u 33 :: u 34 :: u 35 :: u 36 :: u 37 :: u 38 :: u 39 :: u 40 :: u 41 :: u 42 :: []), []⟩) a W) _ ⟨⟨⟨olo, ohi⟩, Lib.hid rfl, Lib.hid ⟨⟨Int.le_refl _, Int.le_refl _⟩, zlo, zhi, hEnds, by have := hzin; rw [HOLD.out] at this; exact this⟩, hI, exFrame (by kernel_rfl)⟩⟩ ?_
  clear hI
  rintro n a W1 ⟨⟨⟨lo, hi⟩, HN, HFd, hI, u1, rfl⟩⟩
  have hle := HFd.out.le
  have hsub := HFd.out.sub
  dsimp only at hle hsub
  have c0 : W1.cell? ⟨p9, 0, none⟩ = some (.int .i64 lo) := hI.q9.cell 0
  have c1 : W1.cell? ⟨p9, 1, none⟩ = some (.int .i64 hi) := hI.q9.cell 1
  have e0 : W1.cell? ⟨p0 + 1 + 1, 0, none⟩ = some (.func (.func 99) #[] #[]) := hI.q5.cell 0
  have l9 := hI.q9.lt
  have l5 := hI.q5.lt
  have hp9 : w.heap.size ≤ p9 := by have := hI.far; rw [HP0.out]; omega
  by_cases hlt : lo < hi
  ·
   go_wp2_with fail
   refine (upper_any lo hi W1 (by omega)).mono ?_
   rintro e W2 ⟨rfl, h2⟩
   have hI2 := hI.below h2
   obtain ⟨⟨alo, ahi⟩, hA⟩ : ∃ x, halfA true ⟨lo, hi⟩ = x := ⟨_, rfl⟩
   obtain ⟨⟨blo, bhi⟩, hB⟩ : ∃ x, halfB true ⟨lo, hi⟩ = x := ⟨_, rfl⟩
   rw [hA, hB]
   have hless := half_less (up := true) (r := ⟨lo, hi⟩) hlt
   have hsa := HFd.out.subA hlt
   rw [hA] at hsa hless
   rw [hB] at hless
   dsimp only at hsa hless
   have hab : 0 ≤ alo ∧ alo ≤ 1048576 ∧ 0 ≤ ahi ∧ ahi ≤ 1048576 := by
    have h1 : (halfA true ⟨lo, hi⟩).lo = alo := by rw [hA]
    have h2 : (halfA true ⟨lo, hi⟩).hi = ahi := by rw [hA]
    simp only [halfA, if_true, Bool.false_eq_true, if_false] at h1 h2
    omega
   have HA := Lib.hid hA
   have HB := Lib.hid hB
   have HLS := Lib.hid hless
   clear hA hB hless hsa c0 c1 e0 l9 l5
   have B4 := ex_alloc (ex_alloc (Below.refl W2.heap.size W2) (.cells #[.int .i64 alo, .int .i64 ahi] 50)) (.cells #[.int .i64 blo, .int .i64 bhi] 50)
   have hI4 := hI2.below B4
   have t10 : Blk ((W2.alloc (.cells #[.int .i64 alo, .int .i64 ahi] 50)).alloc (.cells #[.int .i64 blo, .int .i64 bhi] 50)) W2.heap.size 50 #[.int .i64 alo, .int .i64 ahi] := (Blk.new _ _ _).alloc _
   have t11 : Blk ((W2.alloc (.cells #[.int .i64 alo, .int .i64 ahi] 50)).alloc (.cells #[.int .i64 blo, .int .i64 bhi] 50)) (W2.heap.size + 1) 50 #[.int .i64 blo, .int .i64 bhi] := Blk.new' _ _ _ (by simp)
   go_upto_region 6 with fail
   show Code.wp _ _ _ _ ((W2.alloc (.cells #[.int .i64 alo, .int .i64 ahi] 50)).alloc (.cells #[.int .i64 blo, .int .i64 bhi] 50))
   have hz4 : p9 < W2.heap.size := hI2.q9.lt
   generalize (W2.alloc (.cells #[.int .i64 alo, .int .i64 ahi] 50)).alloc (.cells #[.int .i64 blo, .int .i64 bhi] 50) = W4 at *
   generalize W2.heap.size = p10 at *
   have c0 : W4.cell? ⟨p9, 0, none⟩ = some (.int .i64 lo) := hI4.q9.cell 0
   have c1 : W4.cell? ⟨p9, 1, none⟩ = some (.int .i64 hi) := hI4.q9.cell 1
   have e0 : W4.cell? ⟨p0 + 1 + 1, 0, none⟩ = some (.func (.func 99) #[] #[]) := hI4.q5.cell 0
   have l9 := hI4.q9.lt
   have l5 := hI4.q5.lt
   have y0 : W4.cell? ⟨p10 + 1, 0, none⟩ = some (.int .i64 blo) := t11.cell 0
   have y1 : W4.cell? ⟨p10 + 1, 1, none⟩ = some (.int .i64 bhi) := t11.cell 1
   have ly := t11.lt
   have zf := hI4.q9.frozen0
   have hI5 := hI4.set hp9 blo bhi
   have v10 : Blk ((W4.setCell ⟨p9, 0, none⟩ (.int .i64 blo)).setCell ⟨p9, 1, none⟩ (.int .i64 bhi)) p10 50 #[.int .i64 alo, .int .i64 ahi] := (t10.far (p := ⟨p9, 0, none⟩) (by show p10 ≠ p9; omega) _).far (p := ⟨p9, 1, none⟩) (by show p10 ≠ p9; omega) _
   go_upto_region 7 with fail
   generalize (W4.setCell ⟨p9, 0, none⟩ (.int .i64 blo)).setCell ⟨p9, 1, none⟩ (.int .i64 bhi) = W5 at *
   clear y0 y1 ly zf t10 t11 c0 c1 e0 l9 l5
   have y0 : W5.cell? ⟨p10, 0, none⟩ = some (.int .i64 alo) := v10.cell 0
   have y1 : W5.cell? ⟨p10, 1, none⟩ = some (.int .i64 ahi) := v10.cell 1
   have ly := v10.lt
   go_wp2_with fail
   refine (may_any s Ar Am Aw cr cm cw m F st hw HDs.out p0 (p0 + 1) (p0 + 1 + 1 + 1) r d alo ahi W5 ((hs.frM hm hI5.fr).up hI5.fr.size) hI5.hm hF hst hr hdd hab hI5.q3 hI5.q4 (by rw [HOLD.out]; exact hI5.q7)).mono ?_
   rintro e W6 ⟨rfl, m6, f6⟩
   have hI6 := hI5.frM m6 f6
   have w10 := v10.frM hI5.hm f6
   clear y0 y1 ly v10
   have y0 : W6.cell? ⟨p10, 0, none⟩ = some (.int .i64 alo) := w10.cell 0
   have y1 : W6.cell? ⟨p10, 1, none⟩ = some (.int .i64 ahi) := w10.cell 1
   have ly := w10.lt
   have zf := hI6.q9.frozen0
   have l9 := hI6.q9.lt
   have c06 : W6.cell? ⟨p9, 0, none⟩ = some (.int .i64 blo) := hI6.q9.cell 0
   have c16 : W6.cell? ⟨p9, 1, none⟩ = some (.int .i64 bhi) := hI6.q9.cell 1
   have hq := hZ ⟨alo, ahi⟩
   dsimp only at hq
   cases hB : truB (CanSt s.wo (narrowS st r d ⟨alo, ahi⟩))
   ·
    have HFd2 : Hid (FindIs Z true ⟨olo, ohi⟩ ⟨blo, bhi⟩) := Lib.hid (by have := HFd.out.no hlt (fun hz => by rw [HA.out] at hz; rw [truB_iff.2 (hq.2 hz)] at hB; cases hB); rwa [HB.out] at this)
    clear hq hB
    go_wp2_with fail
    exact ⟨_, by rw [HN.out]; exact HLS.out.2, ⟨⟨blo, bhi⟩, Lib.hid rfl, HFd2, hI6, exFrame (by kernel_rfl)⟩⟩
   ·
    have HFd2 : Hid (FindIs Z true ⟨olo, ohi⟩ ⟨alo, ahi⟩) := Lib.hid (by have := HFd.out.yes hlt (by rw [HA.out]; exact hq.1 (truB_iff.1 hB)); rwa [HA.out] at this)
    have hI7 := hI6.set hp9 alo ahi
    clear hq hB
    go_wp2_with fail
    exact ⟨_, by rw [HN.out]; exact HLS.out.1, ⟨⟨alo, ahi⟩, Lib.hid rfl, HFd2, hI7, exFrame (by kernel_rfl)⟩⟩
  ·
   have HR : Hid (lo = zhi) := Lib.hid (by have := HFd.out.done (by show hi ≤ lo; omega) hEnds; simpa using this)
   go_wp2
   go_ret
   exact ⟨by rw [HR.out]; rfl, hI.hm, hI.fr⟩
 have hp9' : ∀ V' : World, Below V.heap.size V V' → ∀ p9, V.heap.size ≤ p9 → Blk V' p9 50 #[.int .i64 olo, .int .i64 ohi] → FdI s Ar Am Aw cr cm cw m F w V' p0 p9 r d 99 ⟨olo, ohi⟩ ⟨olo, ohi⟩ := fun V' hb p9 hp hq => ⟨q0.below hb q0.lt, q1.below hb q1.lt, q2.below hb q2.lt, q3.below hb q3.lt, hq, hm4.below hb, (Fr.below hb4).trans (Fr.below hb) (fun _ _ h => h), by omega⟩
 clear hK
 have z0 : V.cell? ⟨p0 + 1 + 1 + 1, 0, none⟩ = some (.int .i64 olo) := q3.cell 0
 have z1 : V.cell? ⟨p0 + 1 + 1 + 1, 1, none⟩ = some (.int .i64 ohi) := q3.cell 1
 have lz := q3.lt
 refine wp_region_ext_tqF 8 (.quiet 0 (.quiet 1 (.quiet 2 (.quiet 3 (.fork 4 (.fork 5 (.quiet 6 (.loud 7 .done)) 7 (.loud 5 (.quiet 6 .done))) 7 (.loud 4 (.loud 5 (.quiet 6 .done)))))))) (by kernel_rfl) (by kernel_rfl) (by intro d _ _ _ _ h; cases d <;> exact h) ?_
 have D0 := (Below.refl V.heap.size V).drew
 repeat (refine tq_quiet rfl ?_; go_big_quiet_step (fail); refine wpQuiet_nil ?_)
 have hmn : min ohi 1048576 = ohi := by omega
 obtain ⟨Y, hY⟩ : ∃ Y, V.drew = Y := ⟨_, rfl⟩
 rw [hY] at D0 ⊢
 clear hY
 refine tq_fork rfl rfl ?_ ?_
 ·
  have N1 := ex_trans D0 (ex_alloc (Below.refl Y.heap.size Y) (.cells #[.int .i64 ohi, .int .i64 1048576] 3))
  have ns : Blk (Y.alloc (.cells #[.int .i64 ohi, .int .i64 1048576] 3)) Y.heap.size 3 #[.int .i64 ohi, .int .i64 1048576] := Blk.new _ _ _
  have hge1 := D0.size
  go_wp2_with fail
  obtain ⟨g1, hg1⟩ : ∃ x, Y.heap.size = x := ⟨_, rfl⟩
  rw [hg1] at hge1 ns ⊢
  skip
  generalize Y.alloc (.cells #[.int .i64 ohi, .int .i64 1048576] 3) = Z1 at *
  refine ⟨inEx N1, ?_⟩
  repeat (refine tq_quiet rfl ?_; go_big_quiet_step (fail); refine wpQuiet_nil ?_)
  refine tq_fork rfl rfl ?_ ?_
  ·
   go_wp2_with fail
   refine (least2 g1 2 ohi 1048576 Z1 (ns.cell 0) (ns.cell 1)).mono ?_
   rw [hmn]
   rintro e w' ⟨rfl, rfl⟩
   go_wp2_with fail
   refine ⟨inEx N1, ?_⟩
   repeat (refine tq_quiet rfl ?_; go_big_quiet_step (fail); refine wpQuiet_nil ?_)
   refine tq_loud rfl ?_
   have N2 := ex_trans N1 (ex_alloc (Below.refl Z1.heap.size Z1) (.cells #[.int .i64 0, .int .i64 0] 50))
   have na : Blk (Z1.alloc (.cells #[.int .i64 0, .int .i64 0] 50)) Z1.heap.size 50 #[.int .i64 0, .int .i64 0] := Blk.new _ _ _
   replace ns := ns.below (ex_alloc (Below.refl Z1.heap.size Z1) (.cells #[.int .i64 0, .int .i64 0] 50)) ns.lt
   have hge2 := N1.size
   go_wp2_with fail
   obtain ⟨g2, hg2⟩ : ∃ x, Z1.heap.size = x := ⟨_, rfl⟩
   rw [hg2] at hge2 na ⊢
   skip
   generalize Z1.alloc (.cells #[.int .i64 0, .int .i64 0] 50) = Z2 at *
   refine ⟨inEx N2, ?_⟩
   repeat (refine tq_quiet rfl ?_; go_big_quiet_step (fail); refine wpQuiet_nil ?_)
   have y0 : Z2.cell? ⟨g2, 0, none⟩ = some (.int .i64 0) := na.cell 0
   have y1 : Z2.cell? ⟨g2, 1, none⟩ = some (.int .i64 0) := na.cell 1
   have yl := na.lt
   have yf := na.frozen0
   have nq := (na.set_ 0 (.int .i64 olo)).set_ 1 (.int .i64 ohi)
   simp only [List.setIfInBounds_toArray, List.set_cons_zero, List.set_cons_succ] at nq
   have Bf := ex_set (ex_set N2 (p := ⟨g2, 0, none⟩) (by show V.heap.size ≤ g2; omega) (.int .i64 olo)) (p := ⟨g2, 1, none⟩) (by show V.heap.size ≤ g2; omega) (.int .i64 ohi)
   refine tq_done (r := [_]) rfl ?_
   go_wp2_with fail
   exact hrest _ g2 _ (hp9' _ Bf _ (by omega) nq) (exFrame (by kernel_rfl))
  ·
   have N3 := ex_trans N1 (ex_alloc (Below.refl Z1.heap.size Z1) (.cells #[.int .i64 0, .int .i64 0] 50))
   have na : Blk (Z1.alloc (.cells #[.int .i64 0, .int .i64 0] 50)) Z1.heap.size 50 #[.int .i64 0, .int .i64 0] := Blk.new _ _ _
   replace ns := ns.below (ex_alloc (Below.refl Z1.heap.size Z1) (.cells #[.int .i64 0, .int .i64 0] 50)) ns.lt
   have hge3 := N1.size
   go_wp2_with fail
   obtain ⟨g3, hg3⟩ : ∃ x, Z1.heap.size = x := ⟨_, rfl⟩
   rw [hg3] at hge3 na ⊢
   skip
   generalize Z1.alloc (.cells #[.int .i64 0, .int .i64 0] 50) = Z3 at *
   refine ⟨inEx N3, ?_⟩
   repeat (refine tq_quiet rfl ?_; go_big_quiet_step (fail); refine wpQuiet_nil ?_)
   refine tq_loud rfl ?_
   go_wp2_with fail
   refine (least2 g1 2 ohi 1048576 Z3 (ns.cell 0) (ns.cell 1)).mono ?_
   rw [hmn]
   rintro e w' ⟨rfl, rfl⟩
   go_wp2_with fail
   refine ⟨inEx N3, ?_⟩
   repeat (refine tq_quiet rfl ?_; go_big_quiet_step (fail); refine wpQuiet_nil ?_)
   have y0 : Z3.cell? ⟨g3, 0, none⟩ = some (.int .i64 0) := na.cell 0
   have y1 : Z3.cell? ⟨g3, 1, none⟩ = some (.int .i64 0) := na.cell 1
   have yl := na.lt
   have yf := na.frozen0
   have nq := (na.set_ 0 (.int .i64 olo)).set_ 1 (.int .i64 ohi)
   simp only [List.setIfInBounds_toArray, List.set_cons_zero, List.set_cons_succ] at nq
   have Bf := ex_set (ex_set N3 (p := ⟨g3, 0, none⟩) (by show V.heap.size ≤ g3; omega) (.int .i64 olo)) (p := ⟨g3, 1, none⟩) (by show V.heap.size ≤ g3; omega) (.int .i64 ohi)
   refine tq_done (r := [_]) rfl ?_
   go_wp2_with fail
   exact hrest _ g3 _ (hp9' _ Bf _ (by omega) nq) (exFrame (by kernel_rfl))
 ·
  have N4 := ex_trans D0 (ex_alloc (Below.refl Y.heap.size Y) (.cells #[.int .i64 0, .int .i64 0] 50))
  have na : Blk (Y.alloc (.cells #[.int .i64 0, .int .i64 0] 50)) Y.heap.size 50 #[.int .i64 0, .int .i64 0] := Blk.new _ _ _
  have hge4 := D0.size
  go_wp2_with fail
  obtain ⟨g4, hg4⟩ : ∃ x, Y.heap.size = x := ⟨_, rfl⟩
  rw [hg4] at hge4 na ⊢
  skip
  generalize Y.alloc (.cells #[.int .i64 0, .int .i64 0] 50) = Z4 at *
  refine ⟨inEx N4, ?_⟩
  repeat (refine tq_quiet rfl ?_; go_big_quiet_step (fail); refine wpQuiet_nil ?_)
  refine tq_loud rfl ?_
  have N5 := ex_trans N4 (ex_alloc (Below.refl Z4.heap.size Z4) (.cells #[.int .i64 ohi, .int .i64 1048576] 3))
  have ns : Blk (Z4.alloc (.cells #[.int .i64 ohi, .int .i64 1048576] 3)) Z4.heap.size 3 #[.int .i64 ohi, .int .i64 1048576] := Blk.new _ _ _
  replace na := na.below (ex_alloc (Below.refl Z4.heap.size Z4) (.cells #[.int .i64 ohi, .int .i64 1048576] 3)) na.lt
  have hge5 := N4.size
  go_wp2_with fail
  obtain ⟨g5, hg5⟩ : ∃ x, Z4.heap.size = x := ⟨_, rfl⟩
  rw [hg5] at hge5 ns ⊢
  skip
  generalize Z4.alloc (.cells #[.int .i64 ohi, .int .i64 1048576] 3) = Z5 at *
  refine ⟨inEx N5, ?_⟩
  repeat (refine tq_quiet rfl ?_; go_big_quiet_step (fail); refine wpQuiet_nil ?_)
  refine tq_loud rfl ?_
  go_wp2_with fail
  refine (least2 g5 2 ohi 1048576 Z5 (ns.cell 0) (ns.cell 1)).mono ?_
  rw [hmn]
  rintro e w' ⟨rfl, rfl⟩
  go_wp2_with fail
  refine ⟨inEx N5, ?_⟩
  repeat (refine tq_quiet rfl ?_; go_big_quiet_step (fail); refine wpQuiet_nil ?_)
  have y0 : Z5.cell? ⟨g4, 0, none⟩ = some (.int .i64 0) := na.cell 0
  have y1 : Z5.cell? ⟨g4, 1, none⟩ = some (.int .i64 0) := na.cell 1
  have yl := na.lt
  have yf := na.frozen0
  have nq := (na.set_ 0 (.int .i64 olo)).set_ 1 (.int .i64 ohi)
  simp only [List.setIfInBounds_toArray, List.set_cons_zero, List.set_cons_succ] at nq
  have Bf := ex_set (ex_set N5 (p := ⟨g4, 0, none⟩) (by show V.heap.size ≤ g4; omega) (.int .i64 olo)) (p := ⟨g4, 1, none⟩) (by show V.heap.size ≤ g4; omega) (.int .i64 ohi)
  refine tq_done (r := [_]) rfl ?_
  go_wp2_with fail
  exact hrest _ g4 _ (hp9' _ Bf _ (by omega) nq) (exFrame (by kernel_rfl))
end Go.Proofs.Ythihdiilokdidaa
end

section
namespace Go.Proofs.Ythihdiilokdidaa
open Go.RowKit
attribute [local go_sem] Ex.cell? Ex.frozen? Gx.cell?

theorem own_push {α : Type} {f : α → List Value} {w : World} {base : Nat} {e : TypeId} {sz n : Nat} {v : Value} {l : List α} {x : α} (hn : n = l.length + 1) (h : w.ownsRow base e sz v n (l.flatMap f ++ f x)) : w.ownsRow base e sz v (l ++ [x]).length ((l ++ [x]).flatMap f) := by
  subst hn
  rw [List.flatMap_append, List.length_append]
  simpa using h
noncomputable def rngOf (Z : Int → Prop) : Rg := open Classical in if h : ∃ r : Rg, EndsOf Z r.lo r.hi then h.choose else ⟨0, 0⟩
theorem rngOf_eq {Z : Int → Prop} {lo hi : Int} (h : EndsOf Z lo hi) : rngOf Z = ⟨lo, hi⟩ := by
  have hx : ∃ r : Rg, EndsOf Z r.lo r.hi := ⟨⟨lo, hi⟩, h⟩
  unfold rngOf
  rw [dif_pos hx]
  obtain ⟨h1, h2, h3⟩ := hx.choose_spec
  obtain ⟨g1, g2, g3⟩ := h
  have a1 := h3 _ g1
  have a2 := h3 _ g2
  have b1 := g3 _ h1
  have b2 := g3 _ h2
  cases hc : hx.choose with
  | mk a b =>
    rw [hc] at a1 a2 b1 b2
    dsimp only at a1 a2 b1 b2
    have e1 : a = lo := by omega
    have e2 : b = hi := by omega
    rw [e1, e2]
theorem grown_frM {W W' : World} {m : Nat} (hf : Fr (fun b => b = m) W W') : W.grownBy W' (some m) := ⟨hf.os, hf.tape, hf.output, hf.size, fun k hk hn => hf.block k hk (fun e => hn (by rw [e]))⟩
def off0 : Nat → Bool := fun _ => false
def Good (w : Wo) (out : Nat → Bool) : Prop := ∃ F V G, GoodF w out F V G
noncomputable def stkR (w : Wo) (out : Nat → Bool) (r d : Nat) : Rg := rngOf (StkZ w out r d)
theorem good_ends {w : Wo} {out : Nat → Bool} (hw : WoOk w) (h : Good w out) {r d : Nat} (hr : r < w.rooms.length) (hd : d < w.days) : EndsOf (StkZ w out r d) (stkR w out r d).lo (stkR w out r d).hi := by
  obtain ⟨F, V, G, hg⟩ := h
  obtain ⟨lo, hi, he⟩ := least_of (Z := StkZ w out r d) (a := (stW w.wgs out w.wgs.length r d).lo) (b := (stW w.wgs out w.wgs.length r d).hi) (fun z hz => stk_in hw hr hd hz) ⟨_, F, V, G, hg, rfl⟩
  unfold stkR
  rw [rngOf_eq he]
  exact he
def fRg (L : Nat → Rg) : Nat → Nat → Value := fun d j => match j with | 0 => .int .i64 (L d).lo | _ => .int .i64 (L d).hi
structure RgsIn (w : World) (B : Nat) (A : Option Addr) (n D : Nat) (L : Nat → Nat → Rg) (rA : Nat → Option Addr) (rc : Nat → Nat) : Prop where
  out : SlAt w B 1 A n (fun k _ => .slice (rA k) D (rc k))
  row : ∀ k, k < n → SlAt w B 2 (rA k) D (fRg (L k))
theorem RgsIn.go {w w' : World} {A : Option Addr} {n D : Nat} {L : Nat → Nat → Rg} {rA : Nat → Option Addr} {rc : Nat → Nat} (h : RgsIn w w.heap.size A n D L rA rc) (hb : Below w.heap.size w w') : RgsIn w' w'.heap.size A n D L rA rc :=
  ⟨(h.out.below hb).up hb.size, fun k hk => ((h.row k hk).below hb).up hb.size⟩
abbrev RRow := Option Addr × Nat × List Rg
def cRR (x : RRow) : List Value := [.slice x.1 x.2.2.length x.2.1]
def cR2 (r : Rg) : List Value := [.int .i64 r.lo, .int .i64 r.hi]
abbrev ROwn (W : World) (B : Nat) (v : Value) (X : List RRow) : Prop := NOwn 48 1 50 2 cRR (fun x => x.1) (fun x => x.2.2.length) (fun x => fR x.2.2) W B v X
theorem ROwn.row {W : World} {B : Nat} {v : Value} {X : List RRow} (h : ROwn W B v X) : ∃ A c, v = .slice A X.length c := by
  obtain ⟨A, c, e⟩ := own_form h.own
  exact ⟨A, c, e⟩
theorem ROwn.lays {W : World} {B n D : Nat} {v : Value} {X : List RRow} {L : Nat → Nat → Rg} (h : ROwn W B v X) (hX : X.map (fun x => x.2.2) = (List.range n).map fun r => (List.range D).map (L r)) : ∃ A c rA rc, v = .slice A n c ∧ RgsIn W W.heap.size A n D L rA rc := by
  have hl : X.length = n := by have := congrArg List.length hX; simpa using this
  obtain ⟨A, c, e⟩ := h.row
  have hx : ∀ (k : Nat) (hk : k < X.length), (X[k]).2.2 = (List.range D).map (L k) := fun k hk => by
    have h1 : (X.map (fun x => x.2.2))[k]? = some (X[k]).2.2 := by simp [hk]
    rw [hX] at h1
    have hk' : k < n := by omega
    have h2 : ((List.range n).map fun r => (List.range D).map (L r))[k]? = some ((List.range D).map (L k)) := by simp [hk']
    rw [h2] at h1
    exact (Option.some.inj h1).symm
  refine ⟨A, c, fun k => (X.getD k default).1, fun k => (X.getD k default).2.1, by rw [e, hl], fun hn => ?_, fun k hk => ?_⟩
  · obtain ⟨A', c', e', _, _, hr⟩ := own_row (c := cRR) (sz := 1) (fun _ => rfl) (f := fun k _ => .slice (X.getD k default).1 D (X.getD k default).2.1) (fun k hk j hj => by
      have hj0 : j = 0 := by omega
      subst hj0
      have hlen : (X[k]).2.2.length = D := by rw [hx k hk]; simp
      simp [cRR, hk, hlen]) h.own
    rw [e] at e'
    injection e' with e1 _ _
    subst e1
    have := hr.sl
    rw [hl] at this
    exact this hn
  · have hkX : k < X.length := by omega
    have h1 := (h.ins X[k] (List.getElem_mem hkX)).sl
    have e1 := hx k hkX
    have e2 : X.getD k default = X[k] := by simp [hkX]
    show SlAt W W.heap.size 2 (X.getD k default).1 D (fRg (L k))
    change SlAt W W.heap.size 2 (X[k]).1 (X[k]).2.2.length (fR (X[k]).2.2) at h1
    rw [e2]
    rw [e1] at h1
    rw [List.length_map, List.length_range] at h1
    intro hD
    obtain ⟨b, off, hA, hb, hc⟩ := h1 hD
    refine ⟨b, off, hA, hb, fun d j hd hj => ?_⟩
    rw [hc d j hd hj]
    have hg : gR ((List.range D).map (L k)) d = L k d := by simp [gR, hd]
    match j, hj with
    | 0, _ => simp [fR, fRg, hg]
    | 1, _ => simp [fR, fRg, hg]
theorem lay_row {W : World} {B : Nat} {v : Value} {l : List Rg} (h : W.ownsRow B 50 2 v l.length (l.flatMap cR2)) : ∃ A k, v = .slice A l.length k ∧ l.length ≤ k ∧ k ≤ maxLen ∧ RowAt W B 50 2 A l.length (fR l) :=
  own_row (c := cR2) (sz := 2) (fun _ => rfl) (fun k hk j hj => by
    have hg : gR l k = l[k] := by simp [gR, hk]
    match j, hj with
    | 0, _ => simp [cR2, fR, hg]
    | 1, _ => simp [cR2, fR, hg]) h
theorem lists_info : (Try.prog.info? 48).map (fun i => (i.zero, i.size, i.bytes)) = some (some (.slice none 0 0), 1, 24) := by kernel_rfl
structure RngV (s : Ws) (w' : World) (n : Nat) (A : Option Addr) (c : Nat) (rA : Nat → Option Addr) (rc : Nat → Nat) : Prop where
  yes : Good s.wo off0 → n = s.rooms.length ∧ RgsIn w' w'.heap.size A n s.wo.days (stkR s.wo off0) rA rc
  no : ¬ Good s.wo off0 → n = 0 ∧ A = none ∧ c = 0
set_option maxRecDepth 100000 in
set_option maxHeartbeats 6400000 in
theorem ranges_any (s : Ws) (Ar Am Aw : Option Addr) (cr cm cw : Nat) (w : World) (hs : WsIn w w.heap.size s Ar Am Aw) (hw : WoOk s.wo) (hd : s.days = (s.wo.days : Int)) :
    Calls Try.prog 60 #[.agg #[.slice Ar s.rooms.length cr, .int .i64 s.days, .slice Am s.moves.length cm, .slice Aw s.wgs.length cw]] w fun e w' => (∃ n A c rA rc, e = .returned (.tuple #[.slice A n c, .bool (truB (Good s.wo off0))]) ∧ RngV s w' n A c rA rc) ∧ Below w.heap.size w w' := by
  have HDs := Lib.hid hd
  clear hd
  obtain ⟨D, hD⟩ : ∃ D, s.wo.days = D := ⟨_, rfl⟩
  have hD6 : 1 ≤ D ∧ D ≤ 6 := by have := hw.days; omega
  have hsd : s.days = (D : Int) := by rw [HDs.out, hD]
  have hr3 := hw.len
  have hrl : s.wo.rooms.length = s.rooms.length := rfl
  rw [hrl] at hr3
  clear hrl
  have HD := Lib.hid hD
  have HSD := Lib.hid hsd
  clear hD hsd
  obtain ⟨i1, hi1, hy0, hy1, hy2⟩ := info_parts lists_info
  obtain ⟨i2, hi2, hz0, hz1, hz2⟩ := info_parts range_info
  have hb1 := ex_alloc (Below.refl w.heap.size w) (.cells #[.slice Ar s.rooms.length cr, .int .i64 s.days, .slice Am s.moves.length cm, .slice Aw s.wgs.length cw] 42)
  have q0 : Blk (w.alloc (.cells #[.slice Ar s.rooms.length cr, .int .i64 s.days, .slice Am s.moves.length cm, .slice Aw s.wgs.length cw] 42)) w.heap.size 42 #[.slice Ar s.rooms.length cr, .int .i64 s.days, .slice Am s.moves.length cm, .slice Aw s.wgs.length cw] := Blk.new _ _ _
  have hs1 := hs.go hb1
  go_enter Try.func60, Try.ntmps60
  go_upto_region 1 with fail
  obtain ⟨p0, hp0⟩ : ∃ p, w.heap.size = p := ⟨_, rfl⟩
  rw [hp0] at q0 ⊢
  have HP0 := Lib.hid hp0
  generalize w.alloc (.cells #[.slice Ar s.rooms.length cr, .int .i64 s.days, .slice Am s.moves.length cm, .slice Aw s.wgs.length cw] 42) = W1 at *
  clear hp0
  have a0 : W1.cell? ⟨p0, 0, none⟩ = some (.slice Ar s.rooms.length cr) := q0.cell 0
  have a1 : W1.cell? ⟨p0, 1, none⟩ = some (.int .i64 s.days) := q0.cell 1
  have a2 : W1.cell? ⟨p0, 2, none⟩ = some (.slice Am s.moves.length cm) := q0.cell 2
  have a3 : W1.cell? ⟨p0, 3, none⟩ = some (.slice Aw s.wgs.length cw) := q0.cell 3
  have l0 := q0.lt
  go_wp2_with fail
  refine (yard_any s Ar Am Aw cr cm cw W1 hs1 hw HDs.out off0).mono ?_
  rintro e W2 ⟨⟨m, rfl, hm1, F, hmp, hF⟩, h2⟩
  have B2 := ex_trans hb1 h2
  have q02 := q0.below h2 q0.lt
  clear a0 a1 a2 a3 l0
  have X3 := ex_alloc (Below.refl W2.heap.size W2) (.cells #[.slice Ar s.rooms.length cr, .int .i64 s.days, .slice Am s.moves.length cm, .slice Aw s.wgs.length cw, .map (some m)] 153)
  have B3 := ex_trans B2 X3
  have q4 : Blk (W2.alloc (.cells #[.slice Ar s.rooms.length cr, .int .i64 s.days, .slice Am s.moves.length cm, .slice Aw s.wgs.length cw, .map (some m)] 153)) W2.heap.size 153 #[.slice Ar s.rooms.length cr, .int .i64 s.days, .slice Am s.moves.length cm, .slice Aw s.wgs.length cw, .map (some m)] := Blk.new _ _ _
  have q03 := q02.below X3 q02.lt
  have hm3 := hmp.below X3
  have hml := hmp.lt
  go_upto_region 2 with fail
  obtain ⟨p4, hp4⟩ : ∃ p, W2.heap.size = p := ⟨_, rfl⟩
  rw [hp4] at q4 hml ⊢
  generalize W2.alloc (.cells #[.slice Ar s.rooms.length cr, .int .i64 s.days, .slice Am s.moves.length cm, .slice Aw s.wgs.length cw, .map (some m)] 153) = W3 at *
  clear hp4 hmp q02
  have b0 : W3.cell? ⟨p4, 0, none⟩ = some (.slice Ar s.rooms.length cr) := q4.cell 0
  have b1 : W3.cell? ⟨p4, 1, none⟩ = some (.int .i64 s.days) := q4.cell 1
  have b2 : W3.cell? ⟨p4, 2, none⟩ = some (.slice Am s.moves.length cm) := q4.cell 2
  have b3 : W3.cell? ⟨p4, 3, none⟩ = some (.slice Aw s.wgs.length cw) := q4.cell 3
  have b4 : W3.cell? ⟨p4, 4, none⟩ = some (.map (some m)) := q4.cell 4
  have l4 := q4.lt
  have hst : StsOk (stW s.wgs off0 s.wgs.length) := stW_ok hw off0 _ (Nat.le_refl _)
  have HST := Lib.hid hst
  clear hst
  go_wp2_with fail
  refine (can_any s Ar Am Aw cr cm cw W3 ((hs.below B3).up B3.size) m F (stW s.wgs off0 s.wgs.length) hw HDs.out hm3 hF HST.out).mono ?_
  rintro e W4 ⟨rfl, h4⟩
  have B4 := ex_trans B3 h4
  have q05 := q03.below h4 q03.lt
  have q45 := q4.below h4 q4.lt
  have hm5 := hm3.below h4
  have hl4 : p4 < W4.heap.size := q45.lt
  clear b0 b1 b2 b3 b4 l4 q03 q4 hm3
  have hcg : CanSt s.wo (stW s.wgs off0 s.wgs.length) ↔ Good s.wo off0 := canSt_good hw
  rw [truB_congr hcg]
  cases hB : truB (Good s.wo off0)
  · have HB : Hid (¬ Good s.wo off0) := Lib.hid (fun h => by rw [truB_iff.2 h] at hB; cases hB)
    clear hB hcg
    go_wp2
    go_ret2
    exact ⟨⟨0, none, 0, fun _ => none, fun _ => 0, by rw [truB_false HB.out]; rfl, fun h => (HB.out h).elim, fun _ => ⟨rfl, rfl, rfl⟩⟩, B4⟩
  · have HB := Lib.hid (truB_iff.1 hB)
    clear hB hcg
    obtain ⟨B0, hB0⟩ : ∃ b, W4.heap.size = b := ⟨_, rfl⟩
    have hbs : w.heap.size ≤ m ∧ w.heap.size ≤ B0 ∧ p0 < p4 ∧ p4 < B0 ∧ m < p4 := ⟨by have := hb1.size; omega, by have := B4.size; omega, by have := q05.lt; have := hb1.size; have := HP0.out; have := h2.size; have := X3.size; omega, by omega, hml⟩
    have hEnd := fun r d hr hd => good_ends hw HB.out (r := r) (d := d) hr hd
    have HEND := Lib.hid hEnd
    clear hEnd
    have a0 : W4.cell? ⟨p0, 0, none⟩ = some (.slice Ar s.rooms.length cr) := q05.cell 0
    have a1 : W4.cell? ⟨p0, 1, none⟩ = some (.int .i64 s.days) := q05.cell 1
    have a2 : W4.cell? ⟨p0, 2, none⟩ = some (.slice Am s.moves.length cm) := q05.cell 2
    have a3 : W4.cell? ⟨p0, 3, none⟩ = some (.slice Aw s.wgs.length cw) := q05.cell 3
    have l0 := q05.lt
    go_wp2_with fail
    refine wp_loop (fun a W => Rel (fun a W => ∃ k : Nat, k ≤ s.rooms.length ∧ (Below w.heap.size w W ∧ B0 ≤ W.heap.size ∧ Blk W p0 42 #[.slice Ar s.rooms.length cr, .int .i64 s.days, .slice Am s.moves.length cm, .slice Aw s.wgs.length cw] ∧ Blk W p4 153 #[.slice Ar s.rooms.length cr, .int .i64 s.days, .slice Am s.moves.length cm, .slice Aw s.wgs.length cw, .map (some m)] ∧ StMp W m F) ∧ ∃ vo X, ROwn W B0 vo X ∧ Hid (X.map (fun x => x.2.2) = (List.range k).map fun r => (List.range D).map (stkR s.wo off0 r)) ∧ ∃ u : Nat → Value, a = ⟨List.toArray (u 0 :: .pointer (some ⟨p0, 0, none⟩) :: u 2 :: u 3 :: .pointer (some ⟨p4, 0, none⟩) :: vo :: u 6 :: u 7 :: u 8 :: u 9 :: u 10 :: u 11 :: u 12 :: u 13 :: u 14 :: u 15 :: u 16 :: u 17 :: .int .i64 (s.rooms.length : Int) :: .int .i64 (k : Int) :: u 20 :: u 21 :: u 22 :: u 23 :: u 24 :: u 25 :: u 26 :: u 27 :: u 28 :: u 29 :: u 30 :: u 31 :: u 32 :: u 33 :: u 34 :: u 35 :: u 36 :: u 37 :: u 38 :: u 39 :: u 40 :: u 41 :: u 42 :: u 43 :: u 44 :: u 45 :: u 46 :: u 47 :: u 48 :: []), []⟩) a W) (fun a _ => s.rooms.length - (intOf (a.tmps.getD 19 undef)).toNat) ⟨⟨0, by omega, ⟨B4, by omega, q05, q45, hm5⟩, _, [], NOwn.nil, Lib.hid rfl, exFrame (by kernel_rfl)⟩⟩ ?_
    clear q05 q45 hm5 h4 B4 hB0 hl4 a0 a1 a2 a3 l0 W4 X3 B3 W3 h2 B2 hb1 hs1 q0
    rintro a Wk ⟨⟨k, hk, ⟨B1, hz1', q0, q4, hm⟩, vo, X, hO, HX, u, rfl⟩⟩
    have a0 : Wk.cell? ⟨p0, 0, none⟩ = some (.slice Ar s.rooms.length cr) := q0.cell 0
    have a1 : Wk.cell? ⟨p0, 1, none⟩ = some (.int .i64 s.days) := q0.cell 1
    have a2 : Wk.cell? ⟨p0, 2, none⟩ = some (.slice Am s.moves.length cm) := q0.cell 2
    have a3 : Wk.cell? ⟨p0, 3, none⟩ = some (.slice Aw s.wgs.length cw) := q0.cell 3
    have l0 := q0.lt
    by_cases hlt : k < s.rooms.length
    · go_wp2_with fail
      obtain ⟨Bk, hBk⟩ : ∃ b, Wk.heap.size = b := ⟨_, rfl⟩
      have HBK := Lib.hid hBk
      rw [hBk] at hz1'
      have hBle : Bk ≤ Wk.heap.size := by omega
      clear hBk
      refine wp_loop (fun a W => Rel (fun a W => ∃ j : Nat, j ≤ D ∧ Fr (fun b => b = m) Wk W ∧ StMp W m F ∧ (∃ vl l, W.ownsRow Bk 50 2 vl l.length (l.flatMap cR2) ∧ Hid (l = (List.range j).map (stkR s.wo off0 k)) ∧ ∃ u : Nat → Value, a = ⟨List.toArray (u 0 :: .pointer (some ⟨p0, 0, none⟩) :: u 2 :: u 3 :: .pointer (some ⟨p4, 0, none⟩) :: vo :: .int .i64 (k : Int) :: vl :: u 8 :: u 9 :: u 10 :: u 11 :: u 12 :: u 13 :: u 14 :: u 15 :: u 16 :: u 17 :: .int .i64 (s.rooms.length : Int) :: .int .i64 (k : Int) :: u 20 :: u 21 :: u 22 :: .int .i64 s.days :: .int .i64 (j : Int) :: u 25 :: u 26 :: u 27 :: u 28 :: u 29 :: u 30 :: u 31 :: u 32 :: u 33 :: u 34 :: u 35 :: u 36 :: u 37 :: u 38 :: u 39 :: u 40 :: u 41 :: u 42 :: u 43 :: u 44 :: u 45 :: u 46 :: u 47 :: u 48 :: []), []⟩)) a W) (fun a _ => D - (intOf (a.tmps.getD 24 undef)).toNat) ⟨⟨0, by omega, Fr.refl _ _, hm, _, [], ⟨rfl, .inl ⟨rfl, rfl⟩⟩, Lib.hid rfl, exFrame (by kernel_rfl)⟩⟩ ?_
      clear a0 a1 a2 a3 l0 hBle
      rintro a W ⟨⟨j, hj, hfk, hm', vl, l, ho, HL, u2, rfl⟩⟩
      have q0' := q0.frM hm hfk
      have q4' := q4.frM hm hfk
      have BW := hfk.toBelow B1 B1.size (fun x hx => by omega)
      have hzW := hfk.size
      rw [HBK.out] at hzW
      have hll : l.length = j := by rw [HL.out]; simp
      have b0 : W.cell? ⟨p4, 0, none⟩ = some (.slice Ar s.rooms.length cr) := q4'.cell 0
      have b1 : W.cell? ⟨p4, 1, none⟩ = some (.int .i64 s.days) := q4'.cell 1
      have b2 : W.cell? ⟨p4, 2, none⟩ = some (.slice Am s.moves.length cm) := q4'.cell 2
      have b3 : W.cell? ⟨p4, 3, none⟩ = some (.slice Aw s.wgs.length cw) := q4'.cell 3
      have b4 : W.cell? ⟨p4, 4, none⟩ = some (.map (some m)) := q4'.cell 4
      have l4 := q4'.lt
      have HLL := Lib.hid hll
      rw [hll] at ho
      clear hll
      rw [HSD.out] at b1
      by_cases hlj : j < D
      · have X1 := ex_alloc (Below.refl W.heap.size W) (.cells #[.int .i64 (k : Int), .int .i64 (j : Int)] 169)
        have q9 : Blk (W.alloc (.cells #[.int .i64 (k : Int), .int .i64 (j : Int)] 169)) W.heap.size 169 #[.int .i64 (k : Int), .int .i64 (j : Int)] := Blk.new _ _ _
        have r4 := q4'.below X1 q4'.lt
        have rm := hm'.below X1
        have ro := own_below ho X1
        have BX := ex_trans BW X1
        have hzX := X1.size
        rw [HSD.out]
        go_upto_region 13 with fail
        obtain ⟨p9, hp9⟩ : ∃ p, W.heap.size = p := ⟨_, rfl⟩
        rw [hp9] at q9 hzX hzW ⊢
        generalize W.alloc (.cells #[.int .i64 (k : Int), .int .i64 (j : Int)] 169) = Y at *
        clear hp9 b0 b1 b2 b3 b4 l4
        have b0 : Y.cell? ⟨p4, 0, none⟩ = some (.slice Ar s.rooms.length cr) := r4.cell 0
        have b1 : Y.cell? ⟨p4, 1, none⟩ = some (.int .i64 s.days) := r4.cell 1
        have b2 : Y.cell? ⟨p4, 2, none⟩ = some (.slice Am s.moves.length cm) := r4.cell 2
        have b3 : Y.cell? ⟨p4, 3, none⟩ = some (.slice Aw s.wgs.length cw) := r4.cell 3
        have b4 : Y.cell? ⟨p4, 4, none⟩ = some (.map (some m)) := r4.cell 4
        have l4 := r4.lt
        have c0 : Y.cell? ⟨p9, 0, none⟩ = some (.int .i64 (k : Int)) := q9.cell 0
        have c1 : Y.cell? ⟨p9, 1, none⟩ = some (.int .i64 (j : Int)) := q9.cell 1
        have l9 := q9.lt
        have n4 : ¬ some p4 = some m := fun e => by injection e with e; omega
        have n9 : ¬ some p9 = some m := fun e => by injection e with e; omega
        rw [HSD.out] at b1
        refine wp_region_gx_mix (some m) 11 [(false, 0), (false, 1), (false, 2), (false, 3), (false, 5), (false, 6), (false, 7), (true, 4), (true, 8), (false, 9), (true, 10)] (by kernel_rfl) (by kernel_rfl) (by intro d _ _ _ _ h; cases d <;> exact h) ?_
        repeat (refine mix_quiet rfl ?_; go_big_quiet_step (fail); refine wpQuiet_nil ?_)
        skip
        have D0 := (Below.refl Y.heap.size Y).drew
        skip
        have hsY : WsIn Y.drew Y.drew.heap.size s Ar Am Aw := (hs.below (ex_trans BX D0)).up (ex_trans BX D0).size
        refine mix_loud rfl ?_
        go_wp2_with fail
        have hf1 := find_lo s Ar Am Aw cr cm cw Y.drew hsY m F (stW s.wgs off0 s.wgs.length) hw HDs.out (rm.below D0) hF HST.out k j hlt (by rw [HD.out]; exact hlj) (StkZ s.wo off0 k j) _ _ (HEND.out k j hlt (by show j < s.wo.days; rw [HD.out]; exact hlj)) (fun g => canSt_narrow hw hlt (by rw [HD.out]; exact hlj) g) (fun z hz => stk_in hw hlt (by rw [HD.out]; exact hlj) hz)
        unfold cSp at hf1
        rw [HSD.out] at hf1
        refine hf1.mono ?_
        clear hf1
        rintro e Z1 ⟨rfl, mz1, fz1⟩
        have g1 : Y.grownBy Z1 (some m) := grown_frM ((Fr.below D0).trans fz1 (fun _ _ h => h))
        go_wp2_with fail
        refine ⟨inGx g1, ?_⟩
        repeat (refine mix_quiet rfl ?_; go_big_quiet_step (fail); refine wpQuiet_nil ?_)
        have sz1 := hsY.frM (rm.below D0) fz1
        refine mix_loud rfl ?_
        go_wp2_with fail
        have hf2 := find_hi s Ar Am Aw cr cm cw Z1 (sz1.up fz1.size) m F (stW s.wgs off0 s.wgs.length) hw HDs.out mz1 hF HST.out k j hlt (by rw [HD.out]; exact hlj) (StkZ s.wo off0 k j) _ _ (HEND.out k j hlt (by show j < s.wo.days; rw [HD.out]; exact hlj)) (fun g => canSt_narrow hw hlt (by rw [HD.out]; exact hlj) g) (fun z hz => stk_in hw hlt (by rw [HD.out]; exact hlj) hz)
        unfold cSp at hf2
        rw [HSD.out] at hf2
        refine hf2.mono ?_
        clear hf2
        rintro e Z2 ⟨rfl, mz2, fz2⟩
        have hfz : Fr (fun b => b = m) Y Z2 := ((Fr.below D0).trans fz1 (fun _ _ h => h)).trans fz2 (fun _ _ h => h)
        have g2 : Y.grownBy Z2 (some m) := grown_frM hfz
        go_wp2_with fail
        refine ⟨inGx g2, ?_⟩
        repeat (refine mix_quiet rfl ?_; go_big_quiet_step (fail); refine wpQuiet_nil ?_)
        have ro2 := own_fr ro hfz (fun b hb e => own_isMap ro rm (by rw [hb, e]))
        have t4 := r4.frM rm hfz
        clear hsY sz1 g1 g2 mz1 fz1 fz2
        obtain ⟨⟨zl, zh⟩, hz⟩ : ∃ x, stkR s.wo off0 k j = x := ⟨_, rfl⟩
        rw [hz]
        have HZ := Lib.hid hz
        clear hz
        have XR := ex_alloc (Below.refl Z2.heap.size Z2) (.cells #[.int .i64 zl, .int .i64 zh] 50)
        have gr : Y.grownBy (Z2.alloc (.cells #[.int .i64 zl, .int .i64 zh] 50)) (some m) := grown_frM (hfz.trans (Fr.below XR) (fun _ _ h => h))
        have ro3 := own_below ro2 XR
        have c63 : j + 1 ≤ maxLen := by unfold maxLen; omega
        have cby : (j + 1) * 16 ≤ 140737488355328 := by omega
        have hbase : Bk ≤ (Z2.alloc (.cells #[.int .i64 zl, .int .i64 zh] 50)).heap.size := by have := XR.size; have := hfz.size; omega
        refine mix_loud rfl ?_
        go_wp2_with fail
        refine ⟨inGx gr, ?_⟩
        repeat (refine mix_quiet rfl ?_; go_big_quiet_step (fail); refine wpQuiet_nil ?_)
        refine mix_nil (r := [_, _]) rfl ?_
        refine wpList_append_lies _ rfl _ _ _ rfl Bk 50 i2 _ 2 16 Try.underlying48 hi2 hz0 hz1 hz2 rfl (by omega) vl _ _ rfl ro3 ⟨Z2.heap.size, 0, none⟩ 1 1 [.int .i64 zl, .int .i64 zh] rfl rfl (World.news_of_block (heap_alloc_new Z2 _)) (by simp [Value.oneCell']) (by omega) c63 cby hbase (Z2.heap.size + 1) (by simp) ?_
        intro gg cap w1 hown' hgrow hat hlt'
        have hgf := Fr.grown (R := fun b => Bk ≤ b) hgrow (fun b hb => .inl (own_ge ro3 hb))
        have hfw : Fr (fun b => b = m) Wk w1 := (((hfk.trans (Fr.below X1) (fun _ _ h => h)).trans hfz (fun _ _ h => h)).trans (Fr.below XR) (fun _ _ h => h)).trans hgf (fun x hx h => by have := HBK.out; omega)
        have hmw := (mz2.below XR).fr hgf (by omega)
        have HOW := Lib.hid (own_push (f := cR2) (x := (⟨zl, zh⟩ : Rg)) (by rw [HLL.out]) hown')
        have HL2 : Hid (l ++ [(⟨zl, zh⟩ : Rg)] = (List.range (j + 1)).map (stkR s.wo off0 k)) := Lib.hid (by rw [HL.out, List.range_succ, List.map_append, List.map_singleton, HZ.out])
        clear hown' hgrow hat hlt' hgf
        go_wp2_with fail
        refine ⟨⟨⟨j + 1, by omega, hfw, hmw, _, _, HOW.out, HL2, exFrame (by kernel_rfl)⟩⟩, ?_⟩
        show D - (intOf (.int .i64 ((j : Int) + 1))).toNat < D - (intOf (.int .i64 (j : Int))).toNat
        simp [intOf]
        omega
      · obtain rfl : j = D := by omega
        have hO' := hO.fr hfk (fun g hg _ e => by omega)
        have HXl : Hid (X.length = k) := Lib.hid (by have := congrArg List.length HX.out; simpa using this)
        rw [← HLL.out] at ho
        obtain ⟨A5, c5, rfl, _, _, hr5⟩ := lay_row ho
        rw [HLL.out]
        have XL := ex_alloc (Below.refl W.heap.size W) (.cells #[.slice A5 j c5] 48)
        have y4 := own_below hO'.own XL
        have c63 : X.length + 1 ≤ maxLen := by rw [HXl.out]; unfold maxLen; omega
        have cby : (X.length + 1) * 24 ≤ 140737488355328 := by rw [HXl.out]; omega
        have hbase : B0 ≤ (W.alloc (.cells #[.slice A5 j c5] 48)).heap.size := by have := XL.size; omega
        clear b0 b1 b2 b3 b4 l4
        rw [HSD.out]
        go_wp2_with (refine pause_at 46 rfl ?_)
        refine Paused.mk ?_
        refine wpList_append_lies _ rfl _ _ _ rfl B0 48 i1 _ 1 24 Try.underlying34 hi1 hy0 hy1 hy2 rfl (by omega) vo _ _ rfl y4 ⟨W.heap.size, 0, none⟩ 1 1 [.slice A5 j c5] rfl rfl (World.news_of_block (heap_alloc_new W _)) (by simp [Value.oneCell']) (by omega) c63 cby hbase (W.heap.size + 1) (by simp) ?_
        intro gg cap w1 hown' hgrow hat hlt'
        have hgf := Fr.grown (R := fun b => B0 ≤ b) hgrow (fun b hb => .inl (own_ge y4 hb))
        have Bw : Below w.heap.size w w1 := (ex_trans BW XL).grown hgrow (ex_trans BW XL).size (fun b hb => by have := own_ge y4 hb; omega)
        have hN3 : ROwn w1 B0 (.slice (some ⟨gg, 0, none⟩) (X.length + 1) cap) (X ++ [((A5, c5, l) : RRow)]) := NOwn.push (hO'.below XL) hgrow (by decide) rfl (own_push (f := cRR) (x := ((A5, c5, l) : RRow)) rfl (by rw [show cRR ((A5, c5, l) : RRow) = [.slice A5 j c5] by unfold cRR; dsimp only; rw [HLL.out]]; exact hown')) (fun y hy => by
          obtain rfl := List.mem_singleton.1 hy
          exact (hr5.below XL).base (by omega))
        have HX2 : Hid ((X ++ [((A5, c5, l) : RRow)]).map (fun x => x.2.2) = (List.range (k + 1)).map fun r => (List.range j).map (stkR s.wo off0 r)) := Lib.hid (by rw [List.map_append, HX.out, List.range_succ, List.map_append, List.map_singleton, List.map_singleton, HL.out])
        have q0w := (q0'.below XL q0'.lt).fr hgf (by omega)
        have q4w := (q4'.below XL q4'.lt).fr hgf (by omega)
        have hmw := (hm'.below XL).fr hgf (by omega)
        have hzw : B0 ≤ w1.heap.size := by have := hgrow.size; omega
        clear hown' hgrow hat hlt' hgf hr5 ho
        generalize X ++ [((A5, c5, l) : RRow)] = X2 at *
        go_wp2_with fail
        refine ⟨⟨⟨k + 1, by omega, ⟨Bw, hzw, q0w, q4w, hmw⟩, _, X2, hN3, HX2, exFrame (by kernel_rfl)⟩⟩, ?_⟩
        show s.rooms.length - (intOf (.int .i64 ((k : Int) + 1))).toNat < s.rooms.length - (intOf (.int .i64 (k : Int))).toNat
        simp [intOf]
        omega
    · obtain ⟨A, c, rA, rc, rfl, hR⟩ := hO.lays (n := k) HX.out
      have hkr : k = s.rooms.length := by omega
      have HR : Hid (RngV s Wk k A c rA rc) := Lib.hid ⟨fun _ => ⟨hkr, by rw [HD.out]; exact hR⟩, fun h => (h HB.out).elim⟩
      clear hkr
      go_wp2
      go_ret2
      exact ⟨⟨k, A, c, rA, rc, by rw [truB_iff.2 HB.out]; rfl, HR.out⟩, B1⟩
end Go.Proofs.Ythihdiilokdidaa
end

section
namespace Go.Proofs.Ythihdiilokdidaa
open Go.RowKit
attribute [local go_sem] Ex.cell? Ex.frozen?

def layV (l : List Int) (n : Nat) : V3 := ⟨if 0 < n then gI l 0 else 0, if 1 < n then gI l 1 else 0, if 2 < n then gI l 2 else 0⟩
theorem layV_get (l : List Int) {n : Nat} (i : Nat) (hi : i < 3) : (layV l n).get i = if i < n then gI l i else 0 := by
  match i, hi with
  | 0, _ => rfl
  | 1, _ => rfl
  | 2, _ => rfl
theorem copy_left {W : World} {g n c : Nat} {A : Option Addr} {l : List Int} (hq : Blk W g 136 #[.int .i64 0, .int .i64 0, .int .i64 0]) (hA : SlAt W W.heap.size 1 A n (fI l)) (h1 : 1 ≤ n) (h3 : n ≤ 3) :
    ∃ W2, (∀ ty : TypeId, (Builtin.copy_ #[28, 28] ty #[.slice (some ⟨g, 0, none⟩) 3 3, .slice A n c]).run Try.prog W = .ok (goInt n) W2) ∧ Blk W2 g 136 (v3C (layV l n)) ∧ Fr (fun b => b = g) W W2 := by
  obtain ⟨b, off, rfl, _, hc⟩ := hA (by omega)
  have hv : ∀ j, j < n → W.cell? ⟨b, off + j, none⟩ = some (.int .i64 (gI l j)) := fun j hj => by
    have := hc j 0 hj (by omega)
    rw [show off + (j * 1 + 0) = off + j by omega] at this
    exact this
  have hn : n = 1 ∨ n = 2 ∨ n = 3 := by omega
  have hsz : (Try.prog.info? 3).map (·.size) = some 1 := by kernel_rfl
  rcases hn with rfl | rfl | rfl
  · refine ⟨W.setCells g 0 [.int .i64 (gI l 0)], fun ty => run_copy_cells W _ _ ty 3 g 0 3 3 ⟨b, off, none⟩ 1 c [.int .i64 (gI l 0)] Try.underlying28 hsz rfl (fun j v hj => ?_) (fun j hj => ?_) (fun j _ => hq.frozen _) (fun v hv => by simp at hv; subst hv; rfl), ?_, ?_⟩
    · match j, hj with
      | 0, hj => simp at hj; subst hj; simpa [Addr.add] using hv 0 (by omega)
    · rw [hq.cell]; match j, hj with
      | 0, _ => rfl
    · have := hq.set_ 0 (.int .i64 (gI l 0)); simp at this; exact this
    · exact Fr.set (R := fun b => b = g) W g 0 _ rfl
  · refine ⟨W.setCells g 0 [.int .i64 (gI l 0), .int .i64 (gI l 1)], fun ty => run_copy_cells W _ _ ty 3 g 0 3 3 ⟨b, off, none⟩ 2 c [.int .i64 (gI l 0), .int .i64 (gI l 1)] Try.underlying28 hsz rfl (fun j v hj => ?_) (fun j hj => ?_) (fun j _ => hq.frozen _) (fun v hv => by simp at hv; rcases hv with rfl | rfl <;> rfl), ?_, ?_⟩
    · match j, hj with
      | 0, hj => simp at hj; subst hj; simpa [Addr.add] using hv 0 (by omega)
      | 1, hj => simp at hj; subst hj; simpa [Addr.add] using hv 1 (by omega)
    · rw [hq.cell]; match j, hj with
      | 0, _ => rfl
      | 1, _ => rfl
    · have := (hq.set_ 0 (.int .i64 (gI l 0))).set_ 1 (.int .i64 (gI l 1)); simp at this; exact this
    · exact (Fr.set (R := fun b => b = g) W g 0 (.int .i64 (gI l 0)) rfl).trans (Fr.set (R := fun b => b = g) _ g 1 (.int .i64 (gI l 1)) rfl) (fun _ _ h => h)
  · refine ⟨W.setCells g 0 [.int .i64 (gI l 0), .int .i64 (gI l 1), .int .i64 (gI l 2)], fun ty => run_copy_cells W _ _ ty 3 g 0 3 3 ⟨b, off, none⟩ 3 c [.int .i64 (gI l 0), .int .i64 (gI l 1), .int .i64 (gI l 2)] Try.underlying28 hsz rfl (fun j v hj => ?_) (fun j hj => ?_) (fun j _ => hq.frozen _) (fun v hv => by simp at hv; rcases hv with rfl | rfl | rfl <;> rfl), ?_, ?_⟩
    · match j, hj with
      | 0, hj => simp at hj; subst hj; simpa [Addr.add] using hv 0 (by omega)
      | 1, hj => simp at hj; subst hj; simpa [Addr.add] using hv 1 (by omega)
      | 2, hj => simp at hj; subst hj; simpa [Addr.add] using hv 2 (by omega)
    · rw [hq.cell]; match j, hj with
      | 0, _ => rfl
      | 1, _ => rfl
      | 2, _ => rfl
    · have := ((hq.set_ 0 (.int .i64 (gI l 0))).set_ 1 (.int .i64 (gI l 1))).set_ 2 (.int .i64 (gI l 2)); simp at this; exact this
    · exact ((Fr.set (R := fun b => b = g) W g 0 (.int .i64 (gI l 0)) rfl).trans (Fr.set (R := fun b => b = g) _ g 1 (.int .i64 (gI l 1)) rfl) (fun _ _ h => h)).trans (Fr.set (R := fun b => b = g) _ g 2 (.int .i64 (gI l 2)) rfl) (fun _ _ h => h)
theorem own_neL {w : World} {base : Nat} {v : Value} {n : Nat} {xs : List Value} {g : Nat} {cs : Array Value} (h : w.ownsRow base 28 1 v n xs) (hg : Blk w g 136 cs) : ¬ v.ownBlock = some g := own_blkne h hg (by decide)
def hoursV (t : Tm) : V3 := layV t.hours t.rates.length
theorem hoursV_ok {t : Tm} (ht : TmOk t) : HrOk t (hoursV t) := by
  refine ⟨fun i hi => ?_, fun i hi => ?_⟩
  · unfold hoursV
    rw [layV_get _ _ hi]
    split
    · rename_i h; exact ht.hour i h
    · omega
  · unfold hoursV
    by_cases h : i < 3
    · rw [layV_get _ _ h, if_neg (by omega)]
    · exact V3.get_far _ (by omega)
inductive Chain (t : Tm) : List V3 → V3 → V3 → Prop
  | nil (l : V3) : Chain t [] l l
  | snoc {ds : List V3} {l m d : V3} : Chain t ds l m → Part t d m → d ≠ z3 → Chain t (ds ++ [d]) l (m.sub d)
noncomputable def fewT (t : Tm) : Nat := (FewIs.ex (t := t) (hoursV t)).choose
theorem fewT_is (t : Tm) : FewIs t (hoursV t) (fewT t) := (FewIs.ex (t := t) (hoursV t)).choose_spec
noncomputable def roE (t : Tm) : Int := if ckTm t = 0 then (if fewT t ≤ 6 then 0 else 10) else ckTm t
structure RosV (t : Tm) (w' : World) (e : Ending) : Prop where
  out : ∃ (A : Option Addr) (n c : Nat), e = .returned (.tuple #[.slice A n c, .int .i64 (roE t)]) ∧ (roE t = 0 → ∃ Ls rA rc, n = Ls.length ∧ n = fewT t ∧ Chain t Ls (hoursV t) z3 ∧ MatIn w' w'.heap.size A n t.rates.length (fun k i => (Ls.getD k z3).get i) rA rc) ∧ (roE t ≠ 0 → n = 0 ∧ A = none)
def hrsL (v : V3) (n : Nat) : List Int := [v.a, v.b, v.c].take n
theorem hrsL_eq (v : V3) {n : Nat} (hn : n ≤ 3) : hrsL v n = (List.range n).map (fun i => v.get i) := by
  have : n = 0 ∨ n = 1 ∨ n = 2 ∨ n = 3 := by omega
  rcases this with rfl | rfl | rfl | rfl <;> rfl
theorem flat_ints (l : List Int) : l.flatMap cI1 = l.map (Value.int .i64) := by
  induction l with
  | nil => rfl
  | cons x l ih => rw [List.flatMap_cons, ih]; rfl
set_option maxRecDepth 100000 in
set_option maxHeartbeats 6400000 in
theorem Roster_any (t : Tm) (Ar Ah : Option Addr) (cr ch : Nat) (w : World) (htm : TmIn w w.heap.size t Ar Ah) (hsm : t.rates.length ≤ 1000 ∧ t.hours.length ≤ 1000) :
    Calls Try.prog 26 #[.agg #[.slice Ar t.rates.length cr, .slice Ah t.hours.length ch, .int .i64 t.limit, .int .i64 t.most]] w fun e w' => RosV t w' e ∧ Below w.heap.size w w' := by
  have hmk := @run_makeMap Try.prog
  obtain ⟨i1, hi1, hy0, hy1, hy2⟩ := info_parts ints_info
  have hb1 := ex_alloc (Below.refl w.heap.size w) (.cells #[.slice Ar t.rates.length cr, .slice Ah t.hours.length ch, .int .i64 t.limit, .int .i64 t.most] 59)
  have q0 : Blk (w.alloc (.cells #[.slice Ar t.rates.length cr, .slice Ah t.hours.length ch, .int .i64 t.limit, .int .i64 t.most] 59)) w.heap.size 59 #[.slice Ar t.rates.length cr, .slice Ah t.hours.length ch, .int .i64 t.limit, .int .i64 t.most] := Blk.new _ _ _
  have ht1 := htm.go hb1
  go_enter Try.func26, Try.ntmps26
  go_upto_region 1 with fail
  obtain ⟨p0, hp0⟩ : ∃ p, w.heap.size = p := ⟨_, rfl⟩
  rw [hp0] at q0 ⊢
  have HP0 := Lib.hid hp0
  generalize w.alloc (.cells #[.slice Ar t.rates.length cr, .slice Ah t.hours.length ch, .int .i64 t.limit, .int .i64 t.most] 59) = W1 at *
  clear hp0
  have a0 : W1.cell? ⟨p0, 0, none⟩ = some (.slice Ar t.rates.length cr) := q0.cell 0
  have a1 : W1.cell? ⟨p0, 1, none⟩ = some (.slice Ah t.hours.length ch) := q0.cell 1
  have a2 : W1.cell? ⟨p0, 2, none⟩ = some (.int .i64 t.limit) := q0.cell 2
  have a3 : W1.cell? ⟨p0, 3, none⟩ = some (.int .i64 t.most) := q0.cell 3
  have la := q0.lt
  go_wp2_with fail
  refine (checkTm_any t Ar Ah cr ch W1 ht1 hsm).mono ?_
  rintro e W2 ⟨rfl, h2⟩
  have B2 := ex_trans hb1 h2
  have q02 := q0.below h2 q0.lt
  have ht2 := ht1.go h2
  clear a0 a1 a2 a3 la
  have a0 : W2.cell? ⟨p0, 0, none⟩ = some (.slice Ar t.rates.length cr) := q02.cell 0
  have a1 : W2.cell? ⟨p0, 1, none⟩ = some (.slice Ah t.hours.length ch) := q02.cell 1
  have a2 : W2.cell? ⟨p0, 2, none⟩ = some (.int .i64 t.limit) := q02.cell 2
  have a3 : W2.cell? ⟨p0, 3, none⟩ = some (.int .i64 t.most) := q02.cell 3
  have la := q02.lt
  by_cases hc : ckTm t = 0
  · have ht := ckTm_iff.1 hc
    have HC := Lib.hid hc
    rw [hc]
    clear hc
    have hl3 : 1 ≤ t.rates.length ∧ t.rates.length ≤ 3 := by have := ht.len; omega
    have hhl : t.hours.length = t.rates.length := ht.len.2.2
    have HHL := Lib.hid hhl
    clear hhl
    obtain ⟨nr, hnr⟩ : ∃ n, t.rates.length = n := ⟨_, rfl⟩
    have HNR := Lib.hid hnr
    skip
    have X3 := ex_alloc (Below.refl W2.heap.size W2) (.cells #[.int .i64 0, .int .i64 0, .int .i64 0] 136)
    have q5 : Blk (W2.alloc (.cells #[.int .i64 0, .int .i64 0, .int .i64 0] 136)) W2.heap.size 136 #[.int .i64 0, .int .i64 0, .int .i64 0] := Blk.new _ _ _
    have q03 := q02.below X3 q02.lt
    have ht3 := ht2.go X3
    have B3 := ex_trans B2 X3
    clear hnr HNR nr
    go_upto_region 5 with fail
    obtain ⟨p5, hp5⟩ : ∃ p, W2.heap.size = p := ⟨_, rfl⟩
    rw [hp5] at q5 ⊢
    have HP5 := Lib.hid hp5
    have hp05 : p0 < p5 := by have := q02.lt; omega
    generalize W2.alloc (.cells #[.int .i64 0, .int .i64 0, .int .i64 0] 136) = W3 at *
    clear hp5
    clear a0 a1 a2 a3 la
    have a0 : W3.cell? ⟨p0, 0, none⟩ = some (.slice Ar t.rates.length cr) := q03.cell 0
    have a1 : W3.cell? ⟨p0, 1, none⟩ = some (.slice Ah t.hours.length ch) := q03.cell 1
    have a2 : W3.cell? ⟨p0, 2, none⟩ = some (.int .i64 t.limit) := q03.cell 2
    have a3 : W3.cell? ⟨p0, 3, none⟩ = some (.int .i64 t.most) := q03.cell 3
    have la := q03.lt
    have lq5 := q5.lt
    have DD := (Below.refl W3.heap.size W3).drew
    obtain ⟨W4, hcp, q54, fr4⟩ := copy_left (c := ch) (q5.below DD lq5) ((ht3.hours.below DD).up DD.size) (by rw [HHL.out]; exact hl3.1) (by rw [HHL.out]; exact hl3.2)
    have hcp2 := hcp 0
    have hcp3 := hcp 3
    clear hcp
    have q04 := (q03.below DD q03.lt).fr fr4 (by omega)
    have B4 := fr4.toBelow (ex_trans B3 DD) (ex_trans B3 DD).size (fun x hx => by have := HP0.out; omega)
    refine wp_region_ext_mix 3 [(false, 0), (false, 1), (false, 2)] (by kernel_rfl) (by kernel_rfl) (by intro d _ _ _ _ h; cases d <;> exact h) ?_
    repeat (refine mix_quiet rfl ?_; go_big_quiet_step (fail); refine wpQuiet_nil ?_)
    refine mix_nil (r := [_]) rfl ?_
    rw [HHL.out] at q54
    have q54' : Blk W4 p5 136 (v3C (hoursV t)) := q54
    clear q54
    clear a0 a1 a2 a3 la
    go_upto_region 6 with fail
    clear hcp2 hcp3
    have X5 := ex_alloc (Below.refl W4.heap.size W4) (.map #[] 0)
    have mp0 : MpIs keyV plV (W4.alloc (.map #[] 0)) W4.heap.size (fun _ => none) := MpIs.new _ rfl
    have q05 := q04.below X5 q04.lt
    have q55 := q54'.below X5 q54'.lt
    have B5 := ex_trans B4 X5
    go_upto_region 7 with fail
    obtain ⟨mb, hmb⟩ : ∃ p, W4.heap.size = p := ⟨_, rfl⟩
    rw [hmb] at mp0 ⊢
    have hpmb : p5 < mb := by have := q54'.lt; omega
    generalize W4.alloc (.map #[] 0) = W5 at *
    clear hmb
    clear X5 B4 q04 q54' fr4 DD ht3 B3 q03 q5 lq5 ht2 h2 B2 q02 ht1 hb1 q0 X3
    obtain ⟨h0, hh0⟩ : ∃ x, hoursV t = x := ⟨_, rfl⟩
    have hok0 := hoursV_ok ht
    rw [hh0] at q55 hok0
    have HH0 := Lib.hid hh0
    clear hh0
    have a0 : W5.cell? ⟨p0, 0, none⟩ = some (.slice Ar t.rates.length cr) := q05.cell 0
    have a1 : W5.cell? ⟨p0, 1, none⟩ = some (.slice Ah t.hours.length ch) := q05.cell 1
    have a2 : W5.cell? ⟨p0, 2, none⟩ = some (.int .i64 t.limit) := q05.cell 2
    have a3 : W5.cell? ⟨p0, 3, none⟩ = some (.int .i64 t.most) := q05.cell 3
    have la := q05.lt
    have b0 : W5.cell? ⟨p5, 0, none⟩ = some (.int .i64 h0.a) := q55.cell 0
    have b1 : W5.cell? ⟨p5, 1, none⟩ = some (.int .i64 h0.b) := q55.cell 1
    have b2 : W5.cell? ⟨p5, 2, none⟩ = some (.int .i64 h0.c) := q55.cell 2
    have bl := q55.lt
    have hbw0 : w.heap.size ≤ p5 ∧ w.heap.size ≤ mb := by have := HP0.out; omega
    have hfp := field_plan0
    have hfq := field_plan1
    have HH := best_any t Ar Ah cr ch mb ht (h0.sum.toNat + 1) h0 (fun _ => none) W5 (by omega) hok0 ⟨(htm.rates.below B5).up B5.size, (htm.hours.below B5).up B5.size⟩ mp0 (fun l x h => by cases h)
    unfold v3C at HH
    go_wp2_with fail
    refine HH.mono ?_
    clear HH
    rintro e W6 ⟨⟨m0, own0, F0, rfl, hp0, mp6, ko6, fr6⟩⟩
    have hf0 : m0 = fewT t := hp0.few.uniq (by rw [← HH0.out]; exact fewT_is t)
    have q06 := q05.fr fr6 (by omega)
    have q56 := q55.fr fr6 (by omega)
    have B6 := fr6.toBelow B5 B5.size (fun x hx => by omega)
    clear a0 a1 a2 a3 la
    clear b0 b1 b2 bl
    by_cases h7 : 6 < m0
    · have h7' : (6 : Int) < (m0 : Int) := by omega
      have HE : Hid (roE t = 10) := Lib.hid (by unfold roE; rw [if_pos HC.out, if_neg (by omega)])
      clear hf0
      go_wp2
      go_ret2
      exact ⟨⟨none, 0, 0, by rw [HE.out]; rfl, fun h => (by rw [HE.out] at h; cases h), fun _ => ⟨rfl, rfl⟩⟩, B6⟩
    · have h7' : ¬ (6 : Int) < (m0 : Int) := by omega
      have HE : Hid (roE t = 0) := Lib.hid (by unfold roE; rw [if_pos HC.out, if_pos (by omega)])
      have HM0 := Lib.hid hf0
      clear hf0
      obtain ⟨B0, hB0⟩ : ∃ b, W6.heap.size = b := ⟨_, rfl⟩
      have hbs : p0 < p5 ∧ p5 < mb ∧ mb < B0 := ⟨hp05, hpmb, by have := mp6.lt; omega⟩
      go_wp2_with fail
      refine wp_loop_ghost (fun n a W => Rel (fun a W => ∃ (m : Nat) (rem : V3) (Ls : List V3) (X : List IRow) (F : V3 → Option (Nat × V3)) (vo : Value), Hid (n = m ∧ FewIs t rem m ∧ m ≤ 6 ∧ Chain t Ls h0 rem ∧ Ls.length + m = m0 ∧ X.map (fun x => x.2.2) = Ls.map (fun v => hrsL v t.rates.length)) ∧ HrOk t rem ∧ Blk W p5 136 (v3C rem) ∧ Blk W p0 59 #[.slice Ar t.rates.length cr, .slice Ah t.hours.length ch, .int .i64 t.limit, .int .i64 t.most] ∧ MpIs keyV plV W mb F ∧ KOk t F ∧ IOwn W B0 vo X ∧ Below w.heap.size w W ∧ B0 ≤ W.heap.size ∧ ∃ u : Nat → Value, a = ⟨List.toArray (u 0 :: .pointer (some ⟨p0, 0, none⟩) :: u 2 :: u 3 :: u 4 :: .pointer (some ⟨p5, 0, none⟩) :: .map (some mb) :: vo :: u 8 :: u 9 :: u 10 :: u 11 :: u 12 :: u 13 :: u 14 :: u 15 :: u 16 :: u 17 :: u 18 :: u 19 :: u 20 :: u 21 :: u 22 :: u 23 :: u 24 :: u 25 :: u 26 :: u 27 :: u 28 :: u 29 :: u 30 :: u 31 :: u 32 :: u 33 :: u 34 :: u 35 :: u 36 :: u 37 :: u 38 :: u 39 :: u 40 :: u 41 :: u 42 :: u 43 :: u 44 :: u 45 :: u 46 :: u 47 :: u 48 :: u 49 :: u 50 :: u 51 :: u 52 :: u 53 :: u 54 :: []), []⟩) a W) m0 ⟨⟨m0, h0, [], [], F0, _, Lib.hid ⟨rfl, hp0.few, by omega, Chain.nil _, by simp, rfl⟩, hok0, q56, q06, mp6, ko6, NOwn.nil, B6, by omega, exFrame (by kernel_rfl)⟩⟩ ?_
      clear q56 q06 mp6 ko6 B6 hB0 q05 q55 B5 mp0 fr6
      rintro n a W ⟨⟨m, rem, Ls, X, F, vo, HI, hok, q5, q0, mp, ko, hO, Bw, hB0, u, rfl⟩⟩
      have b0 : W.cell? ⟨p5, 0, none⟩ = some (.int .i64 rem.a) := q5.cell 0
      have b1 : W.cell? ⟨p5, 1, none⟩ = some (.int .i64 rem.b) := q5.cell 1
      have b2 : W.cell? ⟨p5, 2, none⟩ = some (.int .i64 rem.c) := q5.cell 2
      have bl := q5.lt
      by_cases hz : rem = z3
      · have hez : ∀ w, (Op.equalIn 10000 136 (.agg #[.int .i64 rem.a, .int .i64 rem.b, .int .i64 rem.c]) (.agg #[.int .i64 0, .int .i64 0, .int .i64 0])).run Try.prog w = .ok true w := fun w => by have := eq_v3 rem z3 w; rw [decide_eq_true hz] at this; exact this
        have HF : Hid (Ls.length = m0 ∧ Chain t Ls (hoursV t) z3 ∧ X.map (fun x => x.2.2) = (List.range Ls.length).map (fun k => (List.range t.rates.length).map ((Ls.getD k z3).get))) := Lib.hid (by
          obtain ⟨_, h2, _, h4, h5, h6⟩ := HI.out
          have hm : m = 0 := (FewIs.zero (t := t)).uniq (hz ▸ h2) |>.symm
          refine ⟨by omega, by rw [HH0.out, ← hz]; exact h4, ?_⟩
          rw [h6]
          apply List.ext_getElem
          · simp
          · intro k h1 h2'
            have hk : k < Ls.length := by simpa using h1
            simp [hrsL_eq _ hl3.2, hk])
        obtain ⟨A, cA, rA, rcA, rfl, hM⟩ := hO.lays (n := Ls.length) HF.out.2.2
        have hlen : X.length = Ls.length := by have := congrArg List.length HF.out.2.2; simpa using this
        have HM := Lib.hid hM
        clear hz hM hlen
        go_wp2
        go_ret2
        exact ⟨⟨A, Ls.length, cA, by rw [HE.out]; rfl, fun _ => ⟨Ls, rA, rcA, rfl, by rw [← HM0.out]; exact HF.out.1, HF.out.2.1, HM.out⟩, fun h => (h HE.out).elim⟩, Bw⟩
      · have HZ := Lib.hid hz
        have hez : ∀ w, (Op.equalIn 10000 136 (.agg #[.int .i64 rem.a, .int .i64 rem.b, .int .i64 rem.c]) (.agg #[.int .i64 0, .int .i64 0, .int .i64 0])).run Try.prog w = .ok false w := fun w => by have := eq_v3 rem z3 w; rw [decide_eq_false hz] at this; exact this
        clear hz
        have a0 : W.cell? ⟨p0, 0, none⟩ = some (.slice Ar t.rates.length cr) := q0.cell 0
        have a1 : W.cell? ⟨p0, 1, none⟩ = some (.slice Ah t.hours.length ch) := q0.cell 1
        have a2 : W.cell? ⟨p0, 2, none⟩ = some (.int .i64 t.limit) := q0.cell 2
        have a3 : W.cell? ⟨p0, 3, none⟩ = some (.int .i64 t.most) := q0.cell 3
        have la := q0.lt
        have HH := best_any t Ar Ah cr ch mb ht (rem.sum.toNat + 1) rem F W (by omega) hok ⟨(htm.rates.below Bw).up Bw.size, (htm.hours.below Bw).up Bw.size⟩ mp ko
        unfold v3C at HH
        go_wp2_with fail
        refine HH.mono ?_
        clear HH
        rintro e Z1 ⟨⟨m1, own, F1, rfl, hp1, mp1, ko1, fr1⟩⟩
        have HOW : Hid (m1 = m ∧ 0 < m ∧ Part t own rem ∧ own ≠ z3 ∧ FewIs t (rem.sub own) (m - 1)) := Lib.hid (by
          obtain ⟨_, h2, h3, _⟩ := HI.out
          have e1 := hp1.few.uniq h2
          have e2 := FewIs.pos h2 HZ.out
          subst e1
          exact ⟨rfl, e2, hp1.own e2 (by omega)⟩)
        have q51 := q5.fr fr1 (by omega)
        have q01 := q0.fr fr1 (by omega)
        have hO1 := hO.fr fr1 (fun g h _ e => by omega)
        have Bw1 := fr1.toBelow Bw Bw.size (fun x hx => by omega)
        have hz1 := fr1.size
        clear a0 a1 a2 a3 la
        clear b0 b1 b2 bl
        have X2 := ex_alloc (Below.refl Z1.heap.size Z1) (.cells #[.int .i64 own.a, .int .i64 own.b, .int .i64 own.c] 136)
        have q8 : Blk (Z1.alloc (.cells #[.int .i64 own.a, .int .i64 own.b, .int .i64 own.c] 136)) Z1.heap.size 136 #[.int .i64 own.a, .int .i64 own.b, .int .i64 own.c] := Blk.new _ _ _
        have q52 := q51.below X2 q51.lt
        have q02 := q01.below X2 q01.lt
        have hO2 := hO1.below X2
        have mp2 := mp1.below X2
        have Bw2 := ex_trans Bw1 X2
        have hz2 := X2.size
        go_upto_region 12 with fail
        obtain ⟨p8, hp8⟩ : ∃ p, Z1.heap.size = p := ⟨_, rfl⟩
        rw [hp8] at q8 hz1 hz2 ⊢
        generalize Z1.alloc (.cells #[.int .i64 own.a, .int .i64 own.b, .int .i64 own.c] 136) = Z2 at *
        clear hp8
        have a0 : Z2.cell? ⟨p0, 0, none⟩ = some (.slice Ar t.rates.length cr) := q02.cell 0
        have a1 : Z2.cell? ⟨p0, 1, none⟩ = some (.slice Ah t.hours.length ch) := q02.cell 1
        have a2 : Z2.cell? ⟨p0, 2, none⟩ = some (.int .i64 t.limit) := q02.cell 2
        have a3 : Z2.cell? ⟨p0, 3, none⟩ = some (.int .i64 t.most) := q02.cell 3
        have la := q02.lt
        have l8 := q8.lt
        have hcl := slices_Clone_int p8 0 t.rates.length 3 [own.a, own.b, own.c] Z2 (by show t.rates.length ≤ 3; omega) (by omega) (fun j hj => by
          match j, hj with
          | 0, _ => exact q8.cell 0
          | 1, _ => exact q8.cell 1
          | 2, _ => exact q8.cell 2)
        have hnl : ((t.rates.length : Nat) : Int) ≤ 3 := by omega
        go_wp2_with fail
        refine hcl.mono ?_
        clear hcl
        rintro e Z3 ⟨v', rfl, hov, _, h3⟩
        have hhl : (hrsL own t.rates.length).length = t.rates.length := by rw [hrsL_eq _ hl3.2]; simp
        have HHL2 := Lib.hid hhl
        have hov2 : Z3.ownsRow Z2.heap.size 3 1 v' (hrsL own t.rates.length).length ((hrsL own t.rates.length).flatMap cI1) := by rw [hhl, flat_ints]; exact hov
        clear hhl hov
        obtain ⟨A5, c5, rfl, _, _, hr5⟩ := lay_ints hov2
        rw [HHL2.out]
        have q53 := q52.below h3 q52.lt
        have q03 := q02.below h3 q02.lt
        have q83 := q8.below h3 q8.lt
        have hO3 := hO2.below h3
        have mp3 := mp2.below h3
        have Bw3 := ex_trans Bw2 h3
        have hz3 := h3.size
        clear a0 a1 a2 a3 la
        clear l8 hov2
        have HXl : Hid (X.length ≤ 6) := Lib.hid (by obtain ⟨_, _, _, _, h5, h6⟩ := HI.out; have := congrArg List.length h6; simp at this; omega)
        have X4 := ex_alloc (Below.refl Z3.heap.size Z3) (.cells #[.slice A5 t.rates.length c5] 28)
        have y4 := own_below hO3.own X4
        have c63 : X.length + 1 ≤ maxLen := by have := HXl.out; unfold maxLen; omega
        have cby : (X.length + 1) * 24 ≤ 140737488355328 := by have := HXl.out; omega
        have hbase : B0 ≤ (Z3.alloc (.cells #[.slice A5 t.rates.length c5] 28)).heap.size := by have := X4.size; omega
        go_wp2_with (refine pause_at 41 rfl ?_)
        refine Paused.mk ?_
        refine wpList_append_lies _ rfl _ _ _ rfl B0 28 i1 _ 1 24 Try.underlying29 hi1 hy0 hy1 hy2 rfl (by omega) vo _ _ rfl y4 ⟨Z3.heap.size, 0, none⟩ 1 1 [.slice A5 t.rates.length c5] rfl rfl (World.news_of_block (heap_alloc_new Z3 _)) (by simp [Value.oneCell']) (by omega) c63 cby hbase (Z3.heap.size + 1) (by simp) ?_
        intro gg cap w1 hown' hgrow hat hlt'
        have hgf := Fr.grown (R := fun b => B0 ≤ b ∧ vo.ownBlock = some b) hgrow (fun b hb => .inl ⟨own_ge y4 hb, hb⟩)
        have Bww : Below w.heap.size w w1 := (ex_trans Bw3 X4).grown hgrow (ex_trans Bw3 X4).size (fun b hb => by have := own_ge y4 hb; have := HP0.out; omega)
        have hN3 : IOwn w1 B0 (.slice (some ⟨gg, 0, none⟩) (X.length + 1) cap) (X ++ [((A5, c5, hrsL own t.rates.length) : IRow)]) := NOwn.push (hO3.below X4) hgrow (by decide) rfl (own_push (f := cIR) (x := ((A5, c5, hrsL own t.rates.length) : IRow)) rfl (by rw [show cIR ((A5, c5, hrsL own t.rates.length) : IRow) = [.slice A5 t.rates.length c5] by unfold cIR; dsimp only; rw [HHL2.out]]; exact hown')) (fun y hy => by
          obtain rfl := List.mem_singleton.1 hy
          exact (hr5.below X4).base (by omega))
        have hvz : ∀ b, vo.ownBlock = some b → b < Z1.heap.size := fun b hb => (own_lt hO1.own hb).2
        have h8n : ¬ (B0 ≤ p8 ∧ vo.ownBlock = some p8) := fun h => own_neL hO3.own q83 h.2
        have q5w := (q53.below X4 q53.lt).fr hgf (by omega)
        have q0w := (q03.below X4 q03.lt).fr hgf (by omega)
        have q8w := (q83.below X4 q83.lt).fr hgf h8n
        have mpw := (mp3.below X4).fr hgf (by omega)
        have hzw : B0 ≤ w1.heap.size := by have := hgrow.size; omega
        have HXX : Hid ((X ++ [((A5, c5, hrsL own t.rates.length) : IRow)]).map (fun x => x.2.2) = (Ls ++ [own]).map (fun v => hrsL v t.rates.length)) := Lib.hid (by rw [List.map_append, HI.out.2.2.2.2.2, List.map_append]; rfl)
        clear hown' hgrow hat hlt' hgf hr5
        generalize X ++ [((A5, c5, hrsL own t.rates.length) : IRow)] = X2 at *
        generalize (Value.slice (some ⟨gg, 0, none⟩) (X.length + 1) cap) = vo2 at *
        go_wp2_with fail
        refine wp_loop (fun a Z => Rel (fun a Z => ∃ j : Nat, j ≤ 3 ∧ Blk Z p5 136 (v3C (subTo rem own j)) ∧ Fr (fun b => b = p5) w1 Z ∧ ∃ u : Nat → Value, a = ⟨List.toArray (u 0 :: .pointer (some ⟨p0, 0, none⟩) :: u 2 :: u 3 :: u 4 :: .pointer (some ⟨p5, 0, none⟩) :: .map (some mb) :: vo2 :: .pointer (some ⟨p8, 0, none⟩) :: u 9 :: u 10 :: u 11 :: u 12 :: u 13 :: u 14 :: u 15 :: u 16 :: u 17 :: u 18 :: u 19 :: u 20 :: u 21 :: u 22 :: u 23 :: u 24 :: u 25 :: u 26 :: u 27 :: u 28 :: u 29 :: u 30 :: u 31 :: u 32 :: u 33 :: u 34 :: u 35 :: u 36 :: u 37 :: u 38 :: u 39 :: u 40 :: u 41 :: .int .i64 (j : Int) :: u 43 :: u 44 :: u 45 :: u 46 :: u 47 :: u 48 :: u 49 :: u 50 :: u 51 :: u 52 :: u 53 :: u 54 :: []), []⟩) a Z) (fun a _ => 3 - (intOf (a.tmps.getD 42 undef)).toNat) ⟨⟨0, by omega, q5w, Fr.refl _ _, exFrame (by kernel_rfl)⟩⟩ ?_
        rintro a Z ⟨⟨j, hj, s5, frz, u2, rfl⟩⟩
        have h85 : p8 ≠ p5 := by omega
        by_cases hlj : j < 3
        · have s8 := q8w.fr frz h85
          have v1 := s5.cell j
          rw [v3_at _ hlj, subTo_get rem own j hj, if_neg (by omega)] at v1
          have v2 : Z.cell? ⟨p8, j, none⟩ = _ := (s8.cell j).trans (v3_at own hlj)
          have hjl := hok.bd j hlj
          have hjd := HOW.out.2.2.1.bd j hlj
          have hs := s5.set_ j (.int .i64 (rem.get j - own.get j))
          rw [v3_set _ hlj] at hs
          have hs' : (subTo rem own j).set j (rem.get j - own.get j) = subTo rem own (j + 1) := rfl
          rw [hs'] at hs
          clear hs'
          obtain ⟨lj, hlj2⟩ : ∃ x, rem.get j = x := ⟨_, rfl⟩
          obtain ⟨dj, hdj2⟩ : ∃ x, own.get j = x := ⟨_, rfl⟩
          rw [hlj2] at v1 hjl hjd hs
          rw [hdj2] at v2 hjd hs
          clear hlj2 hdj2
          have l12 := s5.lt
          have l11 := s8.lt
          have f12 := s5.frozen0
          have hj33 : (j : Int) < 3 := by omega
          have DD := (Below.refl Z.heap.size Z).drew
          go_upto_region 16 with fail
          refine wp_region_ext_mix 8 [(false, 0), (false, 1), (false, 2), (false, 3), (false, 4), (false, 5), (false, 6), (false, 7)] (by kernel_rfl) (by kernel_rfl) (by intro d _ _ _ _ h; cases d <;> exact h) ?_
          repeat (refine mix_quiet rfl ?_; go_big_quiet_step (fail); refine wpQuiet_nil ?_)
          refine mix_nil (r := [_]) rfl ?_
          have hs2 : Blk (Z.drew.setCell ⟨p5, j, none⟩ (.int .i64 (lj - dj))) p5 136 (v3C (subTo rem own (j + 1))) := hs
          have frz2 : Fr (fun b => b = p5) w1 (Z.drew.setCell ⟨p5, j, none⟩ (.int .i64 (lj - dj))) := (frz.trans (Fr.below (R := fun b => b = p5) DD) (fun _ _ h => h)).trans (Fr.set (R := fun b => b = p5) _ _ _ _ rfl) (fun _ _ h => h)
          go_wp2_with fail
          refine ⟨⟨⟨j + 1, by omega, hs2, frz2, exFrame (by kernel_rfl)⟩⟩, ?_⟩
          show 3 - (intOf (.int .i64 ((j : Int) + 1))).toNat < 3 - (intOf (.int .i64 (j : Int))).toNat
          simp [intOf]
          omega
        · obtain rfl : j = 3 := by omega
          rw [subTo_all] at s5
          have q0z := q0w.fr frz (by omega)
          have mpz := mpw.fr frz (by omega)
          have hOz := hN3.fr frz (fun g h _ e => by omega)
          have Bz := frz.toBelow Bww Bww.size (fun x hx => by omega)
          have hzz := frz.size
          have HI2 : Hid (m - 1 < n ∧ FewIs t (rem.sub own) (m - 1) ∧ m - 1 ≤ 6 ∧ Chain t (Ls ++ [own]) h0 (rem.sub own) ∧ (Ls ++ [own]).length + (m - 1) = m0) := Lib.hid (by
            obtain ⟨h1, h2, h3, h4, h5, h6⟩ := HI.out
            obtain ⟨g1, g2, g3, g4, g5⟩ := HOW.out
            exact ⟨by omega, g5, by omega, .snoc h4 g3 g4, by rw [List.length_append]; simp; omega⟩)
          have hok2 := (HOW.out.2.2.1.hr hok).2
          go_wp2_with fail
          exact ⟨m - 1, HI2.out.1, ⟨m - 1, rem.sub own, Ls ++ [own], X2, F1, vo2, Lib.hid ⟨rfl, HI2.out.2.1, HI2.out.2.2.1, HI2.out.2.2.2.1, HI2.out.2.2.2.2, HXX.out⟩, hok2, s5, q0z, mpz, ko1, hOz, Bz, by omega, exFrame (by kernel_rfl)⟩⟩
  · have HE : Hid (roE t = ckTm t) := Lib.hid (by unfold roE; rw [if_neg hc])
    go_wp2
    go_ret2
    exact ⟨⟨none, 0, 0, by rw [HE.out]; rfl, fun h => (hc (HE.out ▸ h)).elim, fun _ => ⟨rfl, rfl⟩⟩, B2⟩
end Go.Proofs.Ythihdiilokdidaa
end
