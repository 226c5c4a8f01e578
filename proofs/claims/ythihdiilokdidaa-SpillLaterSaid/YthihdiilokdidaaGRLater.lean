/- Spill's reference (plain): all truths by number. · Spill's laws: rows of the call's own that are written in place; a day more (plain). · Spill's laws: SpillLater (walk). · The row SpillLater: with one day more, on which nothing is moved or weighed, the stocks of the days before have the same ranges. -/
import Derived.WalkKit
import Derived.ProofKit
import Derived.OpenShut
import Derived.Test.YthihdiilokdidaaQ14
import Derived.Test.YthihdiilokdidaaQ13
import Derived.Test.YthihdiilokdidaaRows
import Derived.Test.YthihdiilokdidaaQ12
set_option linter.unusedVariables false
set_option linter.unusedSimpArgs false
set_option linter.unusedSectionVars false
section
namespace Go.Proofs.Ythihdiilokdidaa

/-- the product of the first so many widths. -/
def prodW (wd : Nat → Nat) : Nat → Nat
  | 0 => 1
  | k + 1 => prodW wd k * wd k
/-- what is left of a number after so many places. -/
def remW (wd : Nat → Nat) (n : Nat) : Nat → Nat
  | 0 => n
  | k + 1 => remW wd n k / wd k
/-- the product, but at most a great number. -/
def wideTo (wd : Nat → Nat) : Nat → Nat
  | 0 => 1
  | k + 1 => min 1048576 (wideTo wd k * wd k)
/-- how wide a range is. -/
def wdR (r : Rg) : Nat := (r.hi - r.lo + 1).toNat
/-- the range at a place: of each room its first and the vapours of all days, then the moves. -/
def rgP (w : Wo) (k : Nat) : Rg :=
  if k < w.rooms.length * (w.days + 1) then (if k % (w.days + 1) = 0 then (gRm w.rooms (k / (w.days + 1))).fst else (gRm w.rooms (k / (w.days + 1))).vap) else (gMv w.moves (k - w.rooms.length * (w.days + 1))).g
def wdP (w : Wo) (k : Nat) : Nat := wdR (rgP w k)
def placesP (w : Wo) : Nat := w.rooms.length * (w.days + 1) + w.moves.length
section
variable {w : Wo}
theorem place_lt {R D i j : Nat} (hi : i < R) (hj : j < D) : i * D + j < R * D := by
  have : (i + 1) * D ≤ R * D := Nat.mul_le_mul_right _ hi
  rw [Nat.add_mul, Nat.one_mul] at this
  omega
/-- the truth with a number. -/
def valP (w : Wo) (n k : Nat) : Int := (rgP w k).lo + ((remW (wdP w) n k % wdP w k : Nat) : Int)
def nthF (w : Wo) (n : Nat) : Nat → Int := fun i => valP w n (i * (w.days + 1))
def nthV (w : Wo) (n : Nat) : Nat → Nat → Int := fun i d => valP w n (i * (w.days + 1) + 1 + d)
def nthG (w : Wo) (n : Nat) : Nat → Int := fun i => valP w n (w.rooms.length * (w.days + 1) + i)
/-- a number's truth is the same in these. -/
structure SameT (w : Wo) (F : Nat → Int) (V : Nat → Nat → Int) (G : Nat → Int) (F' : Nat → Int) (V' : Nat → Nat → Int) (G' : Nat → Int) : Prop where
  fst : ∀ r, r < w.rooms.length → F r = F' r
  vap : ∀ r d, r < w.rooms.length → d < w.days → V r d = V' r d
  mov : ∀ i, i < w.moves.length → G i = G' i
theorem SameT.stk {F : Nat → Int} {V : Nat → Nat → Int} {G : Nat → Int} {F' : Nat → Int} {V' : Nat → Nat → Int} {G' : Nat → Int} (h : SameT w F V G F' V' G') {r : Nat} (hr : r < w.rooms.length) : ∀ d, d < w.days → stk w F V G r d = stk w F' V' G' r d := by
  have hc : ∀ d : Int, comes w G r d w.moves.length = comes w G' r d w.moves.length := fun d => by
    unfold comes
    refine esum_congr (fun i hi => ?_)
    rw [h.mov i (by simpa using hi)]
  intro d
  induction d with
  | zero =>
    intro hd
    show F r + (comes w G r 0 w.moves.length - V r 0) = F' r + (comes w G' r 0 w.moves.length - V' r 0)
    rw [h.fst r hr, h.vap r 0 hr hd, hc]
  | succ d ih =>
    intro hd
    show Proofs.Ythihdiilokdidaa.stk w F V G r d + (comes w G r ((d : Int) + 1) w.moves.length - V r (d + 1)) = Proofs.Ythihdiilokdidaa.stk w F' V' G' r d + (comes w G' r ((d : Int) + 1) w.moves.length - V' r (d + 1))
    rw [ih (by omega), h.vap r (d + 1) hr hd, hc]
theorem SameT.good {F : Nat → Int} {V : Nat → Nat → Int} {G : Nat → Int} {F' : Nat → Int} {V' : Nat → Nat → Int} {G' : Nat → Int} {out : Nat → Bool} (h : SameT w F V G F' V' G') (hw : WoOk w) (hg : GoodF w out F V G) : GoodF w out F' V' G' where
  tru := ⟨fun r hr => by rw [← h.fst r hr]; exact hg.tru.fst r hr, fun r d hr hd => by rw [← h.vap r d hr hd]; exact hg.tru.vap r d hr hd, fun i hi => by rw [← h.mov i hi]; exact hg.tru.mov i hi⟩
  can := fun r d hr hd => by rw [← h.stk hr d hd]; exact hg.can r d hr hd
  agr := fun i hi ho => by
    have := hw.wgs i hi
    rw [← h.stk (by omega) _ (by omega)]
    exact hg.agr i hi ho
/-- a truth with a number that can be, and agrees with all weighings but some. -/
def goodN (w : Wo) (out : Nat → Bool) (n : Nat) : Prop := GoodF w out (nthF w n) (nthV w n) (nthG w n)
def stkN (w : Wo) (n : Nat) : Nat → Nat → Int := stk w (nthF w n) (nthV w n) (nthG w n)
end
end Go.Proofs.Ythihdiilokdidaa
end

section
namespace Go.Proofs.Ythihdiilokdidaa
open Go.RowKit
section
variable {α : Type} {f : α → List Value} {sz : Nat} {w : World} {base : Nat} {e : TypeId} {v : Value} {l : List α}
theorem row_at (hf : ∀ a, (f a).length = sz) (hsz : 0 < sz) (h : w.ownsRow base e sz v l.length (l.flatMap f)) {k : Nat} (hk : k < l.length) :
    ∃ g cap, v = .slice (some ⟨g, 0, none⟩) l.length cap ∧ base ≤ g ∧ g < w.heap.size ∧ (∀ j, j < sz → w.cell? ⟨g, k * sz + j, none⟩ = (f l[k])[j]?) ∧ ∀ i, w.frozen? ⟨g, i, none⟩ = false := by
  obtain ⟨g, cap, rfl, hb, hl, _, _, hc, hfz⟩ := own_cell h (by omega)
  refine ⟨g, cap, rfl, hb, hl, fun j hj => ?_, hfz⟩
  have hlen := flat_len (f := f) (sz := sz) hf l
  have hlt : k * sz + j < l.length * sz := place_lt hk hj
  rw [hc _ (by rw [hlen]; exact hlt)]
  exact flat_get (f := f) (sz := sz) hf hk hj
theorem row_put (hf : ∀ a, (f a).length = sz) (h : w.ownsRow base e sz v l.length (l.flatMap f)) {g : Nat} (hg : v.ownBlock = some g) {k : Nat} (hk : k < l.length) {j : Nat} (hj : j < sz) {u : Value} {a : α} (ha : (f l[k]).set j u = f a) :
    (w.setCell ⟨g, k * sz + j, none⟩ u).ownsRow base e sz v (l.set k a).length ((l.set k a).flatMap f) := by
  have hlen := flat_len (f := f) (sz := sz) hf l
  have hlt : k * sz + j < l.length * sz := place_lt hk hj
  have := own_set h hg (j := k * sz + j) (by rw [hlen]; exact hlt) u
  rw [flat_set (f := f) (sz := sz) hf hk hj ha] at this
  rw [List.length_set]
  exact this
end
theorem cRm_at (l : List Rm) (k : Nat) (hk : k < l.length) (j : Nat) (hj : j < 4) : (cRm l[k])[j]? = some (fRm l k j) := by
  have hg := gRm_at hk
  match j, hj with
  | 0, _ => simp [cRm, fRm, hg]
  | 1, _ => simp [cRm, fRm, hg]
  | 2, _ => simp [cRm, fRm, hg]
  | 3, _ => simp [cRm, fRm, hg]
theorem cRm_one (a : Rm) (u : Value) (hu : u ∈ cRm a) : u.oneCell' = true := by
  simp only [cRm, List.mem_cons, List.not_mem_nil, or_false] at hu
  rcases hu with rfl | rfl | rfl | rfl <;> rfl
theorem roomR_info : (Try.prog.info? 76).map (fun i => (i.zero, i.size, i.bytes)) = some (some (.agg #[.int .i64 0, .int .i64 0, .int .i64 0, .int .i64 0]), 4, 32) := by kernel_rfl
theorem gRm_set {l : List Rm} {k : Nat} (hk : k < l.length) (a : Rm) (j : Nat) : gRm (l.set k a) j = if j = k then a else gRm l j := by
  unfold gRm
  rw [List.getD_eq_getElem?_getD, List.getD_eq_getElem?_getD, List.getElem?_set]
  by_cases h : k = j
  · subst h; rw [if_pos rfl, if_pos hk, if_pos rfl]; rfl
  · rw [if_neg h, if_neg (fun e => h e.symm)]
/-- a works with other rooms. -/
abbrev zW (s : Ws) (R : List Rm) : Ws := ⟨R, s.days, s.moves, s.wgs⟩
/-- a works with one day more. -/
abbrev Ws.more (s : Ws) : Ws := ⟨s.rooms, s.days + 1, s.moves, s.wgs⟩
theorem more_days {s : Ws} (h : s.days = (s.wo.days : Int)) : s.more.wo.days = s.wo.days + 1 := by
  show (s.days + 1).toNat = s.wo.days + 1
  omega
theorem rngOf_congr {Z Z' : Int → Prop} (h : ∀ z, Z z ↔ Z' z) : rngOf Z = rngOf Z' := by
  rw [show Z = Z' from funext fun z => propext (h z)]
/-- with one day more, and no vapour that must be. -/
structure MoreIs (s : Ws) : Prop where
  yes : stE s.more = 0
  same : ∀ r d, r < s.rooms.length → d < s.wo.days → stkR s.more.wo off0 r d = stkR s.wo off0 r d
theorem more_is {s : Ws} (hc : ckWs s = 0) (hg : Good s.wo off0) (h0 : ∀ r, r < s.rooms.length → (gRm s.rooms r).vap.lo = 0) (hm : ckWs s.more = 0) : MoreIs s := by
  obtain ⟨hw, hd⟩ := ckWs_iff.1 hc
  have hl : Later s.wo s.more.wo := ⟨rfl, by show (s.days + 1).toNat = s.days.toNat + 1; have := hw.days.1; omega, rfl, rfl⟩
  have h1 : 0 < s.rooms.length := hw.len.1
  have h2 := hw.days.1
  refine ⟨stE_zero.2 ⟨hm, ?_⟩, fun r d hr hdd => rngOf_congr fun z => hl.stkZ hw h0 hdd hr z⟩
  obtain ⟨F, V, G, hgf⟩ := hg
  obtain ⟨F', V', G', hg', _⟩ := (hl.stkZ hw h0 (r := 0) (d := 0) (by omega) h1 (stk s.wo F V G 0 0)).2 ⟨F, V, G, hgf, rfl⟩
  exact ⟨F', V', G', hg'⟩
end Go.Proofs.Ythihdiilokdidaa
end

section
namespace Go.Proofs.Ythihdiilokdidaa
open Go.RowKit
attribute [local go_sem] Ex.cell? Ex.frozen?

set_option maxRecDepth 100000 in
set_option maxHeartbeats 12800000 in
theorem LaterLaw_any (s : Ws) (Ar Am Aw : Option Addr) (cr cm cw : Nat) (w : World) (hs : WsIn w w.heap.size s Ar Am Aw) (AW : Option Addr) (cW : Nat) (ws : List Int) (hwd : SlAt w w.heap.size 1 AW ws.length (fU ws)) (hwb : ∀ k, k < ws.length → 0 ≤ gI ws k ∧ gI ws k ≤ 65535) (hwl : ws.length ≤ maxLen) :
    Calls Try.prog 7 #[.agg #[.slice Ar s.rooms.length cr, .int .i64 s.days, .slice Am s.moves.length cm, .slice Aw s.wgs.length cw], .slice AW ws.length cW] w fun e w' => e = .returned (.bool true) ∧ Below w.heap.size w w' := by
  obtain ⟨i0, hi0, hy0, hy1, hy2⟩ := info_parts roomR_info
  have HJ := Lib.hid hi0
  clear hi0
  have hb1 := ex_alloc (Below.refl w.heap.size w) (.cells #[.slice Ar s.rooms.length cr, .int .i64 s.days, .slice Am s.moves.length cm, .slice Aw s.wgs.length cw] 26)
  have q0 : Blk (w.alloc (.cells #[.slice Ar s.rooms.length cr, .int .i64 s.days, .slice Am s.moves.length cm, .slice Aw s.wgs.length cw] 26)) (w.heap.size) 26 #[.slice Ar s.rooms.length cr, .int .i64 s.days, .slice Am s.moves.length cm, .slice Aw s.wgs.length cw] := Blk.new _ _ _
  replace hs := hs.go hb1
  replace hwd := (hwd.below hb1).up hb1.size
  have HWB := Lib.hid hwb
  clear hwb
  go_enter Try.func7, Try.ntmps7
  go_upto_region 1 with fail
  show Code.wp _ _ _ _ (w.alloc (.cells #[.slice Ar s.rooms.length cr, .int .i64 s.days, .slice Am s.moves.length cm, .slice Aw s.wgs.length cw] 26))
  obtain ⟨pq0, hpq0⟩ : ∃ p, w.heap.size = p := ⟨_, rfl⟩
  rw [hpq0] at q0 ⊢
  clear hpq0
  generalize w.alloc (.cells #[.slice Ar s.rooms.length cr, .int .i64 s.days, .slice Am s.moves.length cm, .slice Aw s.wgs.length cw] 26) = V at *
  have a0 : V.cell? ⟨pq0, 0, none⟩ = some (.slice Ar s.rooms.length cr) := q0.cell 0
  have a1 : V.cell? ⟨pq0, 1, none⟩ = some (.int .i64 s.days) := q0.cell 1
  have a2 : V.cell? ⟨pq0, 2, none⟩ = some (.slice Am s.moves.length cm) := q0.cell 2
  have a3 : V.cell? ⟨pq0, 3, none⟩ = some (.slice Aw s.wgs.length cw) := q0.cell 3
  have la := q0.lt
  go_wp2_with fail
  refine (Thin_any s Ar Am Aw cr cm cw V hs ⟨[], [], []⟩ none none none 0 0 0 (fun _ => none) (fun _ => 0) ⟨fun h => absurd h (by simp), fun h => absurd h (by simp), fun k h => absurd h (by simp), fun h => absurd h (by simp)⟩).mono ?_
  rintro e Va ⟨rfl, hVa⟩
  replace hs := hs.go hVa
  replace hwd := (hwd.below hVa).up hVa.size
  replace q0 := q0.below hVa q0.lt
  have B_Va := ex_trans hb1 hVa
  clear a0 a1 a2 a3 la
  have a0 : Va.cell? ⟨pq0, 0, none⟩ = some (.slice Ar s.rooms.length cr) := q0.cell 0
  have a1 : Va.cell? ⟨pq0, 1, none⟩ = some (.int .i64 s.days) := q0.cell 1
  have a2 : Va.cell? ⟨pq0, 2, none⟩ = some (.slice Am s.moves.length cm) := q0.cell 2
  have a3 : Va.cell? ⟨pq0, 3, none⟩ = some (.slice Aw s.wgs.length cw) := q0.cell 3
  have la := q0.lt
  cases hth : thinB s ⟨[], [], []⟩
  · clear hth
    go_wp2_with fail
    refine (awake_any Va).mono ?_
    rintro e Wz ⟨rfl, hz⟩
    go_wp2
    go_ret
    exact ⟨rfl, ex_trans B_Va hz⟩
  clear hth
  go_wp2_with fail
  refine (fault_any s Ar Am Aw cr cm cw Va hs).mono ?_
  rintro e Vb ⟨rfl, hVb⟩
  replace hs := hs.go hVb
  replace hwd := (hwd.below hVb).up hVb.size
  replace q0 := q0.below hVb q0.lt
  have B_Vb := ex_trans B_Va hVb
  clear a0 a1 a2 a3 la
  have a0 : Vb.cell? ⟨pq0, 0, none⟩ = some (.slice Ar s.rooms.length cr) := q0.cell 0
  have a1 : Vb.cell? ⟨pq0, 1, none⟩ = some (.int .i64 s.days) := q0.cell 1
  have a2 : Vb.cell? ⟨pq0, 2, none⟩ = some (.slice Am s.moves.length cm) := q0.cell 2
  have a3 : Vb.cell? ⟨pq0, 3, none⟩ = some (.slice Aw s.wgs.length cw) := q0.cell 3
  have la := q0.lt
  by_cases hck : ckWs s = 0
  rotate_left
  · have e0 : (ckWs s == 0) = false := by simp [hck]
    have e1 : (ckWs s != 0) = true := by simp [hck]
    generalize ckWs s = cc at *
    clear hck
    go_wp2_with fail
    refine (awake_any Vb).mono ?_
    rintro e Wz ⟨rfl, hz⟩
    go_wp2
    go_ret
    exact ⟨rfl, ex_trans B_Vb hz⟩
  obtain ⟨hwo, hdd⟩ := ckWs_iff.1 hck
  rw [hck]
  have hnr : 1 ≤ s.rooms.length ∧ s.rooms.length ≤ 3 := ⟨hwo.len.1, hwo.len.2.1⟩
  have hdays : 1 ≤ s.days ∧ s.days ≤ 6 := by have := hwo.days; omega
  clear hck hwo hdd
  have NV := ex_alloc (Below.refl Vb.heap.size Vb) (.cells #[.slice Ar s.rooms.length cr, .int .i64 s.days, .slice Am s.moves.length cm, .slice Aw s.wgs.length cw] 26)
  have qv : Blk (Vb.alloc (.cells #[.slice Ar s.rooms.length cr, .int .i64 s.days, .slice Am s.moves.length cm, .slice Aw s.wgs.length cw] 26)) Vb.heap.size 26 #[.slice Ar s.rooms.length cr, .int .i64 s.days, .slice Am s.moves.length cm, .slice Aw s.wgs.length cw] := Blk.new _ _ _
  go_upto_region 4 with fail
  clear a0 a1 a2 a3 la
  have hpw : w.heap.size ≤ Vb.heap.size := B_Vb.size
  obtain ⟨pv, hpv⟩ : ∃ p, Vb.heap.size = p := ⟨_, rfl⟩
  rw [hpv] at qv ⊢
  have hpv0 : Vb.heap.size ≤ pv := by omega
  have hpq : pq0 < pv := by have := q0.lt; omega
  clear hpv
  generalize Vb.alloc (.cells #[.slice Ar s.rooms.length cr, .int .i64 s.days, .slice Am s.moves.length cm, .slice Aw s.wgs.length cw] 26) = Vc at *
  have a0 : Vc.cell? ⟨pq0, 0, none⟩ = some (.slice Ar s.rooms.length cr) := (q0.below NV q0.lt).cell 0
  have l0 : pq0 < Vc.heap.size := (q0.below NV q0.lt).lt
  have hsr := (hs.rooms.below NV).up NV.size
  have NE := ex_alloc (Below.refl Vc.heap.size Vc) (.cells #[] 76)
  have qe : Blk (Vc.alloc (.cells #[] 76)) Vc.heap.size 76 #[] := Blk.new _ _ _
  have hLE := (hsr.below NE).up NE.size
  go_wp2_with (refine pause_at 32 rfl ?_)
  refine Paused.mk ?_
  refine wpList_append_list (α := Rm) (f := cRm) (F := fRm) (sz := 4) (fun _ => rfl) cRm_at cRm_one rfl _ _ _ rfl Vc.heap.size 76 i0 _ 32 Try.underlying22 HJ.out hy0 hy1 hy2 rfl (by omega) (some ⟨Vc.heap.size, 0, none⟩) 0 [] rfl (own_empty qe (Nat.le_refl _)) Ar cr s.rooms rfl hLE (by simp; unfold maxLen; omega) (by simp; omega) NE.size (Vc.heap.size + 1) (by simp) ?_
  intro L1 B1' k1' v1 HL1 o1 g1 n1
  have HL1' : Hid (L1 = s.rooms) := Lib.hid HL1.out
  have E1 : Below Vc.heap.size Vc v1 := NE.grown g1 NE.size (fun j hj => by have : Vc.heap.size = j := (by simpa [Value.ownBlock] using hj); omega)
  clear HL1 hLE g1 n1 NE qe
  have hnl : Hid (L1.length = s.rooms.length) := Lib.hid (by rw [HL1'.out])
  have qv2 := qv.below E1 qv.lt
  have lv := qv2.lt
  have fv := qv2.frozen0
  have z0 : v1.cell? ⟨pv, 0, none⟩ = some (.slice Ar s.rooms.length cr) := qv2.cell 0
  have qv3 := qv2.set_ 0 (.slice B1' L1.length k1')
  simp only [List.setIfInBounds_toArray, List.set_cons_zero, List.set_cons_succ] at qv3
  have hpB : pv < Vc.heap.size := qv.lt
  have own3 := own_far o1 (p := ⟨pv, 0, none⟩) (by show pv < Vc.heap.size; omega) (.slice B1' L1.length k1')
  have hN : Below Vb.heap.size Vb (v1.setCell ⟨pv, 0, none⟩ (.slice B1' L1.length k1')) := ex_set (ex_trans NV E1) (by show Vb.heap.size ≤ pv; omega) (.slice B1' L1.length k1')
  go_upto_region 5 with fail
  generalize v1.setCell ⟨pv, 0, none⟩ (.slice B1' L1.length k1') = Vd at *
  clear z0 lv fv qv qv2 a0 l0 hsr o1 E1 NV
  generalize Value.slice B1' L1.length k1' = vv at *
  obtain ⟨B0, hB0⟩ : ∃ b, Vc.heap.size = b := ⟨_, rfl⟩
  rw [hB0] at own3 hpB
  clear hB0
  have HR0 : Hid (L1.length = s.rooms.length ∧ ∀ j, j < 0 → (gRm L1 j).vap.lo = 0) := Lib.hid ⟨hnl.out, fun j hj => by omega⟩
  clear HL1' hnl
  go_wp2_with fail
  refine wp_loop (fun a W => Rel (fun a W => ∃ k : Nat, k ≤ s.rooms.length ∧ Below Vb.heap.size Vb W ∧ (∃ v R, Blk W pv 26 #[v, .int .i64 s.days, .slice Am s.moves.length cm, .slice Aw s.wgs.length cw] ∧ W.ownsRow B0 76 4 v R.length (R.flatMap cRm) ∧ Hid (R.length = s.rooms.length ∧ ∀ j, j < k → (gRm R j).vap.lo = 0) ∧ ∃ u : Nat → Value, a = ⟨List.toArray (u 0 :: .slice AW ws.length cW :: .pointer (some ⟨pq0, 0, none⟩) :: u 3 :: u 4 :: .pointer (some ⟨pv, 0, none⟩) :: .int .i64 (k : Int) :: u 7 :: u 8 :: u 9 :: u 10 :: u 11 :: u 12 :: u 13 :: u 14 :: u 15 :: u 16 :: u 17 :: u 18 :: u 19 :: u 20 :: u 21 :: u 22 :: u 23 :: u 24 :: u 25 :: u 26 :: u 27 :: u 28 :: u 29 :: u 30 :: u 31 :: u 32 :: u 33 :: u 34 :: u 35 :: u 36 :: u 37 :: u 38 :: u 39 :: u 40 :: u 41 :: u 42 :: u 43 :: u 44 :: u 45 :: u 46 :: u 47 :: u 48 :: u 49 :: u 50 :: u 51 :: u 52 :: u 53 :: u 54 :: u 55 :: u 56 :: u 57 :: u 58 :: u 59 :: u 60 :: u 61 :: u 62 :: u 63 :: u 64 :: u 65 :: u 66 :: u 67 :: u 68 :: u 69 :: u 70 :: u 71 :: u 72 :: u 73 :: u 74 :: u 75 :: u 76 :: u 77 :: u 78 :: u 79 :: u 80 :: u 81 :: u 82 :: u 83 :: u 84 :: u 85 :: u 86 :: u 87 :: u 88 :: u 89 :: u 90 :: u 91 :: u 92 :: u 93 :: u 94 :: u 95 :: u 96 :: u 97 :: u 98 :: u 99 :: u 100 :: u 101 :: u 102 :: u 103 :: u 104 :: u 105 :: u 106 :: u 107 :: u 108 :: u 109 :: u 110 :: u 111 :: u 112 :: u 113 :: u 114 :: u 115 :: u 116 :: u 117 :: u 118 :: u 119 :: u 120 :: u 121 :: u 122 :: u 123 :: u 124 :: u 125 :: u 126 :: u 127 :: u 128 :: u 129 :: u 130 :: u 131 :: u 132 :: u 133 :: u 134 :: u 135 :: u 136 :: u 137 :: u 138 :: []), []⟩)) a W) (fun a _ => s.rooms.length - (intOf (a.tmps.getD 6 undef)).toNat) ⟨⟨0, by omega, hN, _, _, qv3, own3, HR0, exFrame (by kernel_rfl)⟩⟩ ?_
  clear hN qv3 own3 HR0 vv L1 Vd
  rintro a W ⟨⟨k, hk, hbw, v, R, qv, hown, HR, u, rfl⟩⟩
  have lv := qv.lt
  have z0 : W.cell? ⟨pv, 0, none⟩ = some v := qv.cell 0
  have hRl : Hid (R.length = s.rooms.length) := Lib.hid HR.out.1
  by_cases hlt : k < s.rooms.length
  · obtain ⟨g, cap, rfl, hgB, hgW, hcl, hfz⟩ := row_at (f := cRm) (sz := 4) (fun _ => rfl) (by omega) hown (show k < R.length by rw [hRl.out]; exact hlt)
    have c2 := hcl 2 (by omega)
    rw [show (cRm (R[k]'(by rw [hRl.out]; exact hlt)))[2]? = some (.int .i64 (R[k]'(by rw [hRl.out]; exact hlt)).vap.lo) from rfl] at c2
    obtain ⟨vl, hvl⟩ : ∃ x, (R[k]'(by rw [hRl.out]; exact hlt)).vap.lo = x := ⟨_, rfl⟩
    rw [hvl] at c2
    clear hvl hcl
    have hkR : (k : Int) < (R.length : Int) := by rw [hRl.out]; omega
    have own2 := row_put (f := cRm) (sz := 4) (fun _ => rfl) hown (g := g) rfl (show k < R.length by rw [hRl.out]; exact hlt) (j := 2) (by omega) (u := .int .i64 0) (a := ⟨(R[k]'(by rw [hRl.out]; exact hlt)).fst, ⟨0, (R[k]'(by rw [hRl.out]; exact hlt)).vap.hi⟩⟩) rfl
    have HR2 : Hid ((R.set k ⟨(R[k]'(by rw [hRl.out]; exact hlt)).fst, ⟨0, (R[k]'(by rw [hRl.out]; exact hlt)).vap.hi⟩⟩).length = s.rooms.length ∧ ∀ j, j < k + 1 → (gRm (R.set k ⟨(R[k]'(by rw [hRl.out]; exact hlt)).fst, ⟨0, (R[k]'(by rw [hRl.out]; exact hlt)).vap.hi⟩⟩) j).vap.lo = 0) := Lib.hid ⟨by rw [List.length_set]; exact hRl.out, fun j hj => by
      rw [gRm_set (by rw [hRl.out]; exact hlt)]
      by_cases h : j = k
      · rw [if_pos h]
      · rw [if_neg h]; exact HR.out.2 j (by omega)⟩
    have qv2 := qv.far (p := ⟨g, k * 4 + 2, none⟩) (by show pv ≠ g; omega) (.int .i64 0)
    have hb2 := ex_set hbw (p := ⟨g, k * 4 + 2, none⟩) (by show Vb.heap.size ≤ g; omega) (.int .i64 0)
    skip
    obtain ⟨R2, hR2⟩ : ∃ R2, R.set k ⟨(R[k]'(by rw [hRl.out]; exact hlt)).fst, ⟨0, (R[k]'(by rw [hRl.out]; exact hlt)).vap.hi⟩⟩ = R2 := ⟨_, rfl⟩
    rw [hR2] at own2 HR2
    clear hR2
    go_wp2_with fail
    refine ⟨⟨⟨k + 1, by omega, hb2, _, R2, qv2, own2, HR2, exFrame (by kernel_rfl)⟩⟩, ?_⟩
    show s.rooms.length - (intOf (.int .i64 ((k : Int) + 1))).toNat < s.rooms.length - (intOf (.int .i64 (k : Int))).toNat
    simp [intOf]
    omega
  have hk1 : k = s.rooms.length := by omega
  have HR2 : Hid (∀ j, j < R.length → (gRm R j).vap.lo = 0) := Lib.hid (fun j hj => HR.out.2 j (by rw [hRl.out] at hj; omega))
  have hRn : 1 ≤ R.length ∧ R.length ≤ 3 := by rw [hRl.out]; exact hnr
  obtain ⟨A0, c0, rfl, _, _, ro⟩ := lay_Rm 76 hown
  have hkn : ¬ (k : Int) < (R.length : Int) := by rw [hRl.out]; omega
  clear hlt hk hk1 HR hRl hnr hown
  replace hs := hs.go hbw
  replace hwd := (hwd.below hbw).up hbw.size
  replace q0 := q0.below hbw q0.lt
  have B_W := ex_trans B_Vb hbw
  have hz : WsIn W W.heap.size (zW s R) A0 Am Aw := ⟨ro.sl, hs.moves, hs.wgs⟩
  clear ro z0 lv
  have a0 : W.cell? ⟨pv, 0, none⟩ = some (.slice A0 (zW s R).rooms.length c0) := qv.cell 0
  have a1 : W.cell? ⟨pv, 1, none⟩ = some (.int .i64 (zW s R).days) := qv.cell 1
  have a2 : W.cell? ⟨pv, 2, none⟩ = some (.slice Am (zW s R).moves.length cm) := qv.cell 2
  have a3 : W.cell? ⟨pv, 3, none⟩ = some (.slice Aw (zW s R).wgs.length cw) := qv.cell 3
  have la := qv.lt
  go_wp2_with fail
  refine (lives_any (zW s R) A0 Am Aw c0 cm cw W hz AW cW ws hwd HWB.out hwl 0 (by omega)).mono ?_
  rintro e V1 ⟨⟨hlv⟩, hV1⟩
  replace hz := hz.go hV1
  replace hwd := (hwd.below hV1).up hV1.size
  replace qv := qv.below hV1 qv.lt
  have B_V1 := ex_trans B_W hV1
  rcases hlv with ⟨A1, A2, A3, A4, A5, A6, A7, c1, c2, c3, c4, c5, c6, c7, n1, n2, n3, n4, n5, n6, n7, d, rfl⟩ | ⟨t, L, A3, A4, A5, A6, A7, c3, c4, c5, c6, c7, rV, rcV, rA, rc, rfl, hlx, hx, ht, hM⟩
  · clear a0 a1 a2 a3 la
    have a0 : V1.cell? ⟨pv, 0, none⟩ = some (.slice A0 (zW s R).rooms.length c0) := qv.cell 0
    have a1 : V1.cell? ⟨pv, 1, none⟩ = some (.int .i64 (zW s R).days) := qv.cell 1
    have a2 : V1.cell? ⟨pv, 2, none⟩ = some (.slice Am (zW s R).moves.length cm) := qv.cell 2
    have a3 : V1.cell? ⟨pv, 3, none⟩ = some (.slice Aw (zW s R).wgs.length cw) := qv.cell 3
    have la := qv.lt
    go_wp2_with fail
    refine (awake_any _).mono ?_
    rintro e Wz ⟨rfl, hz⟩
    go_wp2
    go_ret
    exact ⟨rfl, ex_trans (ex_alloc (ex_alloc (ex_alloc B_V1 _) _) _) hz⟩
  have HLX := Lib.hid hlx
  clear hlx
  replace hx : WsIn V1 V1.heap.size ((zW s R).wg L) A0 Am A3 := ⟨hz.rooms, hz.moves, hx⟩
  clear a0 a1 a2 a3 la
  have a0 : V1.cell? ⟨pv, 0, none⟩ = some (.slice A0 (zW s R).rooms.length c0) := qv.cell 0
  have a1 : V1.cell? ⟨pv, 1, none⟩ = some (.int .i64 (zW s R).days) := qv.cell 1
  have a2 : V1.cell? ⟨pv, 2, none⟩ = some (.slice Am (zW s R).moves.length cm) := qv.cell 2
  have a3 : V1.cell? ⟨pv, 3, none⟩ = some (.slice Aw (zW s R).wgs.length cw) := qv.cell 3
  have la := qv.lt
  have N2 := ex_alloc (ex_alloc (Below.refl V1.heap.size V1) (.cells #[.slice A0 (zW s R).rooms.length c0, .int .i64 (zW s R).days, .slice Am (zW s R).moves.length cm, .slice A3 L.length c3] 26)) (.cells #[.slice A4 t.fs.length c4, .slice A5 t.vs.length c5, .slice A6 t.gs.length c6] 31)
  have qx : Blk ((V1.alloc (.cells #[.slice A0 (zW s R).rooms.length c0, .int .i64 (zW s R).days, .slice Am (zW s R).moves.length cm, .slice A3 L.length c3] 26)).alloc (.cells #[.slice A4 t.fs.length c4, .slice A5 t.vs.length c5, .slice A6 t.gs.length c6] 31)) V1.heap.size 26 #[.slice A0 (zW s R).rooms.length c0, .int .i64 (zW s R).days, .slice Am (zW s R).moves.length cm, .slice A3 L.length c3] := (Blk.new _ _ _).alloc _
  have qt : Blk ((V1.alloc (.cells #[.slice A0 (zW s R).rooms.length c0, .int .i64 (zW s R).days, .slice Am (zW s R).moves.length cm, .slice A3 L.length c3] 26)).alloc (.cells #[.slice A4 t.fs.length c4, .slice A5 t.vs.length c5, .slice A6 t.gs.length c6] 31)) (V1.heap.size + 1) 31 #[.slice A4 t.fs.length c4, .slice A5 t.vs.length c5, .slice A6 t.gs.length c6] := Blk.new' _ _ _ (by simp)
  go_upto_region 10 with fail
  clear a0 a1 a2 a3 la
  replace hz := hz.go N2
  replace hwd := (hwd.below N2).up N2.size
  replace qv := qv.below N2 qv.lt
  replace hx := hx.go N2
  replace ht := ht.go N2
  replace hM := hM.go N2
  have B_V2 := ex_trans B_V1 N2
  obtain ⟨pqx, hpqx⟩ : ∃ p, V1.heap.size = p := ⟨_, rfl⟩
  rw [hpqx] at qx qt ⊢
  clear N2
  generalize (V1.alloc (.cells #[.slice A0 (zW s R).rooms.length c0, .int .i64 (zW s R).days, .slice Am (zW s R).moves.length cm, .slice A3 L.length c3] 26)).alloc (.cells #[.slice A4 t.fs.length c4, .slice A5 t.vs.length c5, .slice A6 t.gs.length c6] 31) = V2 at *
  clear hpqx
  have HSX : Hid (((zW s R).wg L).rooms.length ≤ 1000 ∧ ((zW s R).wg L).moves.length ≤ 1000 ∧ ((zW s R).wg L).wgs.length ≤ 1000) := Lib.hid HLX.out.sm
  have HWO := Lib.hid HLX.out.wo.1
  have HDD := Lib.hid HLX.out.wo.2
  have HWX := Lib.hid HLX.out.wox.1
  have HDX := Lib.hid HLX.out.wox.2
  have hr3 : 1 ≤ (zW s R).rooms.length ∧ (zW s R).rooms.length ≤ 3 := HWO.out.len.elim (fun a b => ⟨a, b.1⟩)
  have hm12 : (zW s R).moves.length ≤ 12 := HWO.out.len.2.2.1
  have hl8 : L.length ≤ 8 := HWX.out.len.2.2.2
  have hwl8 : (zW s R).wgs.length ≤ 8 := HWO.out.len.2.2.2
  have x0 : V2.cell? ⟨pqx, 0, none⟩ = some (.slice A0 (zW s R).rooms.length c0) := qx.cell 0
  have x1 : V2.cell? ⟨pqx, 1, none⟩ = some (.int .i64 (zW s R).days) := qx.cell 1
  have x2 : V2.cell? ⟨pqx, 2, none⟩ = some (.slice Am (zW s R).moves.length cm) := qx.cell 2
  have x3 : V2.cell? ⟨pqx, 3, none⟩ = some (.slice A3 L.length c3) := qx.cell 3
  have lx := qx.lt
  have NY := ex_alloc (Below.refl V2.heap.size V2) (.cells #[.slice A0 (zW s R).rooms.length c0, .int .i64 (zW s R).days, .slice Am (zW s R).moves.length cm, .slice A3 L.length c3] 26)
  have qy : Blk (V2.alloc (.cells #[.slice A0 (zW s R).rooms.length c0, .int .i64 (zW s R).days, .slice Am (zW s R).moves.length cm, .slice A3 L.length c3] 26)) V2.heap.size 26 #[.slice A0 (zW s R).rooms.length c0, .int .i64 (zW s R).days, .slice Am (zW s R).moves.length cm, .slice A3 L.length c3] := Blk.new _ _ _
  have hpy2 : V2.heap.size ≤ V2.heap.size := Nat.le_refl _
  go_upto_region 11 with fail
  clear x0 x1 x2 x3 lx
  obtain ⟨py, hpy⟩ : ∃ p, V2.heap.size = p := ⟨_, rfl⟩
  rw [hpy] at qy ⊢
  have hpy0 : V2.heap.size ≤ py := by omega
  clear hpy hpy2
  have y1 : (V2.alloc (.cells #[.slice A0 (zW s R).rooms.length c0, .int .i64 (zW s R).days, .slice Am (zW s R).moves.length cm, .slice A3 L.length c3] 26)).cell? ⟨py, 1, none⟩ = some (.int .i64 (zW s R).days) := qy.cell 1
  have ly := qy.lt
  have fy := qy.frozen0
  have qy2 := qy.set_ 1 (.int .i64 ((zW s R).days + 1))
  simp only [List.setIfInBounds_toArray, List.set_cons_zero, List.set_cons_succ] at qy2
  have NY2 : Below V2.heap.size V2 ((V2.alloc (.cells #[.slice A0 (zW s R).rooms.length c0, .int .i64 (zW s R).days, .slice Am (zW s R).moves.length cm, .slice A3 L.length c3] 26)).setCell ⟨py, 1, none⟩ (.int .i64 ((zW s R).days + 1))) := ex_set NY (by show V2.heap.size ≤ py; omega) _
  generalize V2.alloc (.cells #[.slice A0 (zW s R).rooms.length c0, .int .i64 (zW s R).days, .slice Am (zW s R).moves.length cm, .slice A3 L.length c3] 26) = Ve at *
  go_upto_region 12 with fail
  generalize Ve.setCell ⟨py, 1, none⟩ (.int .i64 ((zW s R).days + 1)) = Vf at *
  clear y1 ly fy qy NY
  replace hz := hz.go NY2
  replace hwd := (hwd.below NY2).up NY2.size
  replace qv := qv.below NY2 qv.lt
  replace hx := hx.go NY2
  replace ht := ht.go NY2
  replace hM := hM.go NY2
  replace qx := qx.below NY2 qx.lt
  replace qt := qt.below NY2 qt.lt
  have B_Vf := ex_trans B_V2 NY2
  have x0 : Vf.cell? ⟨pqx, 0, none⟩ = some (.slice A0 (zW s R).rooms.length c0) := qx.cell 0
  have x1 : Vf.cell? ⟨pqx, 1, none⟩ = some (.int .i64 (zW s R).days) := qx.cell 1
  have x2 : Vf.cell? ⟨pqx, 2, none⟩ = some (.slice Am (zW s R).moves.length cm) := qx.cell 2
  have x3 : Vf.cell? ⟨pqx, 3, none⟩ = some (.slice A3 L.length c3) := qx.cell 3
  have lx := qx.lt
  have y0 : Vf.cell? ⟨py, 0, none⟩ = some (.slice A0 (zW s R).rooms.length c0) := qy2.cell 0
  have y1 : Vf.cell? ⟨py, 1, none⟩ = some (.int .i64 ((zW s R).days + 1)) := qy2.cell 1
  have y2 : Vf.cell? ⟨py, 2, none⟩ = some (.slice Am (zW s R).moves.length cm) := qy2.cell 2
  have y3 : Vf.cell? ⟨py, 3, none⟩ = some (.slice A3 L.length c3) := qy2.cell 3
  have ly := qy2.lt
  go_wp2_with fail
  refine (fault_any ((zW s R).wg L).more A0 Am A3 c0 cm c3 Vf ⟨hx.rooms, hx.moves, hx.wgs⟩).mono ?_
  rintro e Vg ⟨rfl, hVg⟩
  replace hz := hz.go hVg
  replace hwd := (hwd.below hVg).up hVg.size
  replace qv := qv.below hVg qv.lt
  replace hx := hx.go hVg
  replace ht := ht.go hVg
  replace hM := hM.go hVg
  replace qx := qx.below hVg qx.lt
  replace qt := qt.below hVg qt.lt
  replace qy2 := qy2.below hVg qy2.lt
  have B_Vg := ex_trans B_Vf hVg
  clear x0 x1 x2 x3 lx
  have x0 : Vg.cell? ⟨pqx, 0, none⟩ = some (.slice A0 (zW s R).rooms.length c0) := qx.cell 0
  have x1 : Vg.cell? ⟨pqx, 1, none⟩ = some (.int .i64 (zW s R).days) := qx.cell 1
  have x2 : Vg.cell? ⟨pqx, 2, none⟩ = some (.slice Am (zW s R).moves.length cm) := qx.cell 2
  have x3 : Vg.cell? ⟨pqx, 3, none⟩ = some (.slice A3 L.length c3) := qx.cell 3
  have lx := qx.lt
  clear y0 y1 y2 y3 ly
  have y0 : Vg.cell? ⟨py, 0, none⟩ = some (.slice A0 (zW s R).rooms.length c0) := qy2.cell 0
  have y1 : Vg.cell? ⟨py, 1, none⟩ = some (.int .i64 ((zW s R).days + 1)) := qy2.cell 1
  have y2 : Vg.cell? ⟨py, 2, none⟩ = some (.slice Am (zW s R).moves.length cm) := qy2.cell 2
  have y3 : Vg.cell? ⟨py, 3, none⟩ = some (.slice A3 L.length c3) := qy2.cell 3
  have ly := qy2.lt
  by_cases hcy : ckWs ((zW s R).wg L).more = 0
  rotate_left
  · have e0 : (ckWs ((zW s R).wg L).more == 0) = false := by simp [hcy]
    have e1 : (ckWs ((zW s R).wg L).more != 0) = true := by simp [hcy]
    generalize ckWs ((zW s R).wg L).more = cc at *
    clear hcy
    go_wp2_with fail
    refine (awake_any Vg).mono ?_
    rintro e Wz ⟨rfl, hz⟩
    go_wp2
    go_ret
    exact ⟨rfl, ex_trans B_Vg hz⟩
  have HMO := Lib.hid (more_is HLX.out.ckx HLX.out.good0 (fun r hr => HR2.out r hr) hcy)
  rw [hcy]
  clear hcy
  have HSY : Hid (((zW s R).wg L).more.rooms.length ≤ 1000 ∧ ((zW s R).wg L).more.moves.length ≤ 1000 ∧ ((zW s R).wg L).more.wgs.length ≤ 1000) := Lib.hid HSX.out
  go_wp2_with fail
  refine (Works_any ((zW s R).wg L) A0 Am A3 c0 cm c3 Vg hx HSX.out).mono ?_
  rintro e V10 ⟨⟨⟨Ar1, Am1, Aw1, cr1, cm1, cw1, rfl, hw1⟩⟩, hV10⟩
  replace hz := hz.go hV10
  replace hwd := (hwd.below hV10).up hV10.size
  replace qv := qv.below hV10 qv.lt
  replace hx := hx.go hV10
  replace ht := ht.go hV10
  replace hM := hM.go hV10
  replace qx := qx.below hV10 qx.lt
  replace qt := qt.below hV10 qt.lt
  replace qy2 := qy2.below hV10 qy2.lt
  have B_V10 := ex_trans B_Vg hV10
  clear x0 x1 x2 x3 lx
  have x0 : V10.cell? ⟨pqx, 0, none⟩ = some (.slice A0 (zW s R).rooms.length c0) := qx.cell 0
  have x1 : V10.cell? ⟨pqx, 1, none⟩ = some (.int .i64 (zW s R).days) := qx.cell 1
  have x2 : V10.cell? ⟨pqx, 2, none⟩ = some (.slice Am (zW s R).moves.length cm) := qx.cell 2
  have x3 : V10.cell? ⟨pqx, 3, none⟩ = some (.slice A3 L.length c3) := qx.cell 3
  have lx := qx.lt
  clear y0 y1 y2 y3 ly
  have y0 : V10.cell? ⟨py, 0, none⟩ = some (.slice A0 (zW s R).rooms.length c0) := qy2.cell 0
  have y1 : V10.cell? ⟨py, 1, none⟩ = some (.int .i64 ((zW s R).days + 1)) := qy2.cell 1
  have y2 : V10.cell? ⟨py, 2, none⟩ = some (.slice Am (zW s R).moves.length cm) := qy2.cell 2
  have y3 : V10.cell? ⟨py, 3, none⟩ = some (.slice A3 L.length c3) := qy2.cell 3
  have ly := qy2.lt
  go_wp2_with fail
  refine (Stocks_any ((zW s R).wg L) Ar1 Am1 Aw1 cr1 cm1 cw1 V10 hw1).mono ?_
  rintro e V11 ⟨⟨nS, AS, cS, rS, rcS, rfl, hsv⟩, hV11⟩
  replace hz := hz.go hV11
  replace hwd := (hwd.below hV11).up hV11.size
  replace qv := qv.below hV11 qv.lt
  replace hx := hx.go hV11
  replace ht := ht.go hV11
  replace hM := hM.go hV11
  replace qx := qx.below hV11 qx.lt
  replace qt := qt.below hV11 qt.lt
  replace qy2 := qy2.below hV11 qy2.lt
  replace hw1 := hw1.go hV11
  have B_V11 := ex_trans B_V10 hV11
  clear hw1
  obtain ⟨rfl, hRa⟩ := hsv.yes HLX.out.stE0
  clear hsv
  rw [HLX.out.stE0]
  clear x0 x1 x2 x3 lx
  have x0 : V11.cell? ⟨pqx, 0, none⟩ = some (.slice A0 (zW s R).rooms.length c0) := qx.cell 0
  have x1 : V11.cell? ⟨pqx, 1, none⟩ = some (.int .i64 (zW s R).days) := qx.cell 1
  have x2 : V11.cell? ⟨pqx, 2, none⟩ = some (.slice Am (zW s R).moves.length cm) := qx.cell 2
  have x3 : V11.cell? ⟨pqx, 3, none⟩ = some (.slice A3 L.length c3) := qx.cell 3
  have lx := qx.lt
  clear y0 y1 y2 y3 ly
  have y0 : V11.cell? ⟨py, 0, none⟩ = some (.slice A0 (zW s R).rooms.length c0) := qy2.cell 0
  have y1 : V11.cell? ⟨py, 1, none⟩ = some (.int .i64 ((zW s R).days + 1)) := qy2.cell 1
  have y2 : V11.cell? ⟨py, 2, none⟩ = some (.slice Am (zW s R).moves.length cm) := qy2.cell 2
  have y3 : V11.cell? ⟨py, 3, none⟩ = some (.slice A3 L.length c3) := qy2.cell 3
  have ly := qy2.lt
  have hy : WsIn V11 V11.heap.size ((zW s R).wg L).more A0 Am A3 := ⟨hx.rooms, hx.moves, hx.wgs⟩
  go_wp2_with fail
  refine (Works_any ((zW s R).wg L).more A0 Am A3 c0 cm c3 V11 hy HSY.out).mono ?_
  rintro e V12 ⟨⟨⟨Ar2, Am2, Aw2, cr2, cm2, cw2, rfl, hw2⟩⟩, hV12⟩
  replace hz := hz.go hV12
  replace hwd := (hwd.below hV12).up hV12.size
  replace qv := qv.below hV12 qv.lt
  replace hx := hx.go hV12
  replace ht := ht.go hV12
  replace hM := hM.go hV12
  replace qx := qx.below hV12 qx.lt
  replace qt := qt.below hV12 qt.lt
  replace qy2 := qy2.below hV12 qy2.lt
  replace hRa := hRa.go hV12
  replace hy := hy.go hV12
  have B_V12 := ex_trans B_V11 hV12
  clear x0 x1 x2 x3 lx
  have x0 : V12.cell? ⟨pqx, 0, none⟩ = some (.slice A0 (zW s R).rooms.length c0) := qx.cell 0
  have x1 : V12.cell? ⟨pqx, 1, none⟩ = some (.int .i64 (zW s R).days) := qx.cell 1
  have x2 : V12.cell? ⟨pqx, 2, none⟩ = some (.slice Am (zW s R).moves.length cm) := qx.cell 2
  have x3 : V12.cell? ⟨pqx, 3, none⟩ = some (.slice A3 L.length c3) := qx.cell 3
  have lx := qx.lt
  clear y0 y1 y2 y3 ly
  have y0 : V12.cell? ⟨py, 0, none⟩ = some (.slice A0 (zW s R).rooms.length c0) := qy2.cell 0
  have y1 : V12.cell? ⟨py, 1, none⟩ = some (.int .i64 ((zW s R).days + 1)) := qy2.cell 1
  have y2 : V12.cell? ⟨py, 2, none⟩ = some (.slice Am (zW s R).moves.length cm) := qy2.cell 2
  have y3 : V12.cell? ⟨py, 3, none⟩ = some (.slice A3 L.length c3) := qy2.cell 3
  have ly := qy2.lt
  go_wp2_with fail
  refine (Stocks_any ((zW s R).wg L).more Ar2 Am2 Aw2 cr2 cm2 cw2 V12 hw2).mono ?_
  rintro e V13 ⟨⟨nT, AT, cT, rT, rcT, rfl, hsv⟩, hV13⟩
  replace hz := hz.go hV13
  replace hwd := (hwd.below hV13).up hV13.size
  replace qv := qv.below hV13 qv.lt
  replace hx := hx.go hV13
  replace ht := ht.go hV13
  replace hM := hM.go hV13
  replace qx := qx.below hV13 qx.lt
  replace qt := qt.below hV13 qt.lt
  replace qy2 := qy2.below hV13 qy2.lt
  replace hRa := hRa.go hV13
  replace hy := hy.go hV13
  replace hw2 := hw2.go hV13
  have B_V13 := ex_trans B_V12 hV13
  clear hw2
  obtain ⟨rfl, hRb⟩ := hsv.yes HMO.out.yes
  clear hsv
  rw [HMO.out.yes]
  obtain ⟨D, hD⟩ : ∃ D, (zW s R).wo.days = D := ⟨_, rfl⟩
  have hD6 : 1 ≤ D ∧ D ≤ 6 := by have := HWO.out.days; omega
  have HD := Lib.hid hD
  have HSD : Hid ((zW s R).days = (D : Int)) := Lib.hid (by rw [HDD.out, hD])
  rw [show ((zW s R).wg L).wo.days = D from hD] at hRa
  obtain ⟨D2, hD2⟩ : ∃ D2, D + 1 = D2 := ⟨_, rfl⟩
  have hyd : ((zW s R).wg L).more.wo.days = D2 := (more_days HDX.out).trans (by rw [← hD2, ← hD]; rfl)
  rw [hyd] at hRb
  have HSD2 : Hid ((zW s R).days + 1 = (D2 : Int)) := Lib.hid (by have := HSD.out; omega)
  have HD2 := Lib.hid hD2
  clear hD hD2 hyd
  rw [show ((zW s R).wg L).rooms.length = (zW s R).rooms.length from rfl] at hRa
  rw [show ((zW s R).wg L).more.rooms.length = (zW s R).rooms.length from rfl] at hRb
  clear x0 x1 x2 x3 lx
  have x0 : V13.cell? ⟨pqx, 0, none⟩ = some (.slice A0 (zW s R).rooms.length c0) := qx.cell 0
  have x1 : V13.cell? ⟨pqx, 1, none⟩ = some (.int .i64 (zW s R).days) := qx.cell 1
  have x2 : V13.cell? ⟨pqx, 2, none⟩ = some (.slice Am (zW s R).moves.length cm) := qx.cell 2
  have x3 : V13.cell? ⟨pqx, 3, none⟩ = some (.slice A3 L.length c3) := qx.cell 3
  have lx := qx.lt
  clear y0 y1 y2 y3 ly
  have y0 : V13.cell? ⟨py, 0, none⟩ = some (.slice A0 (zW s R).rooms.length c0) := qy2.cell 0
  have y1 : V13.cell? ⟨py, 1, none⟩ = some (.int .i64 ((zW s R).days + 1)) := qy2.cell 1
  have y2 : V13.cell? ⟨py, 2, none⟩ = some (.slice Am (zW s R).moves.length cm) := qy2.cell 2
  have y3 : V13.cell? ⟨py, 3, none⟩ = some (.slice A3 L.length c3) := qy2.cell 3
  have ly := qy2.lt
  rw [HSD.out] at x1
  rw [HSD2.out] at y1
  go_wp2_with fail
  refine wp_loop (fun a W3 => Rel (fun a W3 => ∃ i : Nat, i ≤ (zW s R).rooms.length ∧ Below V13.heap.size V13 W3 ∧ ∃ u : Nat → Value, a = ⟨List.toArray (u 0 :: u 1 :: u 2 :: u 3 :: u 4 :: u 5 :: u 6 :: .pointer (some ⟨pqx, 0, none⟩) :: u 8 :: u 9 :: u 10 :: .pointer (some ⟨py, 0, none⟩) :: .slice AS (zW s R).rooms.length cS :: u 13 :: .slice AT (zW s R).rooms.length cT :: u 15 :: .int .i64 (i : Int) :: u 17 :: u 18 :: u 19 :: u 20 :: u 21 :: u 22 :: u 23 :: u 24 :: u 25 :: u 26 :: u 27 :: u 28 :: u 29 :: u 30 :: u 31 :: u 32 :: u 33 :: u 34 :: u 35 :: u 36 :: u 37 :: u 38 :: u 39 :: u 40 :: u 41 :: u 42 :: u 43 :: u 44 :: u 45 :: u 46 :: u 47 :: u 48 :: u 49 :: u 50 :: u 51 :: u 52 :: u 53 :: u 54 :: u 55 :: u 56 :: u 57 :: u 58 :: u 59 :: u 60 :: u 61 :: u 62 :: u 63 :: u 64 :: u 65 :: u 66 :: u 67 :: u 68 :: u 69 :: u 70 :: u 71 :: u 72 :: u 73 :: u 74 :: u 75 :: u 76 :: u 77 :: u 78 :: u 79 :: u 80 :: u 81 :: u 82 :: u 83 :: u 84 :: u 85 :: u 86 :: u 87 :: u 88 :: u 89 :: u 90 :: u 91 :: u 92 :: u 93 :: u 94 :: u 95 :: u 96 :: u 97 :: u 98 :: u 99 :: u 100 :: u 101 :: u 102 :: u 103 :: u 104 :: u 105 :: u 106 :: u 107 :: u 108 :: u 109 :: u 110 :: u 111 :: u 112 :: u 113 :: u 114 :: u 115 :: u 116 :: u 117 :: u 118 :: u 119 :: u 120 :: u 121 :: u 122 :: u 123 :: u 124 :: u 125 :: u 126 :: u 127 :: u 128 :: u 129 :: u 130 :: u 131 :: u 132 :: u 133 :: u 134 :: u 135 :: u 136 :: u 137 :: u 138 :: []), []⟩) a W3) (fun a _ => (zW s R).rooms.length - (intOf (a.tmps.getD 16 undef)).toNat) ⟨⟨0, by omega, Below.refl _ _, exFrame (by kernel_rfl)⟩⟩ ?_
  clear x0 x1 x2 x3 lx
  clear y0 y1 y2 y3 ly
  rintro a W3 ⟨⟨i, hi, hbw3, u3, rfl⟩⟩
  replace hz := hz.go hbw3
  replace hwd := (hwd.below hbw3).up hbw3.size
  replace qv := qv.below hbw3 qv.lt
  replace hx := hx.go hbw3
  replace ht := ht.go hbw3
  replace hM := hM.go hbw3
  replace qx := qx.below hbw3 qx.lt
  replace qt := qt.below hbw3 qt.lt
  replace qy2 := qy2.below hbw3 qy2.lt
  replace hRa := hRa.go hbw3
  replace hy := hy.go hbw3
  replace hRb := hRb.go hbw3
  have B_W3 := ex_trans B_V13 hbw3
  have x0 : W3.cell? ⟨pqx, 0, none⟩ = some (.slice A0 (zW s R).rooms.length c0) := qx.cell 0
  have x1 : W3.cell? ⟨pqx, 1, none⟩ = some (.int .i64 (zW s R).days) := qx.cell 1
  have x2 : W3.cell? ⟨pqx, 2, none⟩ = some (.slice Am (zW s R).moves.length cm) := qx.cell 2
  have x3 : W3.cell? ⟨pqx, 3, none⟩ = some (.slice A3 L.length c3) := qx.cell 3
  have lx := qx.lt
  have y0 : W3.cell? ⟨py, 0, none⟩ = some (.slice A0 (zW s R).rooms.length c0) := qy2.cell 0
  have y1 : W3.cell? ⟨py, 1, none⟩ = some (.int .i64 ((zW s R).days + 1)) := qy2.cell 1
  have y2 : W3.cell? ⟨py, 2, none⟩ = some (.slice Am (zW s R).moves.length cm) := qy2.cell 2
  have y3 : W3.cell? ⟨py, 3, none⟩ = some (.slice A3 L.length c3) := qy2.cell 3
  have ly := qy2.lt
  rw [HSD.out] at x1
  rw [HSD2.out] at y1
  by_cases hli : i < (zW s R).rooms.length
  · have hli' : (i : Int) < ((zW s R).rooms.length : Int) := by omega
    obtain ⟨bS, oS, b2, o2, e2, hbS, s0, hb2, _, _⟩ := hRa.at_ hli (show 0 < D by omega)
    obtain ⟨bT, oT, b4, o4, e4, hbT, t0', hb4, _, _⟩ := hRb.at_ hli (show 0 < D2 by have := HD2.out; omega)
    rw [e2, e4]
    have HE2 := Lib.hid e2
    have HE4 := Lib.hid e4
    obtain ⟨rck, hrck⟩ : ∃ x, rcS i = x := ⟨_, rfl⟩
    rw [hrck] at s0
    obtain ⟨rct, hrct⟩ : ∃ x, rcT i = x := ⟨_, rfl⟩
    rw [hrct] at t0'
    have HRK := Lib.hid (And.intro hrck hrct)
    clear hrck hrct e2 e4
    go_upto_region 21 with fail
    have D21 := (Below.refl W3.heap.size W3).drew
    refine wp_region_ext_mix 17 [(false, 0), (false, 1), (false, 2), (false, 3), (false, 4), (false, 5), (false, 6), (false, 7), (false, 8), (false, 9), (false, 10), (false, 11), (false, 12), (false, 13), (false, 14), (false, 15), (false, 16)] (by kernel_rfl) (by kernel_rfl) (by intro d _ _ _ _ h; cases d <;> exact h) ?_
    repeat (refine mix_quiet rfl ?_; go_big_quiet_step (fail); refine wpQuiet_nil ?_)
    obtain ⟨Y21, hY⟩ : ∃ Y, W3.drew = Y := ⟨_, rfl⟩
    rw [hY] at D21 ⊢
    clear hY
    clear x0 x1 x2 x3 lx
    clear y0 y1 y2 y3 ly
    replace s0 := (D21.cell (p := ⟨bS, oS + i, none⟩) hbS).trans s0
    replace t0' := (D21.cell (p := ⟨bT, oT + i, none⟩) hbT).trans t0'
    replace hbS := Nat.lt_of_lt_of_le hbS D21.size
    replace hbT := Nat.lt_of_lt_of_le hbT D21.size
    replace hb2 := Nat.lt_of_lt_of_le hb2 D21.size
    replace hb4 := Nat.lt_of_lt_of_le hb4 D21.size
    replace hz := hz.go D21
    replace hwd := (hwd.below D21).up D21.size
    replace qv := qv.below D21 qv.lt
    replace hx := hx.go D21
    replace ht := ht.go D21
    replace hM := hM.go D21
    replace qx := qx.below D21 qx.lt
    replace qt := qt.below D21 qt.lt
    replace qy2 := qy2.below D21 qy2.lt
    replace hRa := hRa.go D21
    replace hy := hy.go D21
    replace hRb := hRb.go D21
    have B_Y21 := ex_trans B_W3 D21
    have X_Y21 := ex_trans hbw3 D21
    have x0 : Y21.cell? ⟨pqx, 0, none⟩ = some (.slice A0 (zW s R).rooms.length c0) := qx.cell 0
    have x1 : Y21.cell? ⟨pqx, 1, none⟩ = some (.int .i64 (zW s R).days) := qx.cell 1
    have x2 : Y21.cell? ⟨pqx, 2, none⟩ = some (.slice Am (zW s R).moves.length cm) := qx.cell 2
    have x3 : Y21.cell? ⟨pqx, 3, none⟩ = some (.slice A3 L.length c3) := qx.cell 3
    have lx := qx.lt
    have y0 : Y21.cell? ⟨py, 0, none⟩ = some (.slice A0 (zW s R).rooms.length c0) := qy2.cell 0
    have y1 : Y21.cell? ⟨py, 1, none⟩ = some (.int .i64 ((zW s R).days + 1)) := qy2.cell 1
    have y2 : Y21.cell? ⟨py, 2, none⟩ = some (.slice Am (zW s R).moves.length cm) := qy2.cell 2
    have y3 : Y21.cell? ⟨py, 3, none⟩ = some (.slice A3 L.length c3) := qy2.cell 3
    have ly := qy2.lt
    rw [HSD.out] at x1
    rw [HSD2.out] at y1
    refine mix_nil (r := [_]) rfl ?_
    go_wp2_with fail
    refine wp_loop (fun a W4 => Rel (fun a W4 => ∃ j : Nat, j ≤ D ∧ Below Y21.heap.size Y21 W4 ∧ ∃ u : Nat → Value, a = ⟨List.toArray (u 0 :: u 1 :: u 2 :: u 3 :: u 4 :: u 5 :: u 6 :: .pointer (some ⟨pqx, 0, none⟩) :: u 8 :: u 9 :: u 10 :: .pointer (some ⟨py, 0, none⟩) :: .slice (some ⟨bS, oS, none⟩) (zW s R).rooms.length cS :: u 13 :: .slice (some ⟨bT, oT, none⟩) (zW s R).rooms.length cT :: u 15 :: .int .i64 (i : Int) :: .int .i64 (j : Int) :: u 18 :: u 19 :: u 20 :: u 21 :: u 22 :: u 23 :: u 24 :: u 25 :: u 26 :: u 27 :: u 28 :: u 29 :: u 30 :: u 31 :: u 32 :: u 33 :: u 34 :: u 35 :: u 36 :: u 37 :: u 38 :: u 39 :: u 40 :: u 41 :: u 42 :: u 43 :: u 44 :: u 45 :: u 46 :: u 47 :: u 48 :: u 49 :: u 50 :: u 51 :: u 52 :: u 53 :: u 54 :: u 55 :: u 56 :: u 57 :: u 58 :: u 59 :: u 60 :: u 61 :: u 62 :: u 63 :: u 64 :: u 65 :: u 66 :: u 67 :: u 68 :: u 69 :: u 70 :: u 71 :: u 72 :: u 73 :: u 74 :: u 75 :: u 76 :: u 77 :: u 78 :: u 79 :: u 80 :: u 81 :: u 82 :: u 83 :: u 84 :: u 85 :: u 86 :: u 87 :: u 88 :: u 89 :: u 90 :: u 91 :: u 92 :: u 93 :: u 94 :: u 95 :: u 96 :: u 97 :: u 98 :: u 99 :: u 100 :: u 101 :: u 102 :: u 103 :: u 104 :: u 105 :: u 106 :: u 107 :: u 108 :: u 109 :: u 110 :: u 111 :: u 112 :: u 113 :: u 114 :: u 115 :: u 116 :: u 117 :: u 118 :: u 119 :: u 120 :: u 121 :: u 122 :: u 123 :: u 124 :: u 125 :: u 126 :: u 127 :: u 128 :: u 129 :: u 130 :: u 131 :: u 132 :: u 133 :: u 134 :: u 135 :: u 136 :: u 137 :: u 138 :: []), []⟩) a W4) (fun a _ => D - (intOf (a.tmps.getD 17 undef)).toNat) ⟨⟨0, by omega, Below.refl _ _, exFrame (by kernel_rfl)⟩⟩ ?_
    clear x0 x1 x2 x3 lx
    clear y0 y1 y2 y3 ly
    rintro a W4 ⟨⟨j, hj, hbw4, u4, rfl⟩⟩
    replace s0 := (hbw4.cell (p := ⟨bS, oS + i, none⟩) hbS).trans s0
    replace t0' := (hbw4.cell (p := ⟨bT, oT + i, none⟩) hbT).trans t0'
    replace hbS := Nat.lt_of_lt_of_le hbS hbw4.size
    replace hbT := Nat.lt_of_lt_of_le hbT hbw4.size
    replace hb2 := Nat.lt_of_lt_of_le hb2 hbw4.size
    replace hb4 := Nat.lt_of_lt_of_le hb4 hbw4.size
    replace hz := hz.go hbw4
    replace hwd := (hwd.below hbw4).up hbw4.size
    replace qv := qv.below hbw4 qv.lt
    replace hx := hx.go hbw4
    replace ht := ht.go hbw4
    replace hM := hM.go hbw4
    replace qx := qx.below hbw4 qx.lt
    replace qt := qt.below hbw4 qt.lt
    replace qy2 := qy2.below hbw4 qy2.lt
    replace hRa := hRa.go hbw4
    replace hy := hy.go hbw4
    replace hRb := hRb.go hbw4
    have B_W4 := ex_trans B_Y21 hbw4
    have X_W4 := ex_trans X_Y21 hbw4
    have x0 : W4.cell? ⟨pqx, 0, none⟩ = some (.slice A0 (zW s R).rooms.length c0) := qx.cell 0
    have x1 : W4.cell? ⟨pqx, 1, none⟩ = some (.int .i64 (zW s R).days) := qx.cell 1
    have x2 : W4.cell? ⟨pqx, 2, none⟩ = some (.slice Am (zW s R).moves.length cm) := qx.cell 2
    have x3 : W4.cell? ⟨pqx, 3, none⟩ = some (.slice A3 L.length c3) := qx.cell 3
    have lx := qx.lt
    rw [HSD.out] at x1
    by_cases hlj : j < D
    · have hlj' : (j : Int) < (D : Int) := by omega
      have hlj2 : (j : Int) < (D2 : Int) := by have := HD2.out; omega
      obtain ⟨bS', oS', b2', o2', e2, hbS', s0', hb2', g0, g1⟩ := hRa.at_ hli hlj
      obtain ⟨bT', oT', b4', o4', e4, hbT', t0'', hb4', r0, r1⟩ := hRb.at_ hli (show j < D2 by have := HD2.out; omega)
      have hsm : stkR ((zW s R).wg L).more.wo off0 i j = stkR ((zW s R).wg L).wo off0 i j := HMO.out.same i j hli (by show j < (zW s R).wo.days; rw [HD.out]; exact hlj)
      rw [hsm] at r0 r1
      clear hsm
      obtain ⟨lo, hlo⟩ : ∃ x, (stkR ((zW s R).wg L).wo off0 i j).lo = x := ⟨_, rfl⟩
      obtain ⟨hi', hhi⟩ : ∃ x, (stkR ((zW s R).wg L).wo off0 i j).hi = x := ⟨_, rfl⟩
      rw [hlo] at g0 r0
      rw [hhi] at g1 r1
      clear hlo hhi
      obtain ⟨rfl, rfl⟩ : bS' = bS ∧ oS' = oS := by have := e2.symm.trans HE2.out; injection this with h; injection h with h1 h2; exact ⟨h1, h2⟩
      obtain ⟨rfl, rfl⟩ : bT' = bT ∧ oT' = oT := by have := e4.symm.trans HE4.out; injection this with h; injection h with h1 h2; exact ⟨h1, h2⟩
      rw [HRK.out.1] at s0'
      rw [HRK.out.2] at t0''
      clear e2 e4 s0 t0' hb2 hb4
      go_upto_region 26 with fail
      have D26 := (Below.refl W4.heap.size W4).drew
      refine wp_region_ext_mix 14 [(false, 0), (false, 1), (false, 2), (false, 3), (false, 4), (false, 5), (false, 6), (false, 7), (false, 8), (false, 9), (false, 10), (false, 11), (false, 12), (false, 13)] (by kernel_rfl) (by kernel_rfl) (by intro d _ _ _ _ h; cases d <;> exact h) ?_
      repeat (refine mix_quiet rfl ?_; go_big_quiet_step (fail); refine wpQuiet_nil ?_)
      have hbw4' := ex_trans hbw4 D26
      refine mix_nil (r := [_]) rfl ?_
      go_wp2_with fail
      refine ⟨⟨⟨j + 1, by omega, hbw4', exFrame (by kernel_rfl)⟩⟩, ?_⟩
      show D - (intOf (.int .i64 ((j : Int) + 1))).toNat < D - (intOf (.int .i64 (j : Int))).toNat
      simp [intOf]
      omega
    · obtain rfl : j = D := by omega
      have hbw3' := ex_trans (ex_trans hbw3 D21) hbw4
      go_wp2_with fail
      refine ⟨⟨⟨i + 1, by omega, hbw3', exFrame (by kernel_rfl)⟩⟩, ?_⟩
      show (zW s R).rooms.length - (intOf (.int .i64 ((i : Int) + 1))).toNat < (zW s R).rooms.length - (intOf (.int .i64 (i : Int))).toNat
      simp [intOf]
      omega
  · have hie : ¬ (i : Int) < ((zW s R).rooms.length : Int) := by omega
    go_wp2_with fail
    refine (awake_any W3).mono ?_
    rintro e Wz ⟨rfl, hz⟩
    go_wp2
    go_ret
    exact ⟨rfl, ex_trans B_W3 hz⟩
end Go.Proofs.Ythihdiilokdidaa
end

section
namespace Go.Proofs.Ythihdiilokdidaa.spillLater
open Go.ChangeShapes Go.WideShapes Go.ChangeAt Go.RowKit
set_option linter.unusedVariables false

set_option maxRecDepth 100000 in
theorem lifted (os : Os) (started : os.Started) (H : Type) (enc : TypeId × Value → H) :
    ReturnsInHanded {} Try.checked os 7 .any (Rows.spillLaterSpec.pre6 enc Try.prog Try.f7 Rows.spillLaterRow.domain false) (Rows.spillLaterSpec.post enc Try.prog Try.f7 false true false false) := by
  refine returnsInHanded_of_change (C := Try.checked) own started (by kernel_rfl) Try.func7
    (ChangeSpec.witness6 (enc := enc) (C := Try.checked) false ⟨#[], #[.agg #[.slice none 0 0, .int .i64 0, .slice none 0 0, .slice none 0 0], .slice none 0 0], []⟩ 8 (by kernel_rfl) (by kernel_rfl) (by kernel_rfl) (by kernel_rfl)) ?_
  intro W base args ds gs before hval0 hW hcnd _
  have hval : ∀ (j : Nat) t v, Try.f7.params[j]? = some t → args[j]? = some v → Value.okWide Try.prog W .any base t v := hval0
  have hW0 := hW
  obtain ⟨p, q, hA0, hV, rfl, hfz, hnd⟩ := hW
  have hA : DataW.TrodAll enc Try.prog W 0 (fun _ => true) true Try.f7.params.toList args.toList ds p := hA0
  rw [Try.params7] at hA hval
  obtain ⟨v0, vs0, d0, ds0, p0, q0, ea0, ed0, ep0, h0, hA0⟩ := trodAll_cons hA
  obtain ⟨v1, vs1, d1, ds1, p1, q1, ea1, ed1, ep1, h1, hA1⟩ := trodAll_cons hA0
  obtain ⟨ea, ed, ep⟩ := trodAll_nil hA1
  have eargs : args = #[v0, v1] := by rw [← Array.toArray_toList (xs := args), ea0, ea1, ea]
  have eds : ds = [d0, d1] := by rw [ed0, ed1, ed]
  subst eargs eds
  obtain ⟨rfl, rfl⟩ := trodVars_none hV
  obtain ⟨s, Ar, Am, Aw, cr, cm, cw, rfl, hsl, hs⟩ := open_worksT (hval 0 _ _ rfl rfl) h0
  obtain ⟨AW, ws, cW, rfl, hwl, hw, hwb⟩ := open_words (hval 1 _ _ rfl rfl) h1
  refine (LaterLaw_any s Ar Am Aw cr cm cw W hs AW cW ws hw hwb hwl).mono fun e W' he => ?_
  obtain ⟨rfl, hb⟩ := he
  exact ⟨_, rfl, post_law rfl hW0 rfl rfl ⟨⟨by kernel_rfl, of_decide_eq_true (by kernel_rfl)⟩, ⟨by kernel_rfl, of_decide_eq_true (by kernel_rfl)⟩, trivial⟩ hb⟩

theorem over : Rows.spillLaterRow.holds Try.pinned (OpenSpec.ofChange Rows.spillLaterSpec) :=
  OpenClaim.holds_of_wide 7 Try.f7 rfl rfl rfl rfl rfl rfl rfl ⟨rfl, rfl, rfl, rfl, rfl⟩ rfl rfl rfl rfl rfl (by kernel_rfl) Try.func7 (by kernel_rfl)
    (of_decide_eq_true (by kernel_rfl)) (by unfold Func.isWrapper; first | (rw [if_pos (by decide +kernel)]; kernel_rfl) | (rw [if_neg (by decide +kernel)]; exact ⟨rfl, rfl⟩))
    (fun os started H enc _ => lifted os started H enc)

/-- the statement. -/
theorem proved : Rows.SpillLaterSaid :=
  over
#print axioms proved
end Go.Proofs.Ythihdiilokdidaa.spillLater
end
