/- Spill's reference: IsTruth, Has, Agrees (walks). · Spill's reference: Has, Agrees (walks). · Spill's laws: Of (walk), what is kept of weighings (plain). · Spill's laws: SpillFalse (walk). · The row SpillFalse: if all weighings but some agree with a truth that can be, Fewest has no more than these; without those of Fewest the others agree. -/
import Derived.WalkKit
import Derived.ProofKit
import Derived.OpenShut
import Derived.Test.YthihdiilokdidaaQ12
import Derived.Test.YthihdiilokdidaaQ13
import Derived.Test.YthihdiilokdidaaQ14
import Derived.Test.YthihdiilokdidaaRows
set_option linter.unusedVariables false
set_option linter.unusedSimpArgs false
set_option linter.unusedSectionVars false
section
namespace Go.Proofs.Ythihdiilokdidaa
open Go.RowKit
attribute [local go_sem] Ex.cell? Ex.frozen?

section
variable {s : Ws} {t : Tt} {k : Nat}
end
end Go.Proofs.Ythihdiilokdidaa
end

section
namespace Go.Proofs.Ythihdiilokdidaa
open Go.RowKit
attribute [local go_sem] Ex.cell? Ex.frozen?

/-- a number is in a list. -/
def hasB (l : List Int) (n : Int) : Bool := !allTo (fun i => !(gI l i == n)) l.length
theorem hasB_iff {l : List Int} {n : Int} : hasB l n = true ↔ n ∈ l := by
  unfold hasB
  rw [Bool.not_eq_true', ← Bool.not_eq_true, allTo_iff]
  constructor
  · intro h
    by_cases hm : n ∈ l
    · exact hm
    · exact absurd (fun k hk => by
        have hne : gI l k ≠ n := fun e => hm (by rw [← e]; simp [gI, hk])
        simpa using hne) h
  · intro hm h
    obtain ⟨k, hk, e⟩ := List.getElem_of_mem hm
    have := h k hk
    simp [gI, hk, e] at this
set_option maxRecDepth 100000 in
set_option maxHeartbeats 1600000 in
theorem Has_ref (A : Option Addr) (c : Nat) (l : List Int) (n : Int) (w : World) (hA : SlAt w w.heap.size 1 A l.length (fI l)) (hl : l.length ≤ 1000000) :
    Calls Try.prog 42 #[.slice A l.length c, .int .i64 n] w fun e w' => e = .returned (.bool (hasB l n)) ∧ Below w.heap.size w w' := by
  obtain ⟨m, hm⟩ : ∃ m, l.length = m := ⟨_, rfl⟩
  have HM := Lib.hid hm
  rw [hm] at hA hl ⊢
  clear hm
  go_enter Try.func42, Try.ntmps42
  go_wp2_with fail
  refine wp_loop (fun a W => Rel (fun a W => ∃ k : Nat, k ≤ m ∧ Below w.heap.size w W ∧ Hid (∀ j, j < k → (!(gI l j == n)) = true) ∧ ∃ u : Nat → Value, a = ⟨List.toArray (.slice A m c :: .int .i64 n :: u 2 :: u 3 :: u 4 :: .int .i64 (k : Int) :: u 6 :: u 7 :: u 8 :: u 9 :: u 10 :: u 11 :: u 12 :: u 13 :: u 14 :: u 15 :: u 16 :: u 17 :: []), []⟩) a W) (fun a _ => m - (intOf (a.tmps.getD 5 undef)).toNat) ⟨⟨0, by omega, Below.refl _ _, Lib.hid (fun j hj => by omega), exFrame (by kernel_rfl)⟩⟩ ?_
  rintro a W ⟨⟨k, hk, hb, HO, u, rfl⟩⟩
  by_cases hlt : k < m
  · obtain ⟨bl, ol, rfl, hbl, v0⟩ := IsInts.at_ (hA.below hb) hlt
    have hkn : (k : Int) < (m : Int) := by omega
    have lbl : bl < W.heap.size := by have := hb.size; omega
    obtain ⟨vv, hvv⟩ : ∃ x, gI l k = x := ⟨_, rfl⟩
    rw [hvv] at v0
    have HVV := Lib.hid hvv
    clear hvv
    by_cases he : vv = n
    · have hq : (vv == n) = true := by simp [he]
      have HR : Hid (hasB l n = true) := Lib.hid (by unfold hasB; rw [allTo_false (f := fun i => !(gI l i == n)) (show k < l.length by rw [HM.out]; exact hlt) (by rw [HVV.out, hq]; rfl)]; rfl)
      clear he
      go_wp2
      go_ret
      exact ⟨ret_bool HR.out.symm, hb⟩
    · have hq : (vv == n) = false := by simp [he]
      have HQ := Lib.hid hq
      clear he
      have HO2 : Hid (∀ j, j < k + 1 → (!(gI l j == n)) = true) := Lib.hid (fun j hj => by
        rcases Nat.lt_succ_iff_lt_or_eq.1 hj with h | h
        · exact HO.out j h
        · subst h; rw [HVV.out, HQ.out]; rfl)
      go_wp2_with fail
      refine ⟨⟨⟨k + 1, by omega, hb, HO2, exFrame (by kernel_rfl)⟩⟩, ?_⟩
      show m - (intOf (.int .i64 ((k : Int) + 1))).toNat < m - (intOf (.int .i64 (k : Int))).toNat
      simp [intOf]
      omega
  · obtain rfl : k = m := by omega
    have HR : Hid (hasB l n = false) := Lib.hid (by unfold hasB; rw [HM.out, allTo_iff.2 HO.out]; rfl)
    go_wp2
    go_ret
    exact ⟨ret_bool HR.out.symm, hb⟩
/-- stocks agree with a weighing, or it is left out. -/
def agr1 (s : Ws) (S : Nat → Nat → Int) (o : List Int) (i : Nat) : Bool := hasB o i || inB (S (gWg s.wgs i).room.toNat (gWg s.wgs i).day.toNat) (gWg s.wgs i).g.lo (gWg s.wgs i).g.hi
def agrL (s : Ws) (S : Nat → Nat → Int) (o : List Int) : Bool := allTo (agr1 s S o) s.wgs.length
end Go.Proofs.Ythihdiilokdidaa
end

section
namespace Go.Proofs.Ythihdiilokdidaa
open Go.RowKit
attribute [local go_sem] Ex.cell? Ex.frozen?
/-- the numbers below n whose bits are 1. -/
def ofL (b : Int) : Nat → List Int
  | 0 => []
  | k + 1 => if (b / 2 ^ k).tmod 2 = 1 then ofL b k ++ [(k : Int)] else ofL b k
theorem ofL_len {b : Int} : ∀ {n : Nat}, (ofL b n).length ≤ n
  | 0 => by simp [ofL]
  | n + 1 => by
    have := ofL_len (b := b) (n := n)
    rw [ofL]; split
    · simp; omega
    · omega

set_option maxRecDepth 100000 in
set_option maxHeartbeats 1600000 in
theorem Of_ref (n : Nat) (b : Int) (w : World) (hn : n ≤ 60) (hb : 0 ≤ b) (hb1 : b ≤ 1000000) :
    Calls Try.prog 39 #[.int .i64 (n : Int), .int .i64 b] w fun e w' => (∃ v, e = .returned v ∧ w'.ownsRow w.heap.size 3 1 v (ofL b n).length ((ofL b n).map (Value.int .i64))) ∧ Below w.heap.size w w' := by
  obtain ⟨i0, hi0, hz0, hz1, hz2⟩ := info_parts int_info
  have HI := Lib.hid hi0
  clear hi0
  go_enter Try.func39, Try.ntmps39
  go_wp2_with fail
  go_loopw [5, 6] (fun v i wr => ∃ k : Nat, k ≤ n ∧ i = .int .i64 k ∧ Below w.heap.size w wr ∧ wr.ownsRow w.heap.size 3 1 v (ofL b k).length ((ofL b k).map (Value.int .i64)))
    (fun _ i _ => n - (intOf i).toNat)
  case atStart => exact ⟨0, by omega, rfl, Below.refl _ _, ⟨rfl, .inl ⟨rfl, rfl⟩⟩⟩
  case round =>
    obtain ⟨k, hk, rfl, hbl, hown⟩ := hrel
    by_cases hlt : k < n
    · have hq : 0 ≤ b / 2 ^ k := Int.ediv_nonneg hb (Int.le_of_lt (Int.pow_pos (by omega)))
      have et : (b / 2 ^ k).tmod 2 = b / 2 ^ k % 2 := Int.tmod_eq_emod_of_nonneg hq
      by_cases hx : (b / 2 ^ k).tmod 2 = 1
      · have HX : Hid (ofL b (k + 1) = ofL b k ++ [(k : Int)]) := Lib.hid (by rw [ofL, if_pos hx])
        have e1 : ((b / 2 ^ k).tmod 2 == 1) = true := by simp [hx]
        have e2 : (b / 2 ^ k % 2 == 1) = true := by rw [← et]; simp [hx]
        clear hx et
        have y4 := hown.alloc (.cells #[.int .i64 (k : Int)] 3)
        have hlen := ofL_len (b := b) (n := k)
        have c63 : (ofL b k).length + 1 ≤ maxLen := by unfold maxLen; omega
        have cby : ((ofL b k).length + 1) * 8 ≤ 140737488355328 := by omega
        have hws := hbl.size
        have hbase : w.heap.size ≤ (wr.alloc (.cells #[.int .i64 (k : Int)] 3)).heap.size := by simp; omega
        go_wp2_with (at_builtin; refine wpList_append_lies _ rfl _ _ _ rfl w.heap.size 3 i0 _ 1 8 Try.underlying28 HI.out hz0 hz1 hz2 rfl (by omega) u5 _ _ rfl y4 ⟨wr.heap.size, 0, none⟩ 1 1 [.int .i64 (k : Int)] rfl rfl (World.news_of_block (heap_alloc_new wr _)) (by simp [Value.oneCell']) (by omega) c63 cby hbase (wr.heap.size + 1) (by simp) ?_; intro gg cap w1 hown' hgrow hat hlt')
        go_roundw
        case rel => exact ⟨k + 1, by omega, by go_num, (ex_alloc hbl _).grown hgrow hbase (fun j hj => own_ge hown hj), by rw [HX.out]; exact own_snoc rfl hown'⟩
        case measure => simp [intOf]; omega
      · have HX : Hid (ofL b (k + 1) = ofL b k) := Lib.hid (by rw [ofL, if_neg hx])
        have e1 : ((b / 2 ^ k).tmod 2 == 1) = false := by simp [hx]
        have e2 : (b / 2 ^ k % 2 == 1) = false := by rw [← et]; simp [hx]
        clear hx et
        go_wp2
        go_roundw
        case rel => exact ⟨k + 1, by omega, by go_num, hbl, by rw [HX.out]; exact hown⟩
        case measure => simp [intOf]; omega
    · have HK : Hid (k = n) := Lib.hid (by omega)
      go_wp2
      go_ret
      exact ⟨⟨_, rfl, by rw [← HK.out]; exact hown⟩, hbl⟩


theorem mask_all : ∀ n : Fin 9, ∀ m : Fin 256, bits BinOp.and IntKind.i64 ((m.val : Nat) : Int) (wrap64 (wrap64 (2 ^ n.val) - 1)) = ((m.val : Nat) : Int) % 2 ^ n.val ∧ ((m.val : Nat) : Int) % 2 ^ n.val ≤ 1000 ∧ 0 ≤ ((m.val : Nat) : Int) % 2 ^ n.val := by decide +kernel
theorem mask_eq {n m : Nat} (hn : n ≤ 8) (h1 : (m : Int) ≤ 255) : bits BinOp.and IntKind.i64 (m : Int) (wrap64 (wrap64 (2 ^ n) - 1)) = (m : Int) % 2 ^ n ∧ (m : Int) % 2 ^ n ≤ 1000 ∧ 0 ≤ (m : Int) % 2 ^ n := mask_all ⟨n, by omega⟩ ⟨m, by omega⟩
theorem cnt_succ (O : Nat → Bool) : ∀ f n, cnt O n (f + 1) = cnt O n f + if O (n + f) then 1 else 0
  | 0, n => by simp [cnt]
  | f + 1, n => by
    have h : cnt O n (f + 1 + 1) = (if O n then 1 else 0) + cnt O (n + 1) (f + 1) := rfl
    have h2 : cnt O n (f + 1) = (if O n then 1 else 0) + cnt O (n + 1) f := rfl
    rw [h, cnt_succ O f (n + 1), h2, show n + 1 + f = n + (f + 1) by omega]
    omega
theorem ofL_cnt (m n : Nat) : ∀ k, k ≤ n → (ofL ((m : Int) % 2 ^ n) k).length = cnt (bitO m) 0 k
  | 0, _ => rfl
  | k + 1, hk => by
    have ih := ofL_cnt m n k (by omega)
    have e : (((m : Int) % 2 ^ n) / 2 ^ k).tmod 2 = 1 ↔ bitO m k = true := by
      have h1 : ((m : Int) % 2 ^ n) / 2 ^ k = ((m % 2 ^ n / 2 ^ k : Nat) : Int) := by simp
      rw [h1, Int.tmod_eq_emod_of_nonneg (Int.natCast_nonneg _)]
      have h2 := Nat.testBit_mod_two_pow m n k
      rw [Nat.testBit_eq_decide_div_mod_eq, Nat.testBit_eq_decide_div_mod_eq, decide_eq_true (show k < n by omega), Bool.true_and, decide_eq_decide] at h2
      unfold bitO
      rw [decide_eq_true_eq, ← h2]
      omega
    rw [ofL, cnt_succ, Nat.zero_add, ← ih]
    by_cases hb : bitO m k = true
    · rw [if_pos (e.2 hb), if_pos hb]; simp
    · rw [if_neg (fun h => hb (e.1 h)), if_neg hb]; rfl
/-- the weighings that are kept. -/
def keepW (l : List Int) (W : List Wg) : Nat → List Wg
  | 0 => []
  | k + 1 => if hasB l (k : Int) then keepW l W k else keepW l W k ++ [gWg W k]
theorem has_out (l : List Int) (k : Nat) : hasB l (k : Int) = outL l k := by
  rw [Bool.eq_iff_iff, hasB_iff]
  unfold outL
  rw [decide_eq_true_eq]
theorem keepW_len (l : List Int) (W : List Wg) : ∀ k, (keepW l W k).length + cnt (outL l) 0 k = k
  | 0 => rfl
  | k + 1 => by
    have ih := keepW_len l W k
    rw [keepW, cnt_succ, Nat.zero_add, has_out]
    cases outL l k
    · simp; omega
    · simp; omega
theorem keepW_mem {l : List Int} {W : List Wg} {x : Wg} : ∀ {k : Nat}, x ∈ keepW l W k → ∃ i, i < k ∧ outL l i = false ∧ x = gWg W i
  | 0, h => by cases h
  | k + 1, h => by
    rw [keepW, has_out] at h
    cases ho : outL l k
    · rw [ho] at h
      simp only [Bool.false_eq_true, if_false] at h
      rcases List.mem_append.1 h with h | h
      · obtain ⟨i, h1, h2⟩ := keepW_mem h
        exact ⟨i, by omega, h2⟩
      · exact ⟨k, by omega, ho, List.mem_singleton.1 h⟩
    · rw [ho] at h
      simp only [if_true] at h
      obtain ⟨i, h1, h2⟩ := keepW_mem h
      exact ⟨i, by omega, h2⟩
theorem gWg_mem {l : List Wg} {k : Nat} (hk : k < l.length) : gWg l k ∈ l := by rw [gWg_at hk]; exact List.getElem_mem hk
theorem keep_ck {s : Ws} {L : List Wg} {l : List Int} (h : ckWs (s.wg L) = 0) : ckWs (s.wg (keepW l L L.length)) = 0 := by
  obtain ⟨hw, hd⟩ := ckWs_iff.1 h
  refine ckWs_iff.2 ⟨⟨⟨hw.len.1, hw.len.2.1, hw.len.2.2.1, ?_⟩, hw.days, hw.rooms, ⟨hw.moves.day, hw.moves.src, hw.moves.dst, hw.moves.ne, hw.moves.pos⟩, hw.grams, fun i hi => ?_⟩, hd⟩
  · have h1 : (s.wg L).wo.wgs.length ≤ 8 := hw.len.2.2.2
    have h2 := keepW_len l L L.length
    show (keepW l L L.length).length ≤ 8
    have h3 : (s.wg L).wo.wgs.length = L.length := rfl
    omega
  · obtain ⟨j, hj, _, e⟩ := keepW_mem (gWg_mem hi)
    have e2 : gWg (s.wg (keepW l L L.length)).wo.wgs i = gWg L j := e
    rw [e2]
    exact hw.wgs j hj
theorem keep_good {s : Ws} {L : List Wg} {l : List Int} (h : Good (s.wg L).wo (outL l)) : Good (s.wg (keepW l L L.length)).wo off0 := by
  obtain ⟨F, V, G, hg⟩ := h
  refine ⟨F, V, G, good_wg (w := s.wo) hg fun i hi _ => ?_⟩
  obtain ⟨j, hj, ho, e⟩ := keepW_mem (gWg_mem hi)
  rw [e]
  exact hg.agr j hj ho
/-- what the law asks of the weighings that are kept. -/
structure KeepIs (s : Ws) (L : List Wg) (l : List Int) : Prop where
  ck : ckWs (s.wg (keepW l L L.length)) = 0
  stE : stE (s.wg (keepW l L L.length)) = 0
  len : (keepW l L L.length).length + l.length = L.length
theorem keep_is {s : Ws} {L : List Wg} (hc : ckWs (s.wg L) = 0) (hf : fwE (s.wg L) = 0) : KeepIs s L (fwL (s.wg L)) := by
  have ht := (fw_ok hc hf).told
  refine ⟨keep_ck hc, stE_zero.2 ⟨keep_ck hc, keep_good ht.good⟩, ?_⟩
  have h1 := keepW_len (fwL (s.wg L)) L L.length
  have h2 : cnt (outL (fwL (s.wg L))) 0 L.length = (fwL (s.wg L)).length := cnt_up L.length 0 _ ht.up (fun x hx => by have := ht.bd x hx; have e : (s.wg L).wgs.length = L.length := rfl; omega)
  omega
end Go.Proofs.Ythihdiilokdidaa
end

section
namespace Go.Proofs.Ythihdiilokdidaa
open Go.RowKit
attribute [local go_sem] Ex.cell? Ex.frozen? Gx.cell?

theorem cWg_at (l : List Wg) (k : Nat) (hk : k < l.length) (j : Nat) (hj : j < 4) : (cWg l[k])[j]? = some (fWg l k j) := by
  have hg := gWg_at hk
  match j, hj with
  | 0, _ => simp [cWg, fWg, hg]
  | 1, _ => simp [cWg, fWg, hg]
  | 2, _ => simp [cWg, fWg, hg]
  | 3, _ => simp [cWg, fWg, hg]
theorem cWg_one (a : Wg) (u : Value) (hu : u ∈ cWg a) : u.oneCell' = true := by
  simp only [cWg, List.mem_cons, List.not_mem_nil, or_false] at hu
  rcases hu with rfl | rfl | rfl | rfl <;> rfl
set_option maxRecDepth 100000 in
set_option maxHeartbeats 12800000 in
theorem FalseLaw_any (s : Ws) (Ar Am Aw : Option Addr) (cr cm cw : Nat) (w : World) (hs : WsIn w w.heap.size s Ar Am Aw) (AW : Option Addr) (cW : Nat) (ws : List Int) (hwd : SlAt w w.heap.size 1 AW ws.length (fU ws)) (hwb : ∀ k, k < ws.length → 0 ≤ gI ws k ∧ gI ws k ≤ 65535) (hwl : ws.length ≤ maxLen) (m : Nat) (hm : (m : Int) ≤ 255) :
    Calls Try.prog 10 #[.agg #[.slice Ar s.rooms.length cr, .int .i64 s.days, .slice Am s.moves.length cm, .slice Aw s.wgs.length cw], .slice AW ws.length cW, .int .u8 (m : Int)] w fun e w' => e = .returned (.bool true) ∧ Below w.heap.size w w' := by
  obtain ⟨i2, hi2, hz0, hz1, hz2⟩ := info_parts wgR_info
  have HI := Lib.hid hi2
  clear hi2
  have hb1 := ex_alloc (Below.refl w.heap.size w) (.cells #[.slice Ar s.rooms.length cr, .int .i64 s.days, .slice Am s.moves.length cm, .slice Aw s.wgs.length cw] 26)
  have q0 : Blk (w.alloc (.cells #[.slice Ar s.rooms.length cr, .int .i64 s.days, .slice Am s.moves.length cm, .slice Aw s.wgs.length cw] 26)) (w.heap.size) 26 #[.slice Ar s.rooms.length cr, .int .i64 s.days, .slice Am s.moves.length cm, .slice Aw s.wgs.length cw] := Blk.new _ _ _
  replace hs := hs.go hb1
  replace hwd := (hwd.below hb1).up hb1.size
  have HWB := Lib.hid hwb
  clear hwb
  go_enter Try.func10, Try.ntmps10
  go_upto_region 1 with fail
  show Code.wp _ _ _ _ (w.alloc (.cells #[.slice Ar s.rooms.length cr, .int .i64 s.days, .slice Am s.moves.length cm, .slice Aw s.wgs.length cw] 26))
  obtain ⟨pq0, hpq0⟩ : ∃ p, w.heap.size = p := ⟨_, rfl⟩
  rw [hpq0] at q0 ⊢
  clear hpq0
  generalize w.alloc (.cells #[.slice Ar s.rooms.length cr, .int .i64 s.days, .slice Am s.moves.length cm, .slice Aw s.wgs.length cw] 26) = V at *
  have a0 : V.cell? ⟨pq0, 0, none⟩ = some (.slice Ar s.rooms.length cr) := q0.cell 0
  have a1 : V.cell? ⟨pq0, 1, none⟩ = some (.int .i64 s.days) := q0.cell 1
  have a2 : V.cell? ⟨pq0, 2, none⟩ = some (.slice Am s.moves.length cm) := q0.cell 2
  have a3 : V.cell? ⟨pq0, 3, none⟩ = some (.slice Aw s.wgs.length cw) := q0.cell 3
  have la := q0.lt
  go_wp2_with fail
  refine (lives_any s Ar Am Aw cr cm cw V hs AW cW ws hwd HWB.out hwl m hm).mono ?_
  rintro e V1 ⟨⟨hlv⟩, hV1⟩
  replace hs := hs.go hV1
  replace hwd := (hwd.below hV1).up hV1.size
  replace q0 := q0.below hV1 q0.lt
  have B_V1 := ex_trans hb1 hV1
  rcases hlv with ⟨A1, A2, A3, A4, A5, A6, A7, c1, c2, c3, c4, c5, c6, c7, n1, n2, n3, n4, n5, n6, n7, d, rfl⟩ | ⟨t, L, A3, A4, A5, A6, A7, c3, c4, c5, c6, c7, rV, rcV, rA, rc, rfl, hlx, hx, ht, hM⟩
  · clear a0 a1 a2 a3 la
    have a0 : V1.cell? ⟨pq0, 0, none⟩ = some (.slice Ar s.rooms.length cr) := q0.cell 0
    have a1 : V1.cell? ⟨pq0, 1, none⟩ = some (.int .i64 s.days) := q0.cell 1
    have a2 : V1.cell? ⟨pq0, 2, none⟩ = some (.slice Am s.moves.length cm) := q0.cell 2
    have a3 : V1.cell? ⟨pq0, 3, none⟩ = some (.slice Aw s.wgs.length cw) := q0.cell 3
    have la := q0.lt
    go_wp2_with fail
    refine (awake_any _).mono ?_
    rintro e Wz ⟨rfl, hz⟩
    go_wp2
    go_ret
    exact ⟨rfl, ex_trans (ex_alloc (ex_alloc B_V1 _) _) hz⟩
  have HLX := Lib.hid hlx
  clear hlx
  replace hx : WsIn V1 V1.heap.size (s.wg L) Ar Am A3 := ⟨hs.rooms, hs.moves, hx⟩
  clear a0 a1 a2 a3 la
  have a0 : V1.cell? ⟨pq0, 0, none⟩ = some (.slice Ar s.rooms.length cr) := q0.cell 0
  have a1 : V1.cell? ⟨pq0, 1, none⟩ = some (.int .i64 s.days) := q0.cell 1
  have a2 : V1.cell? ⟨pq0, 2, none⟩ = some (.slice Am s.moves.length cm) := q0.cell 2
  have a3 : V1.cell? ⟨pq0, 3, none⟩ = some (.slice Aw s.wgs.length cw) := q0.cell 3
  have la := q0.lt
  have N2 := ex_alloc (ex_alloc (Below.refl V1.heap.size V1) (.cells #[.slice Ar s.rooms.length cr, .int .i64 s.days, .slice Am s.moves.length cm, .slice A3 L.length c3] 26)) (.cells #[.slice A4 t.fs.length c4, .slice A5 t.vs.length c5, .slice A6 t.gs.length c6] 31)
  have qx : Blk ((V1.alloc (.cells #[.slice Ar s.rooms.length cr, .int .i64 s.days, .slice Am s.moves.length cm, .slice A3 L.length c3] 26)).alloc (.cells #[.slice A4 t.fs.length c4, .slice A5 t.vs.length c5, .slice A6 t.gs.length c6] 31)) V1.heap.size 26 #[.slice Ar s.rooms.length cr, .int .i64 s.days, .slice Am s.moves.length cm, .slice A3 L.length c3] := (Blk.new _ _ _).alloc _
  have qt : Blk ((V1.alloc (.cells #[.slice Ar s.rooms.length cr, .int .i64 s.days, .slice Am s.moves.length cm, .slice A3 L.length c3] 26)).alloc (.cells #[.slice A4 t.fs.length c4, .slice A5 t.vs.length c5, .slice A6 t.gs.length c6] 31)) (V1.heap.size + 1) 31 #[.slice A4 t.fs.length c4, .slice A5 t.vs.length c5, .slice A6 t.gs.length c6] := Blk.new' _ _ _ (by simp)
  go_upto_region 2 with fail
  clear a0 a1 a2 a3 la
  replace hs := hs.go N2
  replace hwd := (hwd.below N2).up N2.size
  replace q0 := q0.below N2 q0.lt
  replace hx := hx.go N2
  replace ht := ht.go N2
  replace hM := hM.go N2
  have B_V2 := ex_trans B_V1 N2
  obtain ⟨pqx, hpqx⟩ : ∃ p, V1.heap.size = p := ⟨_, rfl⟩
  rw [hpqx] at qx qt ⊢
  clear N2
  generalize (V1.alloc (.cells #[.slice Ar s.rooms.length cr, .int .i64 s.days, .slice Am s.moves.length cm, .slice A3 L.length c3] 26)).alloc (.cells #[.slice A4 t.fs.length c4, .slice A5 t.vs.length c5, .slice A6 t.gs.length c6] 31) = V2 at *
  clear hpqx
  have HSX : Hid ((s.wg L).rooms.length ≤ 1000 ∧ (s.wg L).moves.length ≤ 1000 ∧ (s.wg L).wgs.length ≤ 1000) := Lib.hid HLX.out.sm
  have HWO := Lib.hid HLX.out.wo.1
  have HDD := Lib.hid HLX.out.wo.2
  have HWX := Lib.hid HLX.out.wox.1
  have HDX := Lib.hid HLX.out.wox.2
  have hr3 : 1 ≤ s.rooms.length ∧ s.rooms.length ≤ 3 := HWO.out.len.elim (fun a b => ⟨a, b.1⟩)
  have hm12 : s.moves.length ≤ 12 := HWO.out.len.2.2.1
  have hl8 : L.length ≤ 8 := HWX.out.len.2.2.2
  have hwl8 : s.wgs.length ≤ 8 := HWO.out.len.2.2.2
  have a0 : V2.cell? ⟨pq0, 0, none⟩ = some (.slice Ar s.rooms.length cr) := q0.cell 0
  have a1 : V2.cell? ⟨pq0, 1, none⟩ = some (.int .i64 s.days) := q0.cell 1
  have a2 : V2.cell? ⟨pq0, 2, none⟩ = some (.slice Am s.moves.length cm) := q0.cell 2
  have a3 : V2.cell? ⟨pq0, 3, none⟩ = some (.slice Aw s.wgs.length cw) := q0.cell 3
  have la := q0.lt
  have x0 : V2.cell? ⟨pqx, 0, none⟩ = some (.slice Ar s.rooms.length cr) := qx.cell 0
  have x1 : V2.cell? ⟨pqx, 1, none⟩ = some (.int .i64 s.days) := qx.cell 1
  have x2 : V2.cell? ⟨pqx, 2, none⟩ = some (.slice Am s.moves.length cm) := qx.cell 2
  have x3 : V2.cell? ⟨pqx, 3, none⟩ = some (.slice A3 L.length c3) := qx.cell 3
  have lx := qx.lt
  have t0 : V2.cell? ⟨pqx + 1, 0, none⟩ = some (.slice A4 t.fs.length c4) := qt.cell 0
  have t1 : V2.cell? ⟨pqx + 1, 1, none⟩ = some (.slice A5 t.vs.length c5) := qt.cell 1
  have t2 : V2.cell? ⟨pqx + 1, 2, none⟩ = some (.slice A6 t.gs.length c6) := qt.cell 2
  have lt := qt.lt
  by_cases hw6 : 6 < s.wgs.length
  · have hw6' : (6 : Int) < (s.wgs.length : Int) := by omega
    go_wp2_with fail
    refine (awake_any V2).mono ?_
    rintro e Wz ⟨rfl, hz⟩
    go_wp2
    go_ret
    exact ⟨rfl, ex_trans B_V2 hz⟩
  have hw6' : ¬ (6 : Int) < (s.wgs.length : Int) := by omega
  go_wp2_with fail
  refine (Works_any (s.wg L) Ar Am A3 cr cm c3 V2 hx HSX.out).mono ?_
  rintro e V4 ⟨⟨⟨Ar1, Am1, Aw1, cr1, cm1, cw1, rfl, hw1⟩⟩, hV4⟩
  replace hs := hs.go hV4
  replace hwd := (hwd.below hV4).up hV4.size
  replace q0 := q0.below hV4 q0.lt
  replace hx := hx.go hV4
  replace ht := ht.go hV4
  replace hM := hM.go hV4
  replace qx := qx.below hV4 qx.lt
  replace qt := qt.below hV4 qt.lt
  have B_V4 := ex_trans B_V2 hV4
  clear a0 a1 a2 a3 la
  have a0 : V4.cell? ⟨pq0, 0, none⟩ = some (.slice Ar s.rooms.length cr) := q0.cell 0
  have a1 : V4.cell? ⟨pq0, 1, none⟩ = some (.int .i64 s.days) := q0.cell 1
  have a2 : V4.cell? ⟨pq0, 2, none⟩ = some (.slice Am s.moves.length cm) := q0.cell 2
  have a3 : V4.cell? ⟨pq0, 3, none⟩ = some (.slice Aw s.wgs.length cw) := q0.cell 3
  have la := q0.lt
  clear x0 x1 x2 x3 lx
  have x0 : V4.cell? ⟨pqx, 0, none⟩ = some (.slice Ar s.rooms.length cr) := qx.cell 0
  have x1 : V4.cell? ⟨pqx, 1, none⟩ = some (.int .i64 s.days) := qx.cell 1
  have x2 : V4.cell? ⟨pqx, 2, none⟩ = some (.slice Am s.moves.length cm) := qx.cell 2
  have x3 : V4.cell? ⟨pqx, 3, none⟩ = some (.slice A3 L.length c3) := qx.cell 3
  have lx := qx.lt
  clear t0 t1 t2 lt
  have t0 : V4.cell? ⟨pqx + 1, 0, none⟩ = some (.slice A4 t.fs.length c4) := qt.cell 0
  have t1 : V4.cell? ⟨pqx + 1, 1, none⟩ = some (.slice A5 t.vs.length c5) := qt.cell 1
  have t2 : V4.cell? ⟨pqx + 1, 2, none⟩ = some (.slice A6 t.gs.length c6) := qt.cell 2
  have lt := qt.lt
  have hfe := fw_yes HLX.out.ckx ⟨_, _, _, HLX.out.good⟩
  have HKI := Lib.hid (keep_is HLX.out.ckx hfe)
  have hmin := (fw_ok HLX.out.ckx hfe).min _ ⟨_, _, _, HLX.out.good⟩
  have hbc := bm_cases HLX.out.ckx
  have hbo : bmE (s.wg L) = 0 → fwL (s.wg L) = [bmV (s.wg L)] := fun h => (bm_ok HLX.out.ckx h).2
  go_wp2_with fail
  refine (Fewest_any (s.wg L) Ar1 Am1 Aw1 cr1 cm1 cw1 V4 hw1).mono ?_
  rintro e V5 ⟨⟨⟨AF, cF, rfl, hfl⟩⟩, hV5⟩
  replace hs := hs.go hV5
  replace hwd := (hwd.below hV5).up hV5.size
  replace q0 := q0.below hV5 q0.lt
  replace hx := hx.go hV5
  replace ht := ht.go hV5
  replace hM := hM.go hV5
  replace qx := qx.below hV5 qx.lt
  replace qt := qt.below hV5 qt.lt
  replace hw1 := hw1.go hV5
  have B_V5 := ex_trans B_V4 hV5
  clear hw1
  clear a0 a1 a2 a3 la
  have a0 : V5.cell? ⟨pq0, 0, none⟩ = some (.slice Ar s.rooms.length cr) := q0.cell 0
  have a1 : V5.cell? ⟨pq0, 1, none⟩ = some (.int .i64 s.days) := q0.cell 1
  have a2 : V5.cell? ⟨pq0, 2, none⟩ = some (.slice Am s.moves.length cm) := q0.cell 2
  have a3 : V5.cell? ⟨pq0, 3, none⟩ = some (.slice Aw s.wgs.length cw) := q0.cell 3
  have la := q0.lt
  clear x0 x1 x2 x3 lx
  have x0 : V5.cell? ⟨pqx, 0, none⟩ = some (.slice Ar s.rooms.length cr) := qx.cell 0
  have x1 : V5.cell? ⟨pqx, 1, none⟩ = some (.int .i64 s.days) := qx.cell 1
  have x2 : V5.cell? ⟨pqx, 2, none⟩ = some (.slice Am s.moves.length cm) := qx.cell 2
  have x3 : V5.cell? ⟨pqx, 3, none⟩ = some (.slice A3 L.length c3) := qx.cell 3
  have lx := qx.lt
  clear t0 t1 t2 lt
  have t0 : V5.cell? ⟨pqx + 1, 0, none⟩ = some (.slice A4 t.fs.length c4) := qt.cell 0
  have t1 : V5.cell? ⟨pqx + 1, 1, none⟩ = some (.slice A5 t.vs.length c5) := qt.cell 1
  have t2 : V5.cell? ⟨pqx + 1, 2, none⟩ = some (.slice A6 t.gs.length c6) := qt.cell 2
  have lt := qt.lt
  rw [hfe]
  clear hfe
  obtain ⟨l, hl⟩ : ∃ l, fwL (s.wg L) = l := ⟨_, rfl⟩
  rw [hl] at hfl hmin hbo HKI ⊢
  clear hl
  have hnl : l.length ≤ 8 := by have := HKI.out.len; omega
  go_wp2_with fail
  refine (Works_any (s.wg L) Ar Am A3 cr cm c3 V5 hx HSX.out).mono ?_
  rintro e V6 ⟨⟨⟨Ar2, Am2, Aw2, cr2, cm2, cw2, rfl, hw2⟩⟩, hV6⟩
  replace hs := hs.go hV6
  replace hwd := (hwd.below hV6).up hV6.size
  replace q0 := q0.below hV6 q0.lt
  replace hx := hx.go hV6
  replace ht := ht.go hV6
  replace hM := hM.go hV6
  replace qx := qx.below hV6 qx.lt
  replace qt := qt.below hV6 qt.lt
  replace hfl := (hfl.below hV6).up hV6.size
  have B_V6 := ex_trans B_V5 hV6
  clear a0 a1 a2 a3 la
  have a0 : V6.cell? ⟨pq0, 0, none⟩ = some (.slice Ar s.rooms.length cr) := q0.cell 0
  have a1 : V6.cell? ⟨pq0, 1, none⟩ = some (.int .i64 s.days) := q0.cell 1
  have a2 : V6.cell? ⟨pq0, 2, none⟩ = some (.slice Am s.moves.length cm) := q0.cell 2
  have a3 : V6.cell? ⟨pq0, 3, none⟩ = some (.slice Aw s.wgs.length cw) := q0.cell 3
  have la := q0.lt
  clear x0 x1 x2 x3 lx
  have x0 : V6.cell? ⟨pqx, 0, none⟩ = some (.slice Ar s.rooms.length cr) := qx.cell 0
  have x1 : V6.cell? ⟨pqx, 1, none⟩ = some (.int .i64 s.days) := qx.cell 1
  have x2 : V6.cell? ⟨pqx, 2, none⟩ = some (.slice Am s.moves.length cm) := qx.cell 2
  have x3 : V6.cell? ⟨pqx, 3, none⟩ = some (.slice A3 L.length c3) := qx.cell 3
  have lx := qx.lt
  clear t0 t1 t2 lt
  have t0 : V6.cell? ⟨pqx + 1, 0, none⟩ = some (.slice A4 t.fs.length c4) := qt.cell 0
  have t1 : V6.cell? ⟨pqx + 1, 1, none⟩ = some (.slice A5 t.vs.length c5) := qt.cell 1
  have t2 : V6.cell? ⟨pqx + 1, 2, none⟩ = some (.slice A6 t.gs.length c6) := qt.cell 2
  have lt := qt.lt
  go_wp2_with fail
  refine (Blame_any (s.wg L) Ar2 Am2 Aw2 cr2 cm2 cw2 V6 hw2).mono ?_
  rintro e V7 ⟨rfl, hV7⟩
  replace hs := hs.go hV7
  replace hwd := (hwd.below hV7).up hV7.size
  replace q0 := q0.below hV7 q0.lt
  replace hx := hx.go hV7
  replace ht := ht.go hV7
  replace hM := hM.go hV7
  replace qx := qx.below hV7 qx.lt
  replace qt := qt.below hV7 qt.lt
  replace hfl := (hfl.below hV7).up hV7.size
  replace hw2 := hw2.go hV7
  have B_V7 := ex_trans B_V6 hV7
  clear hw2
  clear a0 a1 a2 a3 la
  have a0 : V7.cell? ⟨pq0, 0, none⟩ = some (.slice Ar s.rooms.length cr) := q0.cell 0
  have a1 : V7.cell? ⟨pq0, 1, none⟩ = some (.int .i64 s.days) := q0.cell 1
  have a2 : V7.cell? ⟨pq0, 2, none⟩ = some (.slice Am s.moves.length cm) := q0.cell 2
  have a3 : V7.cell? ⟨pq0, 3, none⟩ = some (.slice Aw s.wgs.length cw) := q0.cell 3
  have la := q0.lt
  clear x0 x1 x2 x3 lx
  have x0 : V7.cell? ⟨pqx, 0, none⟩ = some (.slice Ar s.rooms.length cr) := qx.cell 0
  have x1 : V7.cell? ⟨pqx, 1, none⟩ = some (.int .i64 s.days) := qx.cell 1
  have x2 : V7.cell? ⟨pqx, 2, none⟩ = some (.slice Am s.moves.length cm) := qx.cell 2
  have x3 : V7.cell? ⟨pqx, 3, none⟩ = some (.slice A3 L.length c3) := qx.cell 3
  have lx := qx.lt
  clear t0 t1 t2 lt
  have t0 : V7.cell? ⟨pqx + 1, 0, none⟩ = some (.slice A4 t.fs.length c4) := qt.cell 0
  have t1 : V7.cell? ⟨pqx + 1, 1, none⟩ = some (.slice A5 t.vs.length c5) := qt.cell 1
  have t2 : V7.cell? ⟨pqx + 1, 2, none⟩ = some (.slice A6 t.gs.length c6) := qt.cell 2
  have lt := qt.lt
  obtain ⟨bv, hbv⟩ : ∃ x, bmV (s.wg L) = x := ⟨_, rfl⟩
  obtain ⟨be, hbe⟩ : ∃ x, bmE (s.wg L) = x := ⟨_, rfl⟩
  rw [hbv] at hbo ⊢
  rw [hbe] at hbo hbc ⊢
  clear hbv hbe
  obtain ⟨n, hn⟩ : ∃ n, L.length = n := ⟨_, rfl⟩
  have hn6 : n ≤ 6 := by have := HLX.out.len; omega
  obtain ⟨hmk, hmk1, hmk0⟩ := mask_eq (n := n) (m := m) (by omega) hm
  have hn64 : (n : Int) ≤ 64 := by omega
  rw [hn] at x3
  have hof := ofL_cnt m n n (Nat.le_refl _)
  have HN := Lib.hid hn
  rw [show (s.wg L).wgs.length = n from hn] at hmin
  rw [← hof] at hmin
  clear hof
  have HMIN := Lib.hid hmin
  clear hmin
  have n0 : (0 : Int) ≤ (m : Int) := Int.natCast_nonneg _
  go_wp2_with fail
  refine (Of_ref n ((m : Int) % 2 ^ n) V7 (by omega) hmk0 (by omega)).mono ?_
  rintro e V8 ⟨⟨vo, rfl, hown⟩, hV8⟩
  replace hs := hs.go hV8
  replace hwd := (hwd.below hV8).up hV8.size
  replace q0 := q0.below hV8 q0.lt
  replace hx := hx.go hV8
  replace ht := ht.go hV8
  replace hM := hM.go hV8
  replace qx := qx.below hV8 qx.lt
  replace qt := qt.below hV8 qt.lt
  replace hfl := (hfl.below hV8).up hV8.size
  have B_V8 := ex_trans B_V7 hV8
  clear a0 a1 a2 a3 la
  have a0 : V8.cell? ⟨pq0, 0, none⟩ = some (.slice Ar s.rooms.length cr) := q0.cell 0
  have a1 : V8.cell? ⟨pq0, 1, none⟩ = some (.int .i64 s.days) := q0.cell 1
  have a2 : V8.cell? ⟨pq0, 2, none⟩ = some (.slice Am s.moves.length cm) := q0.cell 2
  have a3 : V8.cell? ⟨pq0, 3, none⟩ = some (.slice Aw s.wgs.length cw) := q0.cell 3
  have la := q0.lt
  clear x0 x1 x2 x3 lx
  have x0 : V8.cell? ⟨pqx, 0, none⟩ = some (.slice Ar s.rooms.length cr) := qx.cell 0
  have x1 : V8.cell? ⟨pqx, 1, none⟩ = some (.int .i64 s.days) := qx.cell 1
  have x2 : V8.cell? ⟨pqx, 2, none⟩ = some (.slice Am s.moves.length cm) := qx.cell 2
  have x3 : V8.cell? ⟨pqx, 3, none⟩ = some (.slice A3 L.length c3) := qx.cell 3
  have lx := qx.lt
  clear t0 t1 t2 lt
  have t0 : V8.cell? ⟨pqx + 1, 0, none⟩ = some (.slice A4 t.fs.length c4) := qt.cell 0
  have t1 : V8.cell? ⟨pqx + 1, 1, none⟩ = some (.slice A5 t.vs.length c5) := qt.cell 1
  have t2 : V8.cell? ⟨pqx + 1, 2, none⟩ = some (.slice A6 t.gs.length c6) := qt.cell 2
  have lt := qt.lt
  rw [hn] at x3
  skip
  obtain ⟨AO, cO, rfl, _, hso⟩ := own_sl hown
  clear hown hso
  obtain ⟨no, hno⟩ : ∃ no, (ofL ((m : Int) % 2 ^ n) n).length = no := ⟨_, rfl⟩
  rw [hno] at HMIN ⊢
  have hnle := HMIN.out
  have hno6 : no ≤ 6 := by rw [← hno]; have := ofL_len (b := (m : Int) % 2 ^ n) (n := n); omega
  clear hno hmk hmk1 hmk0 hn
  have hg1 : ¬ (no : Int) < (l.length : Int) := by omega
  have HBR : Hid (∀ br orr, A3 = some ⟨br, orr, none⟩ → 0 < n → br < V8.heap.size) := Lib.hid (fun br orr e h => by obtain ⟨b', o', e', hb', _⟩ := hx.wgs (show 0 < L.length by rw [HN.out]; exact h); rw [e] at e'; injection e' with e'; injection e' with e1; omega)
  rcases hbc with rfl | rfl
  · have hl1 := hbo rfl
    have hll : l.length = 1 := by rw [hl1]; rfl
    have hg0 : gI l 0 = bv := by rw [hl1]; rfl
    have hle1 : ((l.length : Int) != 1) = false := by rw [hll]; rfl
    obtain ⟨bl, ol, rfl, hbl, v0⟩ := IsInts.at_ (l := l) hfl (show 0 < l.length by omega)
    rw [Nat.add_zero, hg0] at v0
    have hll0 : (0 : Int) < (l.length : Int) := by omega
    have HLL := Lib.hid hll
    clear hl1 hg0 hbo hll
    skip
    rw [HN.out] at qx
    have NY := ex_alloc (Below.refl V8.heap.size V8) (.cells #[.slice Ar s.rooms.length cr, .int .i64 s.days, .slice Am s.moves.length cm, .slice A3 n c3] 26)
    have qy : Blk (V8.alloc (.cells #[.slice Ar s.rooms.length cr, .int .i64 s.days, .slice Am s.moves.length cm, .slice A3 n c3] 26)) V8.heap.size 26 #[.slice Ar s.rooms.length cr, .int .i64 s.days, .slice Am s.moves.length cm, .slice A3 n c3] := Blk.new _ _ _
    go_upto_region 10 with fail
    clear a0 a1 a2 a3 la
    clear x0 x1 x2 x3 lx
    clear t0 t1 t2 lt
    have hpw : w.heap.size ≤ V8.heap.size := B_V8.size
    have hpq : pqx < V8.heap.size := qx.lt
    obtain ⟨py, hpy⟩ : ∃ p, V8.heap.size = p := ⟨_, rfl⟩
    rw [hpy] at qy ⊢
    have hpy0 : V8.heap.size ≤ py := by omega
    have hpqy : pqx < py := by omega
    clear hpy hpq
    have y3 : (V8.alloc (.cells #[.slice Ar s.rooms.length cr, .int .i64 s.days, .slice Am s.moves.length cm, .slice A3 n c3] 26)).cell? ⟨py, 3, none⟩ = some (.slice A3 n c3) := qy.cell 3
    have ly := qy.lt
    have fy := qy.frozen0
    have qy2 := qy.set_ 3 (.slice none 0 0)
    simp only [List.setIfInBounds_toArray, List.set_cons_zero, List.set_cons_succ] at qy2
    have NY2 : Below V8.heap.size V8 ((V8.alloc (.cells #[.slice Ar s.rooms.length cr, .int .i64 s.days, .slice Am s.moves.length cm, .slice A3 n c3] 26)).setCell ⟨py, 3, none⟩ (.slice none 0 0)) := ex_set NY (by show V8.heap.size ≤ py; omega) _
    generalize V8.alloc (.cells #[.slice Ar s.rooms.length cr, .int .i64 s.days, .slice Am s.moves.length cm, .slice A3 n c3] 26) = Ve at *
    go_upto_region 11 with fail
    generalize Ve.setCell ⟨py, 3, none⟩ (.slice none 0 0) = Vf at *
    clear y3 ly fy qy NY
    obtain ⟨B0, hB0⟩ : ∃ b, Vf.heap.size = b := ⟨_, rfl⟩
    have hpB : py < B0 := by have := qy2.lt; omega
    have hzf : B0 ≤ Vf.heap.size := by omega
    clear hB0
    go_wp2_with fail
    refine wp_loop (fun a W => Rel (fun a W => ∃ i : Nat, i ≤ n ∧ Below V8.heap.size V8 W ∧ B0 ≤ W.heap.size ∧ (∃ v K, Blk W py 26 #[.slice Ar s.rooms.length cr, .int .i64 s.days, .slice Am s.moves.length cm, v] ∧ W.ownsRow B0 72 4 v K.length (K.flatMap cWg) ∧ Hid (K = keepW l L i) ∧ ∃ u : Nat → Value, a = ⟨List.toArray (u 0 :: u 1 :: u 2 :: u 3 :: u 4 :: u 5 :: u 6 :: .pointer (some ⟨pqx, 0, none⟩) :: u 8 :: u 9 :: u 10 :: .slice (some ⟨bl, ol, none⟩) l.length cF :: u 12 :: u 13 :: u 14 :: u 15 :: .pointer (some ⟨py, 0, none⟩) :: .int .i64 (i : Int) :: u 18 :: u 19 :: u 20 :: u 21 :: u 22 :: u 23 :: u 24 :: u 25 :: u 26 :: u 27 :: u 28 :: u 29 :: u 30 :: u 31 :: u 32 :: u 33 :: u 34 :: u 35 :: u 36 :: u 37 :: u 38 :: u 39 :: u 40 :: u 41 :: u 42 :: u 43 :: u 44 :: u 45 :: u 46 :: u 47 :: u 48 :: u 49 :: u 50 :: u 51 :: u 52 :: u 53 :: u 54 :: u 55 :: u 56 :: u 57 :: u 58 :: u 59 :: u 60 :: u 61 :: u 62 :: u 63 :: u 64 :: u 65 :: u 66 :: u 67 :: u 68 :: u 69 :: u 70 :: u 71 :: u 72 :: u 73 :: u 74 :: u 75 :: u 76 :: u 77 :: u 78 :: u 79 :: u 80 :: u 81 :: u 82 :: u 83 :: u 84 :: u 85 :: u 86 :: u 87 :: u 88 :: u 89 :: u 90 :: u 91 :: u 92 :: u 93 :: u 94 :: u 95 :: u 96 :: u 97 :: u 98 :: u 99 :: u 100 :: u 101 :: u 102 :: u 103 :: u 104 :: u 105 :: u 106 :: u 107 :: u 108 :: u 109 :: u 110 :: u 111 :: u 112 :: u 113 :: u 114 :: u 115 :: u 116 :: u 117 :: u 118 :: u 119 :: u 120 :: u 121 :: u 122 :: u 123 :: u 124 :: u 125 :: u 126 :: u 127 :: u 128 :: u 129 :: u 130 :: u 131 :: u 132 :: u 133 :: u 134 :: u 135 :: u 136 :: u 137 :: u 138 :: u 139 :: u 140 :: u 141 :: []), []⟩)) a W) (fun a _ => n - (intOf (a.tmps.getD 17 undef)).toNat) ⟨⟨0, by omega, NY2, hzf, .slice none 0 0, [], qy2, ⟨rfl, .inl ⟨rfl, rfl⟩⟩, Lib.hid rfl, exFrame (by kernel_rfl)⟩⟩ ?_
    clear NY2 qy2 hzf Vf Ve
    rintro a W ⟨⟨i, hi, hbw, hzW, v, K, qy, hown, HK, u, rfl⟩⟩
    replace hs := hs.go hbw
    replace hwd := (hwd.below hbw).up hbw.size
    replace q0 := q0.below hbw q0.lt
    replace hx := hx.go hbw
    replace ht := ht.go hbw
    replace hM := hM.go hbw
    replace qx := qx.below hbw qx.lt
    replace qt := qt.below hbw qt.lt
    replace hfl := (hfl.below hbw).up hbw.size
    have B_W := ex_trans B_V8 hbw
    have x0 : W.cell? ⟨pqx, 0, none⟩ = some (.slice Ar s.rooms.length cr) := qx.cell 0
    have x1 : W.cell? ⟨pqx, 1, none⟩ = some (.int .i64 s.days) := qx.cell 1
    have x2 : W.cell? ⟨pqx, 2, none⟩ = some (.slice Am s.moves.length cm) := qx.cell 2
    have x3 : W.cell? ⟨pqx, 3, none⟩ = some (.slice A3 n c3) := qx.cell 3
    have lx := qx.lt
    have ly := qy.lt
    have y3 : W.cell? ⟨py, 3, none⟩ = some v := qy.cell 3
    by_cases hlt : i < n
    · have hlt' : (i : Int) < (n : Int) := by omega
      have HKL : Hid (K.length ≤ i) := Lib.hid (by rw [HK.out]; have := keepW_len l L i; omega)
      go_wp2_with fail
      refine (Has_ref (some ⟨bl, ol, none⟩) cF l i W hfl (by omega)).mono ?_
      rintro e W2 ⟨rfl, hW2⟩
      clear x0 x1 x2 x3 lx
      replace hs := hs.go hW2
      replace hwd := (hwd.below hW2).up hW2.size
      replace q0 := q0.below hW2 q0.lt
      replace hx := hx.go hW2
      replace ht := ht.go hW2
      replace hM := hM.go hW2
      replace qx := qx.below hW2 qx.lt
      replace qt := qt.below hW2 qt.lt
      replace hfl := (hfl.below hW2).up hW2.size
      have B_W2 := ex_trans B_W hW2
      have X_W2 := ex_trans hbw hW2
      have x0 : W2.cell? ⟨pqx, 0, none⟩ = some (.slice Ar s.rooms.length cr) := qx.cell 0
      have x1 : W2.cell? ⟨pqx, 1, none⟩ = some (.int .i64 s.days) := qx.cell 1
      have x2 : W2.cell? ⟨pqx, 2, none⟩ = some (.slice Am s.moves.length cm) := qx.cell 2
      have x3 : W2.cell? ⟨pqx, 3, none⟩ = some (.slice A3 n c3) := qx.cell 3
      have lx := qx.lt
      have hbw2 := ex_trans hbw hW2
      replace qy := qy.below hW2 qy.lt
      replace hown := own_below hown hW2
      have hzW2 : B0 ≤ W2.heap.size := by have := hW2.size; omega
      clear y3 ly hzW
      have ly := qy.lt
      have y3 : W2.cell? ⟨py, 3, none⟩ = some v := qy.cell 3
      cases hh : hasB l (i : Int)
      rotate_left
      · have HK2 : Hid (K = keepW l L (i + 1)) := Lib.hid (by rw [keepW, hh, if_pos rfl]; exact HK.out)
        clear hh
        go_wp2_with fail
        refine ⟨⟨⟨i + 1, by omega, hbw2, hzW2, v, K, qy, hown, HK2, exFrame (by kernel_rfl)⟩⟩, ?_⟩
        show n - (intOf (.int .i64 ((i : Int) + 1))).toNat < n - (intOf (.int .i64 (i : Int))).toNat
        simp [intOf]
        omega
      obtain ⟨br, orr, hA3, hbr, r0, r1, r2, r3⟩ := IsWgs.at_ hx.wgs (show i < L.length by rw [HN.out]; exact hlt)
      rw [hA3] at x3
      obtain ⟨e0, he0⟩ : ∃ x, (gWg L i).room = x := ⟨_, rfl⟩
      change W2.cell? _ = some (.int .i64 (gWg L i).room) at r0
      rw [he0] at r0
      obtain ⟨e1, he1⟩ : ∃ x, (gWg L i).day = x := ⟨_, rfl⟩
      change W2.cell? _ = some (.int .i64 (gWg L i).day) at r1
      rw [he1] at r1
      obtain ⟨e2, he2⟩ : ∃ x, (gWg L i).g.lo = x := ⟨_, rfl⟩
      change W2.cell? _ = some (.int .i64 (gWg L i).g.lo) at r2
      rw [he2] at r2
      obtain ⟨e3, he3⟩ : ∃ x, (gWg L i).g.hi = x := ⟨_, rfl⟩
      change W2.cell? _ = some (.int .i64 (gWg L i).g.hi) at r3
      rw [he3] at r3
      have HK2 : Hid (K ++ [(⟨e0, e1, ⟨e2, e3⟩⟩ : Wg)] = keepW l L (i + 1)) := Lib.hid (by rw [keepW, hh, if_neg (by decide), HK.out, ← he0, ← he1, ← he2, ← he3])
      clear hh he0 he1 he2 he3
      have lbr : br < W2.heap.size := hbr
      obtain ⟨row, hrow⟩ : ∃ row, v.ownBlock = row := ⟨_, rfl⟩
      have hge := fun (j : Nat) (hj : v.ownBlock = some j) => own_ge hown hj
      have hnx : ¬ some pqx = row := fun e => by have := hge _ (hrow.trans e.symm); omega
      have hny : ¬ some py = row := fun e => by have := hge _ (hrow.trans e.symm); omega
      have hbrV : br < B0 := by have := HBR.out br orr hA3 (by omega); omega
      have hnr : ¬ some br = row := fun e => by have := hge _ (hrow.trans e.symm); omega
      have hrw : ∀ j, row = some j → V8.heap.size ≤ j := fun j hj => by have := hge _ (hrow.trans hj); omega
      have HROW := Lib.hid hrow
      clear hrow hge
      go_upto_region 15 with fail
      refine wp_region_gx_mix row 10 [(false, 0), (false, 1), (false, 2), (false, 3), (false, 4), (false, 5), (false, 6), (true, 7), (true, 8), (false, 9)] (by kernel_rfl) (by kernel_rfl) (by intro d _ _ _ _ h; cases d <;> exact h) ?_
      repeat (refine mix_quiet rfl ?_; go_big_quiet_step (fail); refine wpQuiet_nil ?_)
      have hX0 := (Below.refl W2.heap.size W2).drew
      refine mix_loud rfl ?_
      go_wp2_with fail
      have hX3 := ex_alloc hX0 (.cells #[.int .i64 e0, .int .i64 e1, .int .i64 e2, .int .i64 e3] 72)
      refine ⟨inGx (grown_row hX3), ?_⟩
      repeat (refine mix_quiet rfl ?_; go_big_quiet_step (fail); refine wpQuiet_nil ?_)
      have y4 := own_below hown hX3
      have c63 : K.length + 1 ≤ maxLen := by have := HKL.out; unfold maxLen; omega
      have cby : (K.length + 1) * 32 ≤ 140737488355328 := by have := HKL.out; omega
      have hbase : B0 ≤ (W2.drew.alloc (.cells #[.int .i64 e0, .int .i64 e1, .int .i64 e2, .int .i64 e3] 72)).heap.size := by have := hX3.size; omega
      refine mix_loud rfl ?_
      go_wp2_with (at_builtin; refine wpList_append_lies _ rfl _ _ _ rfl (B0) 72 i2 _ 4 32 Try.underlying24 HI.out hz0 hz1 hz2 rfl (by omega) v _ _ rfl y4 ⟨W2.drew.heap.size, 0, none⟩ 1 1 [.int .i64 e0, .int .i64 e1, .int .i64 e2, .int .i64 e3] rfl rfl (World.news_of_block (heap_alloc_new W2.drew _)) (by simp [Value.oneCell']) (by omega) c63 cby hbase (W2.drew.heap.size + 1) (by simp) ?_; intro gg cap w1 hown' hgrow hat hlt')
      rw [HROW.out] at hgrow
      have hgB := (grown_row (r := row) hX3).andThen hgrow (fun j hj => .inr hj)
      refine ⟨inGx hgB, ?_⟩
      repeat (refine mix_quiet rfl ?_; go_big_quiet_step (fail); refine wpQuiet_nil ?_)
      refine mix_nil rfl ?_
      have B5 := hbw2.grown hgB hbw2.size hrw
      have p2 := qy.grown hgB hny
      have f0 : w1.cell? ⟨py, 3, none⟩ = some v := p2.cell 3
      have ff := p2.frozen0
      have lp2 := p2.lt
      have own7 := own_push (f := cWg) (x := (⟨e0, e1, ⟨e2, e3⟩⟩ : Wg)) rfl hown'
      have own8 := own_far own7 (p := ⟨py, 3, none⟩) (by show py < B0; omega) (.slice (some ⟨gg, 0, none⟩) (K.length + 1) cap)
      have B8 := ex_set B5 (p := ⟨py, 3, none⟩) (by show V8.heap.size ≤ py; omega) (.slice (some ⟨gg, 0, none⟩) (K.length + 1) cap)
      have p28 := p2.set_ 3 (.slice (some ⟨gg, 0, none⟩) (K.length + 1) cap)
      simp only [List.setIfInBounds_toArray, List.set_cons_zero, List.set_cons_succ] at p28
      have hz8 : B0 ≤ (w1.setCell ⟨py, 3, none⟩ (.slice (some ⟨gg, 0, none⟩) (K.length + 1) cap)).heap.size := by have := hgB.size; simp; omega
      clear hown' own7 hgB hgrow y4 hX3 hX0 p2 hown hnx hny hnr r0 r1 r2 r3 y3 ly
      clear x0 x1 x2 x3 lx
      go_wp2_with fail
      refine ⟨⟨⟨i + 1, by omega, B8, hz8, _, _, p28, own8, HK2, exFrame (by kernel_rfl)⟩⟩, ?_⟩
      show n - (intOf (.int .i64 ((i : Int) + 1))).toNat < n - (intOf (.int .i64 (i : Int))).toNat
      simp [intOf]
      omega
    have hin : i = n := by omega
    have HK2 : Hid (K = keepW l L L.length) := Lib.hid (by rw [HK.out, hin, HN.out])
    have hkn : ¬ (i : Int) < (n : Int) := by omega
    obtain ⟨A5, c5, rfl, _, _, ro5⟩ := lay_Wg 72 hown
    have HKL : Hid (K.length + l.length = n) := Lib.hid (by rw [HK2.out, HKI.out.len, HN.out])
    have HCK : Hid (ckWs (s.wg K) = 0 ∧ stE (s.wg K) = 0) := Lib.hid (by rw [HK2.out]; exact ⟨HKI.out.ck, HKI.out.stE⟩)
    have hy : WsIn W W.heap.size (s.wg K) Ar Am A5 := ⟨hx.rooms, hx.moves, ro5.sl⟩
    clear hown hlt hi hin y3 ly
    clear x0 x1 x2 x3 lx
    have x0 : W.cell? ⟨pqx, 0, none⟩ = some (.slice Ar s.rooms.length cr) := qx.cell 0
    have x1 : W.cell? ⟨pqx, 1, none⟩ = some (.int .i64 s.days) := qx.cell 1
    have x2 : W.cell? ⟨pqx, 2, none⟩ = some (.slice Am s.moves.length cm) := qx.cell 2
    have x3 : W.cell? ⟨pqx, 3, none⟩ = some (.slice A3 n c3) := qx.cell 3
    have lx := qx.lt
    have y0 : W.cell? ⟨py, 0, none⟩ = some (.slice Ar s.rooms.length cr) := qy.cell 0
    have y1 : W.cell? ⟨py, 1, none⟩ = some (.int .i64 s.days) := qy.cell 1
    have y2 : W.cell? ⟨py, 2, none⟩ = some (.slice Am s.moves.length cm) := qy.cell 2
    have y3 : W.cell? ⟨py, 3, none⟩ = some (.slice A5 K.length c5) := qy.cell 3
    have ly := qy.lt
    have HSY : Hid ((s.wg K).rooms.length ≤ 1000 ∧ (s.wg K).moves.length ≤ 1000 ∧ (s.wg K).wgs.length ≤ 1000) := Lib.hid ⟨HSX.out.1, HSX.out.2.1, by show K.length ≤ 1000; have := HKL.out; omega⟩
    go_wp2_with fail
    refine (Works_any (s.wg K) Ar Am A5 cr cm c5 W hy HSY.out).mono ?_
    rintro e V9 ⟨⟨⟨Ar4, Am4, Aw4, cr4, cm4, cw4, rfl, hw4⟩⟩, hV9⟩
    replace hs := hs.go hV9
    replace hwd := (hwd.below hV9).up hV9.size
    replace q0 := q0.below hV9 q0.lt
    replace hx := hx.go hV9
    replace ht := ht.go hV9
    replace hM := hM.go hV9
    replace qx := qx.below hV9 qx.lt
    replace qt := qt.below hV9 qt.lt
    replace hfl := (hfl.below hV9).up hV9.size
    replace qy := qy.below hV9 qy.lt
    replace hy := hy.go hV9
    have B_V9 := ex_trans B_W hV9
    have X_V9 := ex_trans hbw hV9
    clear x0 x1 x2 x3 lx
    have x0 : V9.cell? ⟨pqx, 0, none⟩ = some (.slice Ar s.rooms.length cr) := qx.cell 0
    have x1 : V9.cell? ⟨pqx, 1, none⟩ = some (.int .i64 s.days) := qx.cell 1
    have x2 : V9.cell? ⟨pqx, 2, none⟩ = some (.slice Am s.moves.length cm) := qx.cell 2
    have x3 : V9.cell? ⟨pqx, 3, none⟩ = some (.slice A3 n c3) := qx.cell 3
    have lx := qx.lt
    clear y0 y1 y2 y3 ly
    have y0 : V9.cell? ⟨py, 0, none⟩ = some (.slice Ar s.rooms.length cr) := qy.cell 0
    have y1 : V9.cell? ⟨py, 1, none⟩ = some (.int .i64 s.days) := qy.cell 1
    have y2 : V9.cell? ⟨py, 2, none⟩ = some (.slice Am s.moves.length cm) := qy.cell 2
    have y3 : V9.cell? ⟨py, 3, none⟩ = some (.slice A5 K.length c5) := qy.cell 3
    have ly := qy.lt
    go_wp2_with fail
    refine (Stocks_any (s.wg K) Ar4 Am4 Aw4 cr4 cm4 cw4 V9 hw4).mono ?_
    rintro e V10 ⟨⟨nT, AT, cT, rT, rcT, rfl, hsv2⟩, hV10⟩
    replace hs := hs.go hV10
    replace hwd := (hwd.below hV10).up hV10.size
    replace q0 := q0.below hV10 q0.lt
    replace hx := hx.go hV10
    replace ht := ht.go hV10
    replace hM := hM.go hV10
    replace qx := qx.below hV10 qx.lt
    replace qt := qt.below hV10 qt.lt
    replace hfl := (hfl.below hV10).up hV10.size
    replace qy := qy.below hV10 qy.lt
    replace hy := hy.go hV10
    replace hw4 := hw4.go hV10
    have B_V10 := ex_trans B_V9 hV10
    have X_V10 := ex_trans X_V9 hV10
    clear hsv2
    rw [HCK.out.2]
    clear hw4
    clear x0 x1 x2 x3 lx
    have x0 : V10.cell? ⟨pqx, 0, none⟩ = some (.slice Ar s.rooms.length cr) := qx.cell 0
    have x1 : V10.cell? ⟨pqx, 1, none⟩ = some (.int .i64 s.days) := qx.cell 1
    have x2 : V10.cell? ⟨pqx, 2, none⟩ = some (.slice Am s.moves.length cm) := qx.cell 2
    have x3 : V10.cell? ⟨pqx, 3, none⟩ = some (.slice A3 n c3) := qx.cell 3
    have lx := qx.lt
    clear y0 y1 y2 y3 ly
    have y0 : V10.cell? ⟨py, 0, none⟩ = some (.slice Ar s.rooms.length cr) := qy.cell 0
    have y1 : V10.cell? ⟨py, 1, none⟩ = some (.int .i64 s.days) := qy.cell 1
    have y2 : V10.cell? ⟨py, 2, none⟩ = some (.slice Am s.moves.length cm) := qy.cell 2
    have y3 : V10.cell? ⟨py, 3, none⟩ = some (.slice A5 K.length c5) := qy.cell 3
    have ly := qy.lt
    have hkl : (K.length : Int) + (l.length : Int) = (n : Int) := by have := HKL.out; omega
    have hkl2 : IntKind.i64.wrap ((K.length : Int) + (l.length : Int)) = (K.length : Int) + (l.length : Int) := IntWalk.i64_in _ (by omega)
    have hkl3 : ((K.length : Int) + (l.length : Int) == (n : Int)) = true := by rw [beq_iff_eq]; exact hkl
    clear hkl
    go_wp2_with fail
    refine (awake_any V10).mono ?_
    rintro e Wz ⟨rfl, hz⟩
    go_wp2
    go_ret
    exact ⟨rfl, ex_trans B_V10 hz⟩
  · clear hbo
    rw [HN.out] at qx
    have NY := ex_alloc (Below.refl V8.heap.size V8) (.cells #[.slice Ar s.rooms.length cr, .int .i64 s.days, .slice Am s.moves.length cm, .slice A3 n c3] 26)
    have qy : Blk (V8.alloc (.cells #[.slice Ar s.rooms.length cr, .int .i64 s.days, .slice Am s.moves.length cm, .slice A3 n c3] 26)) V8.heap.size 26 #[.slice Ar s.rooms.length cr, .int .i64 s.days, .slice Am s.moves.length cm, .slice A3 n c3] := Blk.new _ _ _
    go_upto_region 10 with fail
    clear a0 a1 a2 a3 la
    clear x0 x1 x2 x3 lx
    clear t0 t1 t2 lt
    have hpw : w.heap.size ≤ V8.heap.size := B_V8.size
    have hpq : pqx < V8.heap.size := qx.lt
    obtain ⟨py, hpy⟩ : ∃ p, V8.heap.size = p := ⟨_, rfl⟩
    rw [hpy] at qy ⊢
    have hpy0 : V8.heap.size ≤ py := by omega
    have hpqy : pqx < py := by omega
    clear hpy hpq
    have y3 : (V8.alloc (.cells #[.slice Ar s.rooms.length cr, .int .i64 s.days, .slice Am s.moves.length cm, .slice A3 n c3] 26)).cell? ⟨py, 3, none⟩ = some (.slice A3 n c3) := qy.cell 3
    have ly := qy.lt
    have fy := qy.frozen0
    have qy2 := qy.set_ 3 (.slice none 0 0)
    simp only [List.setIfInBounds_toArray, List.set_cons_zero, List.set_cons_succ] at qy2
    have NY2 : Below V8.heap.size V8 ((V8.alloc (.cells #[.slice Ar s.rooms.length cr, .int .i64 s.days, .slice Am s.moves.length cm, .slice A3 n c3] 26)).setCell ⟨py, 3, none⟩ (.slice none 0 0)) := ex_set NY (by show V8.heap.size ≤ py; omega) _
    generalize V8.alloc (.cells #[.slice Ar s.rooms.length cr, .int .i64 s.days, .slice Am s.moves.length cm, .slice A3 n c3] 26) = Ve at *
    go_upto_region 11 with fail
    generalize Ve.setCell ⟨py, 3, none⟩ (.slice none 0 0) = Vf at *
    clear y3 ly fy qy NY
    obtain ⟨B0, hB0⟩ : ∃ b, Vf.heap.size = b := ⟨_, rfl⟩
    have hpB : py < B0 := by have := qy2.lt; omega
    have hzf : B0 ≤ Vf.heap.size := by omega
    clear hB0
    go_wp2_with fail
    refine wp_loop (fun a W => Rel (fun a W => ∃ i : Nat, i ≤ n ∧ Below V8.heap.size V8 W ∧ B0 ≤ W.heap.size ∧ (∃ v K, Blk W py 26 #[.slice Ar s.rooms.length cr, .int .i64 s.days, .slice Am s.moves.length cm, v] ∧ W.ownsRow B0 72 4 v K.length (K.flatMap cWg) ∧ Hid (K = keepW l L i) ∧ ∃ u : Nat → Value, a = ⟨List.toArray (u 0 :: u 1 :: u 2 :: u 3 :: u 4 :: u 5 :: u 6 :: .pointer (some ⟨pqx, 0, none⟩) :: u 8 :: u 9 :: u 10 :: .slice AF l.length cF :: u 12 :: u 13 :: u 14 :: u 15 :: .pointer (some ⟨py, 0, none⟩) :: .int .i64 (i : Int) :: u 18 :: u 19 :: u 20 :: u 21 :: u 22 :: u 23 :: u 24 :: u 25 :: u 26 :: u 27 :: u 28 :: u 29 :: u 30 :: u 31 :: u 32 :: u 33 :: u 34 :: u 35 :: u 36 :: u 37 :: u 38 :: u 39 :: u 40 :: u 41 :: u 42 :: u 43 :: u 44 :: u 45 :: u 46 :: u 47 :: u 48 :: u 49 :: u 50 :: u 51 :: u 52 :: u 53 :: u 54 :: u 55 :: u 56 :: u 57 :: u 58 :: u 59 :: u 60 :: u 61 :: u 62 :: u 63 :: u 64 :: u 65 :: u 66 :: u 67 :: u 68 :: u 69 :: u 70 :: u 71 :: u 72 :: u 73 :: u 74 :: u 75 :: u 76 :: u 77 :: u 78 :: u 79 :: u 80 :: u 81 :: u 82 :: u 83 :: u 84 :: u 85 :: u 86 :: u 87 :: u 88 :: u 89 :: u 90 :: u 91 :: u 92 :: u 93 :: u 94 :: u 95 :: u 96 :: u 97 :: u 98 :: u 99 :: u 100 :: u 101 :: u 102 :: u 103 :: u 104 :: u 105 :: u 106 :: u 107 :: u 108 :: u 109 :: u 110 :: u 111 :: u 112 :: u 113 :: u 114 :: u 115 :: u 116 :: u 117 :: u 118 :: u 119 :: u 120 :: u 121 :: u 122 :: u 123 :: u 124 :: u 125 :: u 126 :: u 127 :: u 128 :: u 129 :: u 130 :: u 131 :: u 132 :: u 133 :: u 134 :: u 135 :: u 136 :: u 137 :: u 138 :: u 139 :: u 140 :: u 141 :: []), []⟩)) a W) (fun a _ => n - (intOf (a.tmps.getD 17 undef)).toNat) ⟨⟨0, by omega, NY2, hzf, .slice none 0 0, [], qy2, ⟨rfl, .inl ⟨rfl, rfl⟩⟩, Lib.hid rfl, exFrame (by kernel_rfl)⟩⟩ ?_
    clear NY2 qy2 hzf Vf Ve
    rintro a W ⟨⟨i, hi, hbw, hzW, v, K, qy, hown, HK, u, rfl⟩⟩
    replace hs := hs.go hbw
    replace hwd := (hwd.below hbw).up hbw.size
    replace q0 := q0.below hbw q0.lt
    replace hx := hx.go hbw
    replace ht := ht.go hbw
    replace hM := hM.go hbw
    replace qx := qx.below hbw qx.lt
    replace qt := qt.below hbw qt.lt
    replace hfl := (hfl.below hbw).up hbw.size
    have B_W := ex_trans B_V8 hbw
    have x0 : W.cell? ⟨pqx, 0, none⟩ = some (.slice Ar s.rooms.length cr) := qx.cell 0
    have x1 : W.cell? ⟨pqx, 1, none⟩ = some (.int .i64 s.days) := qx.cell 1
    have x2 : W.cell? ⟨pqx, 2, none⟩ = some (.slice Am s.moves.length cm) := qx.cell 2
    have x3 : W.cell? ⟨pqx, 3, none⟩ = some (.slice A3 n c3) := qx.cell 3
    have lx := qx.lt
    have ly := qy.lt
    have y3 : W.cell? ⟨py, 3, none⟩ = some v := qy.cell 3
    by_cases hlt : i < n
    · have hlt' : (i : Int) < (n : Int) := by omega
      have HKL : Hid (K.length ≤ i) := Lib.hid (by rw [HK.out]; have := keepW_len l L i; omega)
      go_wp2_with fail
      refine (Has_ref AF cF l i W hfl (by omega)).mono ?_
      rintro e W2 ⟨rfl, hW2⟩
      clear x0 x1 x2 x3 lx
      replace hs := hs.go hW2
      replace hwd := (hwd.below hW2).up hW2.size
      replace q0 := q0.below hW2 q0.lt
      replace hx := hx.go hW2
      replace ht := ht.go hW2
      replace hM := hM.go hW2
      replace qx := qx.below hW2 qx.lt
      replace qt := qt.below hW2 qt.lt
      replace hfl := (hfl.below hW2).up hW2.size
      have B_W2 := ex_trans B_W hW2
      have X_W2 := ex_trans hbw hW2
      have x0 : W2.cell? ⟨pqx, 0, none⟩ = some (.slice Ar s.rooms.length cr) := qx.cell 0
      have x1 : W2.cell? ⟨pqx, 1, none⟩ = some (.int .i64 s.days) := qx.cell 1
      have x2 : W2.cell? ⟨pqx, 2, none⟩ = some (.slice Am s.moves.length cm) := qx.cell 2
      have x3 : W2.cell? ⟨pqx, 3, none⟩ = some (.slice A3 n c3) := qx.cell 3
      have lx := qx.lt
      have hbw2 := ex_trans hbw hW2
      replace qy := qy.below hW2 qy.lt
      replace hown := own_below hown hW2
      have hzW2 : B0 ≤ W2.heap.size := by have := hW2.size; omega
      clear y3 ly hzW
      have ly := qy.lt
      have y3 : W2.cell? ⟨py, 3, none⟩ = some v := qy.cell 3
      cases hh : hasB l (i : Int)
      rotate_left
      · have HK2 : Hid (K = keepW l L (i + 1)) := Lib.hid (by rw [keepW, hh, if_pos rfl]; exact HK.out)
        clear hh
        go_wp2_with fail
        refine ⟨⟨⟨i + 1, by omega, hbw2, hzW2, v, K, qy, hown, HK2, exFrame (by kernel_rfl)⟩⟩, ?_⟩
        show n - (intOf (.int .i64 ((i : Int) + 1))).toNat < n - (intOf (.int .i64 (i : Int))).toNat
        simp [intOf]
        omega
      obtain ⟨br, orr, hA3, hbr, r0, r1, r2, r3⟩ := IsWgs.at_ hx.wgs (show i < L.length by rw [HN.out]; exact hlt)
      rw [hA3] at x3
      obtain ⟨e0, he0⟩ : ∃ x, (gWg L i).room = x := ⟨_, rfl⟩
      change W2.cell? _ = some (.int .i64 (gWg L i).room) at r0
      rw [he0] at r0
      obtain ⟨e1, he1⟩ : ∃ x, (gWg L i).day = x := ⟨_, rfl⟩
      change W2.cell? _ = some (.int .i64 (gWg L i).day) at r1
      rw [he1] at r1
      obtain ⟨e2, he2⟩ : ∃ x, (gWg L i).g.lo = x := ⟨_, rfl⟩
      change W2.cell? _ = some (.int .i64 (gWg L i).g.lo) at r2
      rw [he2] at r2
      obtain ⟨e3, he3⟩ : ∃ x, (gWg L i).g.hi = x := ⟨_, rfl⟩
      change W2.cell? _ = some (.int .i64 (gWg L i).g.hi) at r3
      rw [he3] at r3
      have HK2 : Hid (K ++ [(⟨e0, e1, ⟨e2, e3⟩⟩ : Wg)] = keepW l L (i + 1)) := Lib.hid (by rw [keepW, hh, if_neg (by decide), HK.out, ← he0, ← he1, ← he2, ← he3])
      clear hh he0 he1 he2 he3
      have lbr : br < W2.heap.size := hbr
      obtain ⟨row, hrow⟩ : ∃ row, v.ownBlock = row := ⟨_, rfl⟩
      have hge := fun (j : Nat) (hj : v.ownBlock = some j) => own_ge hown hj
      have hnx : ¬ some pqx = row := fun e => by have := hge _ (hrow.trans e.symm); omega
      have hny : ¬ some py = row := fun e => by have := hge _ (hrow.trans e.symm); omega
      have hbrV : br < B0 := by have := HBR.out br orr hA3 (by omega); omega
      have hnr : ¬ some br = row := fun e => by have := hge _ (hrow.trans e.symm); omega
      have hrw : ∀ j, row = some j → V8.heap.size ≤ j := fun j hj => by have := hge _ (hrow.trans hj); omega
      have HROW := Lib.hid hrow
      clear hrow hge
      go_upto_region 15 with fail
      refine wp_region_gx_mix row 10 [(false, 0), (false, 1), (false, 2), (false, 3), (false, 4), (false, 5), (false, 6), (true, 7), (true, 8), (false, 9)] (by kernel_rfl) (by kernel_rfl) (by intro d _ _ _ _ h; cases d <;> exact h) ?_
      repeat (refine mix_quiet rfl ?_; go_big_quiet_step (fail); refine wpQuiet_nil ?_)
      have hX0 := (Below.refl W2.heap.size W2).drew
      refine mix_loud rfl ?_
      go_wp2_with fail
      have hX3 := ex_alloc hX0 (.cells #[.int .i64 e0, .int .i64 e1, .int .i64 e2, .int .i64 e3] 72)
      refine ⟨inGx (grown_row hX3), ?_⟩
      repeat (refine mix_quiet rfl ?_; go_big_quiet_step (fail); refine wpQuiet_nil ?_)
      have y4 := own_below hown hX3
      have c63 : K.length + 1 ≤ maxLen := by have := HKL.out; unfold maxLen; omega
      have cby : (K.length + 1) * 32 ≤ 140737488355328 := by have := HKL.out; omega
      have hbase : B0 ≤ (W2.drew.alloc (.cells #[.int .i64 e0, .int .i64 e1, .int .i64 e2, .int .i64 e3] 72)).heap.size := by have := hX3.size; omega
      refine mix_loud rfl ?_
      go_wp2_with (at_builtin; refine wpList_append_lies _ rfl _ _ _ rfl (B0) 72 i2 _ 4 32 Try.underlying24 HI.out hz0 hz1 hz2 rfl (by omega) v _ _ rfl y4 ⟨W2.drew.heap.size, 0, none⟩ 1 1 [.int .i64 e0, .int .i64 e1, .int .i64 e2, .int .i64 e3] rfl rfl (World.news_of_block (heap_alloc_new W2.drew _)) (by simp [Value.oneCell']) (by omega) c63 cby hbase (W2.drew.heap.size + 1) (by simp) ?_; intro gg cap w1 hown' hgrow hat hlt')
      rw [HROW.out] at hgrow
      have hgB := (grown_row (r := row) hX3).andThen hgrow (fun j hj => .inr hj)
      refine ⟨inGx hgB, ?_⟩
      repeat (refine mix_quiet rfl ?_; go_big_quiet_step (fail); refine wpQuiet_nil ?_)
      refine mix_nil rfl ?_
      have B5 := hbw2.grown hgB hbw2.size hrw
      have p2 := qy.grown hgB hny
      have f0 : w1.cell? ⟨py, 3, none⟩ = some v := p2.cell 3
      have ff := p2.frozen0
      have lp2 := p2.lt
      have own7 := own_push (f := cWg) (x := (⟨e0, e1, ⟨e2, e3⟩⟩ : Wg)) rfl hown'
      have own8 := own_far own7 (p := ⟨py, 3, none⟩) (by show py < B0; omega) (.slice (some ⟨gg, 0, none⟩) (K.length + 1) cap)
      have B8 := ex_set B5 (p := ⟨py, 3, none⟩) (by show V8.heap.size ≤ py; omega) (.slice (some ⟨gg, 0, none⟩) (K.length + 1) cap)
      have p28 := p2.set_ 3 (.slice (some ⟨gg, 0, none⟩) (K.length + 1) cap)
      simp only [List.setIfInBounds_toArray, List.set_cons_zero, List.set_cons_succ] at p28
      have hz8 : B0 ≤ (w1.setCell ⟨py, 3, none⟩ (.slice (some ⟨gg, 0, none⟩) (K.length + 1) cap)).heap.size := by have := hgB.size; simp; omega
      clear hown' own7 hgB hgrow y4 hX3 hX0 p2 hown hnx hny hnr r0 r1 r2 r3 y3 ly
      clear x0 x1 x2 x3 lx
      go_wp2_with fail
      refine ⟨⟨⟨i + 1, by omega, B8, hz8, _, _, p28, own8, HK2, exFrame (by kernel_rfl)⟩⟩, ?_⟩
      show n - (intOf (.int .i64 ((i : Int) + 1))).toNat < n - (intOf (.int .i64 (i : Int))).toNat
      simp [intOf]
      omega
    have hin : i = n := by omega
    have HK2 : Hid (K = keepW l L L.length) := Lib.hid (by rw [HK.out, hin, HN.out])
    have hkn : ¬ (i : Int) < (n : Int) := by omega
    obtain ⟨A5, c5, rfl, _, _, ro5⟩ := lay_Wg 72 hown
    have HKL : Hid (K.length + l.length = n) := Lib.hid (by rw [HK2.out, HKI.out.len, HN.out])
    have HCK : Hid (ckWs (s.wg K) = 0 ∧ stE (s.wg K) = 0) := Lib.hid (by rw [HK2.out]; exact ⟨HKI.out.ck, HKI.out.stE⟩)
    have hy : WsIn W W.heap.size (s.wg K) Ar Am A5 := ⟨hx.rooms, hx.moves, ro5.sl⟩
    clear hown hlt hi hin y3 ly
    clear x0 x1 x2 x3 lx
    have x0 : W.cell? ⟨pqx, 0, none⟩ = some (.slice Ar s.rooms.length cr) := qx.cell 0
    have x1 : W.cell? ⟨pqx, 1, none⟩ = some (.int .i64 s.days) := qx.cell 1
    have x2 : W.cell? ⟨pqx, 2, none⟩ = some (.slice Am s.moves.length cm) := qx.cell 2
    have x3 : W.cell? ⟨pqx, 3, none⟩ = some (.slice A3 n c3) := qx.cell 3
    have lx := qx.lt
    have y0 : W.cell? ⟨py, 0, none⟩ = some (.slice Ar s.rooms.length cr) := qy.cell 0
    have y1 : W.cell? ⟨py, 1, none⟩ = some (.int .i64 s.days) := qy.cell 1
    have y2 : W.cell? ⟨py, 2, none⟩ = some (.slice Am s.moves.length cm) := qy.cell 2
    have y3 : W.cell? ⟨py, 3, none⟩ = some (.slice A5 K.length c5) := qy.cell 3
    have ly := qy.lt
    have HSY : Hid ((s.wg K).rooms.length ≤ 1000 ∧ (s.wg K).moves.length ≤ 1000 ∧ (s.wg K).wgs.length ≤ 1000) := Lib.hid ⟨HSX.out.1, HSX.out.2.1, by show K.length ≤ 1000; have := HKL.out; omega⟩
    go_wp2_with fail
    refine (Works_any (s.wg K) Ar Am A5 cr cm c5 W hy HSY.out).mono ?_
    rintro e V11 ⟨⟨⟨Ar4, Am4, Aw4, cr4, cm4, cw4, rfl, hw4⟩⟩, hV11⟩
    replace hs := hs.go hV11
    replace hwd := (hwd.below hV11).up hV11.size
    replace q0 := q0.below hV11 q0.lt
    replace hx := hx.go hV11
    replace ht := ht.go hV11
    replace hM := hM.go hV11
    replace qx := qx.below hV11 qx.lt
    replace qt := qt.below hV11 qt.lt
    replace hfl := (hfl.below hV11).up hV11.size
    replace qy := qy.below hV11 qy.lt
    replace hy := hy.go hV11
    have B_V11 := ex_trans B_W hV11
    have X_V11 := ex_trans hbw hV11
    clear x0 x1 x2 x3 lx
    have x0 : V11.cell? ⟨pqx, 0, none⟩ = some (.slice Ar s.rooms.length cr) := qx.cell 0
    have x1 : V11.cell? ⟨pqx, 1, none⟩ = some (.int .i64 s.days) := qx.cell 1
    have x2 : V11.cell? ⟨pqx, 2, none⟩ = some (.slice Am s.moves.length cm) := qx.cell 2
    have x3 : V11.cell? ⟨pqx, 3, none⟩ = some (.slice A3 n c3) := qx.cell 3
    have lx := qx.lt
    clear y0 y1 y2 y3 ly
    have y0 : V11.cell? ⟨py, 0, none⟩ = some (.slice Ar s.rooms.length cr) := qy.cell 0
    have y1 : V11.cell? ⟨py, 1, none⟩ = some (.int .i64 s.days) := qy.cell 1
    have y2 : V11.cell? ⟨py, 2, none⟩ = some (.slice Am s.moves.length cm) := qy.cell 2
    have y3 : V11.cell? ⟨py, 3, none⟩ = some (.slice A5 K.length c5) := qy.cell 3
    have ly := qy.lt
    go_wp2_with fail
    refine (Stocks_any (s.wg K) Ar4 Am4 Aw4 cr4 cm4 cw4 V11 hw4).mono ?_
    rintro e V12 ⟨⟨nT, AT, cT, rT, rcT, rfl, hsv2⟩, hV12⟩
    replace hs := hs.go hV12
    replace hwd := (hwd.below hV12).up hV12.size
    replace q0 := q0.below hV12 q0.lt
    replace hx := hx.go hV12
    replace ht := ht.go hV12
    replace hM := hM.go hV12
    replace qx := qx.below hV12 qx.lt
    replace qt := qt.below hV12 qt.lt
    replace hfl := (hfl.below hV12).up hV12.size
    replace qy := qy.below hV12 qy.lt
    replace hy := hy.go hV12
    replace hw4 := hw4.go hV12
    have B_V12 := ex_trans B_V11 hV12
    have X_V12 := ex_trans X_V11 hV12
    clear hsv2
    rw [HCK.out.2]
    clear hw4
    clear x0 x1 x2 x3 lx
    have x0 : V12.cell? ⟨pqx, 0, none⟩ = some (.slice Ar s.rooms.length cr) := qx.cell 0
    have x1 : V12.cell? ⟨pqx, 1, none⟩ = some (.int .i64 s.days) := qx.cell 1
    have x2 : V12.cell? ⟨pqx, 2, none⟩ = some (.slice Am s.moves.length cm) := qx.cell 2
    have x3 : V12.cell? ⟨pqx, 3, none⟩ = some (.slice A3 n c3) := qx.cell 3
    have lx := qx.lt
    clear y0 y1 y2 y3 ly
    have y0 : V12.cell? ⟨py, 0, none⟩ = some (.slice Ar s.rooms.length cr) := qy.cell 0
    have y1 : V12.cell? ⟨py, 1, none⟩ = some (.int .i64 s.days) := qy.cell 1
    have y2 : V12.cell? ⟨py, 2, none⟩ = some (.slice Am s.moves.length cm) := qy.cell 2
    have y3 : V12.cell? ⟨py, 3, none⟩ = some (.slice A5 K.length c5) := qy.cell 3
    have ly := qy.lt
    have hkl : (K.length : Int) + (l.length : Int) = (n : Int) := by have := HKL.out; omega
    have hkl2 : IntKind.i64.wrap ((K.length : Int) + (l.length : Int)) = (K.length : Int) + (l.length : Int) := IntWalk.i64_in _ (by omega)
    have hkl3 : ((K.length : Int) + (l.length : Int) == (n : Int)) = true := by rw [beq_iff_eq]; exact hkl
    clear hkl
    go_wp2_with fail
    refine (awake_any V12).mono ?_
    rintro e Wz ⟨rfl, hz⟩
    go_wp2
    go_ret
    exact ⟨rfl, ex_trans B_V12 hz⟩
end Go.Proofs.Ythihdiilokdidaa
end

section
namespace Go.Proofs.Ythihdiilokdidaa.spillFalse
open Go.ChangeShapes Go.WideShapes Go.ChangeAt Go.RowKit
set_option linter.unusedVariables false

set_option maxRecDepth 100000 in
theorem lifted (os : Os) (started : os.Started) (H : Type) (enc : TypeId × Value → H) :
    ReturnsInHanded {} Try.checked os 10 .any (Rows.spillFalseSpec.pre6 enc Try.prog Try.f10 Rows.spillFalseRow.domain false) (Rows.spillFalseSpec.post enc Try.prog Try.f10 false true false false) := by
  refine returnsInHanded_of_change (C := Try.checked) own started (by kernel_rfl) Try.func10
    (ChangeSpec.witness6 (enc := enc) (C := Try.checked) false ⟨#[], #[.agg #[.slice none 0 0, .int .i64 0, .slice none 0 0, .slice none 0 0], .slice none 0 0, .int .u8 0], []⟩ 8 (by kernel_rfl) (by kernel_rfl) (by kernel_rfl) (by kernel_rfl)) ?_
  intro W base args ds gs before hval0 hW hcnd _
  have hval : ∀ (j : Nat) t v, Try.f10.params[j]? = some t → args[j]? = some v → Value.okWide Try.prog W .any base t v := hval0
  have hW0 := hW
  obtain ⟨p, q, hA0, hV, rfl, hfz, hnd⟩ := hW
  have hA : DataW.TrodAll enc Try.prog W 0 (fun _ => true) true Try.f10.params.toList args.toList ds p := hA0
  rw [Try.params10] at hA hval
  obtain ⟨v0, vs0, d0, ds0, p0, q0, ea0, ed0, ep0, h0, hA0⟩ := trodAll_cons hA
  obtain ⟨v1, vs1, d1, ds1, p1, q1, ea1, ed1, ep1, h1, hA1⟩ := trodAll_cons hA0
  obtain ⟨v2, vs2, d2, ds2, p2, q2, ea2, ed2, ep2, h2, hA2⟩ := trodAll_cons hA1
  obtain ⟨ea, ed, ep⟩ := trodAll_nil hA2
  have eargs : args = #[v0, v1, v2] := by rw [← Array.toArray_toList (xs := args), ea0, ea1, ea2, ea]
  have eds : ds = [d0, d1, d2] := by rw [ed0, ed1, ed2, ed]
  subst eargs eds
  obtain ⟨rfl, rfl⟩ := trodVars_none hV
  obtain ⟨s, Ar, Am, Aw, cr, cm, cw, rfl, hsl, hs⟩ := open_worksT (hval 0 _ _ rfl rfl) h0
  obtain ⟨AW, ws, cW, rfl, hwl, hw, hwb⟩ := open_words (hval 1 _ _ rfl rfl) h1
  obtain ⟨m2, rfl, hm2⟩ := open_int Try.underlying5 (hval 2 _ _ rfl rfl) h2
  obtain ⟨n2, rfl⟩ : ∃ n : Nat, m2 = (n : Int) := ⟨m2.toNat, by have := wf_u8 hm2; omega⟩
  refine (FalseLaw_any s Ar Am Aw cr cm cw W hs AW cW ws hw hwb hwl n2 (wf_u8 hm2).2).mono fun e W' he => ?_
  obtain ⟨rfl, hb⟩ := he
  exact ⟨_, rfl, post_law rfl hW0 rfl rfl ⟨⟨by kernel_rfl, of_decide_eq_true (by kernel_rfl)⟩, ⟨by kernel_rfl, of_decide_eq_true (by kernel_rfl)⟩, ⟨by kernel_rfl, of_decide_eq_true (by kernel_rfl)⟩, trivial⟩ hb⟩

theorem over : Rows.spillFalseRow.holds Try.pinned (OpenSpec.ofChange Rows.spillFalseSpec) :=
  OpenClaim.holds_of_wide 10 Try.f10 rfl rfl rfl rfl rfl rfl rfl ⟨rfl, rfl, rfl, rfl, rfl⟩ rfl rfl rfl rfl rfl (by kernel_rfl) Try.func10 (by kernel_rfl)
    (of_decide_eq_true (by kernel_rfl)) (by unfold Func.isWrapper; first | (rw [if_pos (by decide +kernel)]; kernel_rfl) | (rw [if_neg (by decide +kernel)]; exact ⟨rfl, rfl⟩))
    (fun os started H enc _ => lifted os started H enc)

/-- the statement. -/
theorem proved : Rows.SpillFalseSaid :=
  over
#print axioms proved
end Go.Proofs.Ythihdiilokdidaa.spillFalse
end
