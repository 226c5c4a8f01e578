/- Spill: all ways by which grams go: the iterator (walk). · Spill: nets that stay through an iterator's steps. · A proposition as a Bool (plain). -/
import Derived.Test.YthihdiilokdidaaV5
import Derived.Test.YthihdiilokdidaaV2
import Derived.Test.YthihdiilokdidaaProg
set_option linter.unusedVariables false
set_option linter.unusedSimpArgs false
set_option linter.unusedSectionVars false
section
namespace Go.Proofs.Ythihdiilokdidaa
open Go.RowKit Go.Shelf
attribute [local go_sem] Oper.semAt_some

structure KeepsN (B : Nat) (W W' : World) : Prop where
  size : W.heap.size ≤ W'.heap.size
  low : ∀ (k : Nat), k < B → k < W.heap.size → W'.heap[k]? = W.heap[k]?
  same : ∀ (k : Nat) (o : Obj), W.heap[k]? = some o → o.isCells = true → ¬ NetObj o → W'.heap[k]? = some o
theorem KeepsN.refl (B : Nat) (W : World) : KeepsN B W W := ⟨Nat.le_refl _, fun _ _ _ => rfl, fun _ _ h _ _ => h⟩
theorem KeepsN.trans {B : Nat} {X Y Z : World} (h : KeepsN B X Y) (k : KeepsN B Y Z) : KeepsN B X Z := ⟨Nat.le_trans h.size k.size, fun i hi hs => (k.low i hi (Nat.lt_of_lt_of_le hs h.size)).trans (h.low i hi hs), fun i o ho hc hn => k.same i o (h.same i o ho hc hn) hc hn⟩
theorem KeepsN.below {B : Nat} {W W' : World} (h : Below W.heap.size W W') : KeepsN B W W' := ⟨h.size, fun k _ hs => h.block k hs, fun k o ho _ _ => (h.block k (Array.getElem?_eq_some_iff.1 ho).1).trans ho⟩
theorem KeepsN.drew {B : Nat} {W W' : World} (h : KeepsN B W W') : KeepsN B W W'.drew := ⟨h.size, h.low, h.same⟩
theorem KeepsN.slAt {W W' : World} {B sz n : Nat} {A : Option Addr} {f : Nat → Nat → Value} (h : SlAt W B sz A n f) (hk : KeepsN B W W') (hB : B ≤ W.heap.size) : SlAt W' B sz A n f :=
  fun hn => let ⟨b, off, e, hb, hc⟩ := h hn; ⟨b, off, e, hb, fun k j hk' hj => by rw [← hc k j hk' hj]; simp [World.cell?, hk.low b hb (by omega)]⟩
theorem WsIn.low {W W' : World} {s : Ws} {Ar Am Aw : Option Addr} {B : Nat} (h : WsIn W B s Ar Am Aw) (hk : KeepsN B W W') (hB : B ≤ W.heap.size) : WsIn W' B s Ar Am Aw := ⟨hk.slAt h.rooms hB, hk.slAt h.moves hB, hk.slAt h.wgs hB⟩
theorem Blk.kn {W W' : World} {B g : Nat} {t : TypeId} {cs : Array Value} (h : Blk W g t cs) (hk : KeepsN B W W') (ht : ¬ NetTy t) : Blk W' g t cs := hk.same g _ h rfl (fun ⟨_, _, _, e, h'⟩ => by cases e; exact ht h')
theorem _root_.Go.Proofs.Ythihdiilokdidaa.MpIs.kn {α β : Type} [DecidableEq α] {kV : α → Value} {vV : β → Value} {W W' : World} {b B : Nat} {F : α → Option β} (h : MpIs kV vV W b F) (hk : KeepsN B W W') (hb : b < B) (hl : b < W.heap.size) : MpIs kV vV W' b F := h.of_block (hk.low b hb hl)
structure AnyX (_ : World) where
  W : World
instance (w : World) : Nonempty (AnyX w) := ⟨⟨w⟩⟩
theorem inAny (w0 w : World) : ∃ x : AnyX w0, w = x.W := ⟨⟨w⟩, rfl⟩
structure Kx (B : Nat) (w : World) where
  W : World
  h : KeepsN B w W
instance (B : Nat) (w : World) : Nonempty (Kx B w) := ⟨⟨w, KeepsN.refl B w⟩⟩
def Kept (W : World) (b : Nat) : Prop := ∃ cs t fr, W.heap[b]? = some (.cells cs t fr) ∧ ¬ NetTy t
theorem Kx.cell? {B : Nat} {w : World} (x : Kx B w) (b o : Nat) (h : Kept w b) : x.W.cell? ⟨b, o, none⟩ = w.cell? ⟨b, o, none⟩ := by
  obtain ⟨cs, t, fr, h1, h2⟩ := h
  have := x.h.same b _ h1 rfl (fun ⟨_, _, _, e, h'⟩ => by cases e; exact h2 h')
  simp [World.cell?, this, h1]
attribute [local go_sem] Kx.cell?
theorem Blk.kept {W : World} {g : Nat} {t : TypeId} {cs : Array Value} (h : Blk W g t cs) (ht : ¬ NetTy t) : Kept W g := ⟨_, _, _, h, ht⟩
theorem inKx {B : Nat} {w w' : World} (h : KeepsN B w w') : ∃ x : Kx B w, w' = x.W := ⟨⟨w', h⟩, rfl⟩
theorem wide3 {P : Program} {f : FuncId} {args : Array Value} {w : World} {n k : Nat} {R : Ending → World → Prop} (h : Calls P f args w R) : Fence.wide.fn f ∧ (Fence.wide.depth.isSome = true → 1 ≤ n) ∧ CallsIn Fence.wide k P f args w R :=
  ⟨trivial, fun h => by simp [Fence.wide] at h, callsIn_wide.2 h⟩
def encL (w0 : Wo) (st : Sts) (b : Lb) : Array Value := #[.agg #[.int .i64 (Lb.U w0 b).1, .int .i64 (Lb.U w0 b).2, .int .i64 (Lb.V w0 b).1, .int .i64 (Lb.V w0 b).2, .int .i64 (Lb.R w0 st b).lo, .int .i64 (Lb.R w0 st b).hi]]
abbrev LbX (w0 : Wo) := { b : Lb // b ∈ labels w0 }
def labTo (D k : Nat) : List Lb := (List.range k).flatMap (roomL D)
def labIn (D k j : Nat) : List Lb := labTo D k ++ (.fst k :: (List.range j).flatMap fun d => [.stk k d, .vap k d])
theorem labIn_all (D k : Nat) : labIn D k D = labTo D (k + 1) := by
  unfold labIn labTo
  rw [List.range_succ, List.flatMap_append]
  simp [roomL]
theorem labIn_succ (D k j : Nat) : labIn D k (j + 1) = labIn D k j ++ [.stk k j, .vap k j] := by
  unfold labIn
  rw [List.range_succ, List.flatMap_append]
  simp
theorem labTo_succ (D k : Nat) : labTo D (k + 1) = labTo D k ++ roomL D k := by
  unfold labTo
  rw [List.range_succ, List.flatMap_append]
  simp
theorem labTo_le {D k : Nat} : ∀ {n : Nat}, k ≤ n → labTo D k <+: labTo D n := by
  intro n h
  induction h with
  | refl => exact List.prefix_refl _
  | step _ ih => rw [labTo_succ]; exact ih.trans (List.prefix_append _ _)
theorem labIn_le {D k j : Nat} : ∀ {n : Nat}, j ≤ n → labIn D k j <+: labIn D k n := by
  intro n h
  induction h with
  | refl => exact List.prefix_refl _
  | step _ ih => rw [labIn_succ]; exact ih.trans (List.prefix_append _ _)
theorem labTo_labels (w0 : Wo) : labTo w0.days w0.rooms.length <+: labels w0 := ⟨_, rfl⟩
theorem labIn_labels {w0 : Wo} {k j : Nat} (hk : k < w0.rooms.length) (hj : j ≤ w0.days) : labIn w0.days k j <+: labels w0 := by
  have h1 := labIn_le (D := w0.days) (k := k) hj
  rw [labIn_all] at h1
  exact (h1.trans (labTo_le hk)).trans (labTo_labels w0)
theorem pre_fst {w0 : Wo} {k : Nat} (hk : k < w0.rooms.length) : labTo w0.days k ++ [.fst k] <+: labels w0 := by
  have h := labIn_labels (j := 0) hk (Nat.zero_le _)
  simpa [labIn] using h
theorem pre_stk {w0 : Wo} {k j : Nat} (hk : k < w0.rooms.length) (hj : j < w0.days) : labIn w0.days k j ++ [.stk k j] <+: labels w0 := by
  have h := labIn_labels (j := j + 1) hk hj
  rw [labIn_succ] at h
  exact List.IsPrefix.trans ⟨[.vap k j], by simp⟩ h
theorem pre_vap {w0 : Wo} {k j : Nat} (hk : k < w0.rooms.length) (hj : j < w0.days) : (labIn w0.days k j ++ [.stk k j]) ++ [.vap k j] <+: labels w0 := by
  have h := labIn_labels (j := j + 1) hk hj
  rw [labIn_succ] at h
  simpa using h
theorem pre_mov {w0 : Wo} {i : Nat} (hi : i < w0.moves.length) : (labTo w0.days w0.rooms.length ++ (List.range i).map .mov) ++ [.mov i] <+: labels w0 := by
  have h : (List.range (i + 1)).map Lb.mov <+: (List.range w0.moves.length).map Lb.mov := by
    refine List.IsPrefix.map _ ?_
    obtain ⟨m, hm⟩ : ∃ m, w0.moves.length = (i + 1) + m := ⟨w0.moves.length - (i + 1), by omega⟩
    rw [hm, show List.range (i + 1 + m) = List.range (i + 1) ++ (List.range m).map (fun x => i + 1 + x) from List.range_add]
    exact List.prefix_append _ _
  rw [List.range_succ, List.map_append] at h
  obtain ⟨t, ht⟩ := h
  refine ⟨t, ?_⟩
  show _ = (List.range w0.rooms.length).flatMap (roomL w0.days) ++ (List.range w0.moves.length).map Lb.mov
  rw [← ht]
  simp [labTo, List.append_assoc]
theorem lb_ok {w0 : Wo} {pre : List (LbX w0)} {L : List Lb} {b : Lb} (h : pre.map (·.1) = L) (hL : L ++ [b] <+: labels w0) : pre.length < (labels w0).length ∧ b ∈ labels w0 := by
  refine ⟨?_, hL.subset (by simp)⟩
  have h1 := hL.length_le
  rw [← h, List.length_append, List.length_map] at h1
  exact h1
set_option maxRecDepth 100000 in
theorem pipes_any (s : Ws) (Ar Am Aw : Option Addr) (cr cm cw m : Nat) (w : World) :
    Calls Try.prog 108 #[.agg #[.slice Ar s.rooms.length cr, .int .i64 s.days, .slice Am s.moves.length cm, .slice Aw s.wgs.length cw, .map (some m)]] w fun e w' => e = .returned (.func (.func 125) #[] #[.pointer (some ⟨w.heap.size, 0, none⟩)]) ∧ w' = w.alloc (.cells #[.slice Ar s.rooms.length cr, .int .i64 s.days, .slice Am s.moves.length cm, .slice Aw s.wgs.length cw, .map (some m)] 153) := by
  go_enter Try.func108, Try.ntmps108
  go_wp2
  go_ret
  exact ⟨rfl, rfl⟩
set_option maxRecDepth 100000 in
set_option maxHeartbeats 6400000 in
theorem pipes1_in (n : Nat) (s : Ws) (Ar Am Aw : Option Addr) (cr cm cw m : Nat) (F : Spot → Option Rg) (st : Sts) (hw : WoOk s.wo) (hd : s.days = (s.wo.days : Int)) (hF : StAll F st s.rooms.length s.wo.days)
    (l bl : Nat) (J Jx : List (LbX s.wo) → World → Prop) (W : World) (B : Nat) (hB : B ≤ W.heap.size) (hs : WsIn W B s Ar Am Aw) (hm : StMp W m F) (hmB : m < B)
    (hJ : AbidesFrom W.heap.size J) (hJx : AbidesFrom W.heap.size Jx) (q1 : Blk W bl 153 #[.slice Ar s.rooms.length cr, .int .i64 s.days, .slice Am s.moves.length cm, .slice Aw s.wgs.length cw, .map (some m)])
    (hY : ∀ pre x W1, J pre W1 → pre.length < (labels s.wo).length → YieldAt Fence.wide (n - 1) Try.prog l (encL s.wo st x.1) W1 fun e W' =>
      (e = .returned (.bool true) ∧ J (pre ++ [x]) W' ∧ KeepsN B W1 W') ∨ (e = .returned (.bool false) ∧ Jx (pre ++ [x]) W'))
    (h0 : J [] W) :
    CallsIn Fence.wide n Try.prog 125 #[.func (.yield l) #[] #[], .pointer (some ⟨bl, 0, none⟩)] W fun e W' => (∃ v, e = .returned v) ∧
      ((∃ xs, xs.map (·.1) = labels s.wo ∧ J xs W') ∨ (∃ pre, Jx pre W')) := by
  have HDs := Lib.hid hd
  clear hd
  have y0 : W.cell? ⟨bl, 0, none⟩ = some (.slice Ar s.rooms.length cr) := q1.cell 0
  have y1 : W.cell? ⟨bl, 1, none⟩ = some (.int .i64 s.days) := q1.cell 1
  have y2 : W.cell? ⟨bl, 2, none⟩ = some (.slice Am s.moves.length cm) := q1.cell 2
  have y3 : W.cell? ⟨bl, 3, none⟩ = some (.slice Aw s.wgs.length cw) := q1.cell 3
  have y4 : W.cell? ⟨bl, 4, none⟩ = some (.map (some m)) := q1.cell 4
  have ly := q1.lt
  have ky := q1.kept (by unfold NetTy; decide)
  refine callsIn_of_wp Try.func125 rfl trivial ?_ rfl
  simp only [Try.ntmps125, List.size_toArray, List.length_cons, List.length_nil, Nat.reduceAdd, Nat.reduceSub, Array.replicate_succ, Array.replicate_zero, List.push_toArray, List.append_toArray, List.nil_append, List.cons_append]
  gi_wp2_with fail
  refine wpIn_loop (fun a V => Rel (fun a V => ∃ k : Nat, k ≤ s.rooms.length ∧ KeepsN B W V ∧ (∃ pre : List (LbX s.wo), pre.map (·.1) = labTo s.wo.days k ∧ J pre V) ∧ ∃ u : Nat → Value, a = ⟨List.toArray (.func (.yield l) #[] #[] :: .pointer (some ⟨bl, 0, none⟩) :: u 2 :: u 3 :: u 4 :: u 5 :: u 6 :: u 7 :: u 8 :: u 9 :: u 10 :: u 11 :: .slice Ar s.rooms.length cr :: .int .i64 (s.rooms.length : Int) :: .int .i64 (k : Int) :: u 15 :: u 16 :: u 17 :: u 18 :: u 19 :: u 20 :: u 21 :: u 22 :: u 23 :: u 24 :: u 25 :: u 26 :: u 27 :: u 28 :: u 29 :: u 30 :: u 31 :: u 32 :: u 33 :: u 34 :: u 35 :: u 36 :: u 37 :: u 38 :: u 39 :: u 40 :: u 41 :: u 42 :: u 43 :: u 44 :: u 45 :: u 46 :: u 47 :: u 48 :: u 49 :: u 50 :: u 51 :: u 52 :: u 53 :: u 54 :: u 55 :: u 56 :: u 57 :: u 58 :: u 59 :: u 60 :: u 61 :: u 62 :: u 63 :: u 64 :: u 65 :: u 66 :: u 67 :: u 68 :: u 69 :: u 70 :: u 71 :: u 72 :: u 73 :: u 74 :: u 75 :: u 76 :: u 77 :: u 78 :: u 79 :: u 80 :: u 81 :: u 82 :: u 83 :: u 84 :: u 85 :: u 86 :: u 87 :: u 88 :: u 89 :: u 90 :: u 91 :: u 92 :: u 93 :: u 94 :: []), []⟩) a V) (fun a _ => s.rooms.length - (intOf (a.tmps.getD 14 undef)).toNat) ⟨⟨0, by omega, .refl _ _, ⟨[], rfl, h0⟩, exFrame (by kernel_rfl)⟩⟩ ?_
  rintro a V ⟨⟨k, hk, hkc, ⟨pre, hpre, hJp⟩, u, rfl⟩⟩
  have q00 := q1
  replace q1 := q1.kn hkc (by unfold NetTy; decide)
  clear y0 y1 y2 y3 y4 ly ky
  have y0 : V.cell? ⟨bl, 0, none⟩ = some (.slice Ar s.rooms.length cr) := q1.cell 0
  have y1 : V.cell? ⟨bl, 1, none⟩ = some (.int .i64 s.days) := q1.cell 1
  have y2 : V.cell? ⟨bl, 2, none⟩ = some (.slice Am s.moves.length cm) := q1.cell 2
  have y3 : V.cell? ⟨bl, 3, none⟩ = some (.slice Aw s.wgs.length cw) := q1.cell 3
  have y4 : V.cell? ⟨bl, 4, none⟩ = some (.map (some m)) := q1.cell 4
  have ly := q1.lt
  have ky := q1.kept (by unfold NetTy; decide)
  have hsz := hkc.size
  by_cases hlt : k < s.rooms.length
  · have hl3 : s.rooms.length ≤ 3 := hw.len.2.1
    have hk3 : (k : Int) + 1 ≤ 3 := by omega
    obtain ⟨bi, oi, rfl, hbi, g0, g1, g2, g3⟩ := IsRms.at_ (hs.low hkc hB).rooms hlt
    have hbw : bi < V.heap.size := by omega
    have HP := Lib.hid hpre
    clear hpre
    have hX := ex_alloc (Below.refl V.heap.size V) (.cells #[.int .i64 (gRm s.rooms k).fst.lo, .int .i64 (gRm s.rooms k).fst.hi, .int .i64 (gRm s.rooms k).vap.lo, .int .i64 (gRm s.rooms k).vap.hi] 126)
    have qr : Blk (V.alloc (.cells #[.int .i64 (gRm s.rooms k).fst.lo, .int .i64 (gRm s.rooms k).fst.hi, .int .i64 (gRm s.rooms k).vap.lo, .int .i64 (gRm s.rooms k).vap.hi] 126)) V.heap.size 126 #[.int .i64 (gRm s.rooms k).fst.lo, .int .i64 (gRm s.rooms k).fst.hi, .int .i64 (gRm s.rooms k).vap.lo, .int .i64 (gRm s.rooms k).vap.hi] := Blk.new _ _ _
    have q2 := q1.below hX q1.lt
    gi_wp2_with fail
    have kr := qr.kept (by unfold NetTy; decide)
    generalize V.alloc (.cells #[.int .i64 (gRm s.rooms k).fst.lo, .int .i64 (gRm s.rooms k).fst.hi, .int .i64 (gRm s.rooms k).vap.lo, .int .i64 (gRm s.rooms k).vap.hi] 126) = V2 at *
    obtain ⟨pr, hpr⟩ : ∃ p, V.heap.size = p := ⟨_, rfl⟩
    rw [hpr] at qr kr ⊢
    have r0 : V2.cell? ⟨pr, 0, none⟩ = some (.int .i64 (gRm s.rooms k).fst.lo) := qr.cell 0
    have r1 : V2.cell? ⟨pr, 1, none⟩ = some (.int .i64 (gRm s.rooms k).fst.hi) := qr.cell 1
    have r2 : V2.cell? ⟨pr, 2, none⟩ = some (.int .i64 (gRm s.rooms k).vap.lo) := qr.cell 2
    have r3 : V2.cell? ⟨pr, 3, none⟩ = some (.int .i64 (gRm s.rooms k).vap.hi) := qr.cell 3
    have lr := qr.lt
    refine wpIn_region_mixI (fun w' => ∃ x : Kx B V2, w' = x.W) [7] [(false, 0), (false, 2), (false, 4), (false, 5), (true, 1), (true, 3), (false, 6), (true, 7), (false, 8)] (by kernel_rfl) (by kernel_rfl) (by intro d _ _ _ _ h; cases d <;> exact h) (inKx (KeepsN.refl B V2).drew) ?_
    have D2 := (Below.refl V2.heap.size V2).drew
    repeat (refine mixI_quiet rfl ?_; go_big_quiet_step (fail); refine wpQuiet_nil ?_)
    have bJ := ex_trans hX D2
    have kD := KeepsN.below (B := B) D2
    refine mixI_loud rfl ?_
    gi_wp2_with fail
    refine wide3 ((outside_any V2.drew).mono ?_)
    rintro e Z1 ⟨rfl, hZ1⟩
    have bZ1 := ex_trans bJ hZ1
    have kZ1 := kD.trans (KeepsN.below (B := B) hZ1)
    gi_wp2_with fail
    refine ⟨inKx kZ1, ?_⟩
    repeat (refine mixI_quiet rfl ?_; go_big_quiet_step (fail); refine wpQuiet_nil ?_)
    refine mixI_loud rfl ?_
    gi_wp2_with fail
    refine wide3 ((at_any (k : Int) 0 Z1).mono ?_)
    rintro e Z2 ⟨rfl, hZ2⟩
    have bZ2 := ex_trans bZ1 hZ2
    have kZ2 := kZ1.trans (KeepsN.below (B := B) hZ2)
    rw [show cSp (atS (k : Int) 0) = .agg #[.int .i64 (k : Int), .int .i64 0] from by unfold atS; rw [if_neg (by omega)]; rfl]
    gi_wp2_with fail
    refine ⟨inKx kZ2, ?_⟩
    repeat (refine mixI_quiet rfl ?_; go_big_quiet_step (fail); refine wpQuiet_nil ?_)
    have hlm := lb_ok (b := Lb.fst k) HP.out (pre_fst hlt)
    have hlen := hlm.1
    have hmem := hlm.2
    clear hlm
    have hJ1 := AbidesFrom.below hJ hJp bZ2
    obtain ⟨fn, tmps, assign, body, hy, hR⟩ := hY pre ⟨_, hmem⟩ _ hJ1 hlen
    have hy' : (Instr.yield l #[.agg #[.int .i64 (-1), .int .i64 0, .int .i64 (k : Int), .int .i64 0, .int .i64 (gRm s.rooms k).fst.lo, .int .i64 (gRm s.rooms k).fst.hi]]).run Try.prog Z2 = .ok (.round l fn tmps assign body) Z2 := hy
    clear hy hlen
    refine mixI_loud rfl ?_
    gi_wp2_with fail
    refine ⟨fun h => by simp [Fence.wide] at h, ?_⟩
    refine hR.mono ?_
    rintro e W' (⟨rfl, hJ', hk'⟩ | ⟨rfl, hJx'⟩)
    clear hR hy'
    · obtain ⟨pre2, hp2⟩ : ∃ p, pre ++ [⟨_, hmem⟩] = p := ⟨_, rfl⟩
      rw [hp2] at hJ'
      have HP2 : Hid (pre2.map (·.1) = labTo s.wo.days k ++ [Lb.fst k]) := Lib.hid (by rw [← hp2, List.map_append, HP.out]; rfl)
      clear hp2 HP hmem hJ1
      have HP := HP2
      clear HP2
      have hK' := kZ2.trans hk'
      gi_wp2_with fail
      refine ⟨fun w' => ∃ x : Kx B V2, w' = x.W, inKx hK', ?_⟩
      repeat (refine mixI_quiet rfl ?_; go_big_quiet_step (fail); refine wpQuiet_nil ?_)
      have q0' := q2
      have qr' := qr.kn hK' (by unfold NetTy; decide)
      clear y0 y1 y2 y3 y4 ly ky lr
      replace q1 := q2.kn hK' (by unfold NetTy; decide)
      have hkW := hkc.trans (KeepsN.below (B := B) hX)
      clear hkc
      have y0 : W'.cell? ⟨bl, 0, none⟩ = some (.slice (some ⟨bi, oi, none⟩) s.rooms.length cr) := q1.cell 0
      have y1 : W'.cell? ⟨bl, 1, none⟩ = some (.int .i64 s.days) := q1.cell 1
      have y2 : W'.cell? ⟨bl, 2, none⟩ = some (.slice Am s.moves.length cm) := q1.cell 2
      have y3 : W'.cell? ⟨bl, 3, none⟩ = some (.slice Aw s.wgs.length cw) := q1.cell 3
      have y4 : W'.cell? ⟨bl, 4, none⟩ = some (.map (some m)) := q1.cell 4
      have ly := q1.lt
      have ky := q1.kept (by unfold NetTy; decide)
      refine mixI_nil ?_
      gi_wp2_with fail
      refine wpIn_loop (fun a V => Rel (fun a V => ∃ j : Nat, j ≤ s.wo.days ∧ KeepsN B V2 V ∧ (∃ pre : List (LbX s.wo), pre.map (·.1) = labIn s.wo.days k j ∧ J pre V) ∧ ∃ u : Nat → Value, a = ⟨List.toArray (.func (.yield l) #[] #[] :: .pointer (some ⟨bl, 0, none⟩) :: u 2 :: .int .i64 (k : Int) :: .pointer (some ⟨pr, 0, none⟩) :: u 5 :: u 6 :: u 7 :: u 8 :: u 9 :: u 10 :: u 11 :: .slice (some ⟨bi, oi, none⟩) s.rooms.length cr :: .int .i64 (s.rooms.length : Int) :: .int .i64 (k : Int) :: u 15 :: u 16 :: u 17 :: u 18 :: u 19 :: u 20 :: u 21 :: u 22 :: u 23 :: u 24 :: u 25 :: u 26 :: u 27 :: u 28 :: u 29 :: .int .i64 s.days :: .int .i64 (j : Int) :: u 32 :: u 33 :: u 34 :: u 35 :: u 36 :: u 37 :: u 38 :: u 39 :: u 40 :: u 41 :: u 42 :: u 43 :: u 44 :: u 45 :: u 46 :: u 47 :: u 48 :: u 49 :: u 50 :: u 51 :: u 52 :: u 53 :: u 54 :: u 55 :: u 56 :: u 57 :: u 58 :: u 59 :: u 60 :: u 61 :: u 62 :: u 63 :: u 64 :: u 65 :: u 66 :: u 67 :: u 68 :: u 69 :: u 70 :: u 71 :: u 72 :: u 73 :: u 74 :: u 75 :: u 76 :: u 77 :: u 78 :: u 79 :: u 80 :: u 81 :: u 82 :: u 83 :: u 84 :: u 85 :: u 86 :: u 87 :: u 88 :: u 89 :: u 90 :: u 91 :: u 92 :: u 93 :: u 94 :: []), []⟩) a V) (fun a _ => s.wo.days - (intOf (a.tmps.getD 31 undef)).toNat) ⟨⟨0, by omega, hK', ⟨pre2, by rw [HP.out]; simp [labIn], hJ'⟩, exFrame (by kernel_rfl)⟩⟩ ?_
      clear hK' HP hJ' y0 y1 y2 y3 y4 ly ky q1 qr' pre2 r0 r1 r2 r3 hJp
      rintro a V3 ⟨⟨j, hj, hkj, ⟨pre, hpre, hJp⟩, u, rfl⟩⟩
      have q1 := q0'.kn hkj (by unfold NetTy; decide)
      have qr3 := qr.kn hkj (by unfold NetTy; decide)
      have sz3 := hkj.size
      have HP := Lib.hid hpre
      clear hpre
      have y0 : V3.cell? ⟨bl, 0, none⟩ = some (.slice (some ⟨bi, oi, none⟩) s.rooms.length cr) := q1.cell 0
      have y1 : V3.cell? ⟨bl, 1, none⟩ = some (.int .i64 s.days) := q1.cell 1
      have y2 : V3.cell? ⟨bl, 2, none⟩ = some (.slice Am s.moves.length cm) := q1.cell 2
      have y3 : V3.cell? ⟨bl, 3, none⟩ = some (.slice Aw s.wgs.length cw) := q1.cell 3
      have y4 : V3.cell? ⟨bl, 4, none⟩ = some (.map (some m)) := q1.cell 4
      have ly := q1.lt
      have ky := q1.kept (by unfold NetTy; decide)
      by_cases hlj : j < s.wo.days
      · have hj0 : (j : Int) < s.days := by have := HDs.out; omega
        have hj1 : s.days ≤ 6 := by have := HDs.out; have := hw.days; omega
        have hj2 : (j : Int) + 1 ≤ 6 := by omega
        gi_wp2_with fail
        refine wide3 ((at_any (k : Int) (j : Int) V3).mono ?_)
        rintro e Y1 ⟨rfl, hY1⟩
        rw [show cSp (atS (k : Int) (j : Int)) = .agg #[.int .i64 (k : Int), .int .i64 (j : Int)] from by unfold atS; rw [if_neg (by omega)]; rfl]
        gi_wp2_with fail
        refine wide3 ((at_any (k : Int) ((j : Int) + 1) Y1).mono ?_)
        rintro e Y2 ⟨rfl, hY2⟩
        rw [show cSp (atS (k : Int) ((j : Int) + 1)) = .agg #[.int .i64 (k : Int), .int .i64 ((j : Int) + 1)] from by unfold atS; rw [if_neg (by omega)]; rfl]
        have bY := ex_trans hY1 hY2
        have bG := ex_alloc (ex_alloc bY (.cells #[.int .i64 (k : Int), .int .i64 (j : Int)] 169)) (.cells #[.int .i64 (k : Int), .int .i64 ((j : Int) + 1)] 169)
        have g6 : Blk ((Y2.alloc (.cells #[.int .i64 (k : Int), .int .i64 (j : Int)] 169)).alloc (.cells #[.int .i64 (k : Int), .int .i64 ((j : Int) + 1)] 169)) Y2.heap.size 169 #[.int .i64 (k : Int), .int .i64 (j : Int)] := (Blk.new Y2 _ _).below (ex_alloc (Below.refl _ _) _) (by rw [World.size_alloc]; omega)
        have g7 : Blk ((Y2.alloc (.cells #[.int .i64 (k : Int), .int .i64 (j : Int)] 169)).alloc (.cells #[.int .i64 (k : Int), .int .i64 ((j : Int) + 1)] 169)) (Y2.heap.size + 1) 169 #[.int .i64 (k : Int), .int .i64 ((j : Int) + 1)] := by have := Blk.new (Y2.alloc (.cells #[.int .i64 (k : Int), .int .i64 (j : Int)] 169)) 169 #[.int .i64 (k : Int), .int .i64 ((j : Int) + 1)]; rwa [World.size_alloc] at this
        have g1 := q1.below bG ly
        have gr := qr3.below bG qr3.lt
        have hsY := bY.size
        obtain ⟨p6, hp6⟩ : ∃ p, Y2.heap.size = p := ⟨_, rfl⟩
        obtain ⟨G, hG⟩ : ∃ g, (Y2.alloc (.cells #[.int .i64 (k : Int), .int .i64 (j : Int)] 169)).alloc (.cells #[.int .i64 (k : Int), .int .i64 ((j : Int) + 1)] 169) = g := ⟨_, rfl⟩
        rw [hG] at bG g6 g7 g1 gr
        rw [hp6] at g6 g7
        clear y0 y1 y2 y3 y4 ly ky
        have y0 : G.cell? ⟨bl, 0, none⟩ = some (.slice (some ⟨bi, oi, none⟩) s.rooms.length cr) := g1.cell 0
        have y1 : G.cell? ⟨bl, 1, none⟩ = some (.int .i64 s.days) := g1.cell 1
        have y2 : G.cell? ⟨bl, 2, none⟩ = some (.slice Am s.moves.length cm) := g1.cell 2
        have y3 : G.cell? ⟨bl, 3, none⟩ = some (.slice Aw s.wgs.length cw) := g1.cell 3
        have y4 : G.cell? ⟨bl, 4, none⟩ = some (.map (some m)) := g1.cell 4
        by_cases hla : (j : Int) + 1 = s.days
        · have hla1 : ((j : Int) == s.days - 1) = true := by rw [beq_iff_eq]; omega
          have HU := Lib.hid (show Lb.V s.wo (.stk k j) = outS from if_pos (by have := HDs.out; omega))
          clear hla
          gi_wp2_with fail
          refine wide3 ((outside_any G).mono ?_)
          rintro e Y3 ⟨rfl, hY3⟩
          have s7 := g7.below hY3 g7.lt
          have s6 := g6.below hY3 g6.lt
          have s1 := g1.below hY3 g1.lt
          have sr := gr.below hY3 gr.lt
          have bS := ex_trans bG hY3
          have z7 := s7.lt
          have e0 : Y3.cell? ⟨p6 + 1, 0, none⟩ = some (.int .i64 (k : Int)) := s7.cell 0
          have e1 : Y3.cell? ⟨p6 + 1, 1, none⟩ = some (.int .i64 ((j : Int) + 1)) := s7.cell 1
          have e2 := s7.frozen0
          have t7 := (s7.set_ 0 (.int .i64 (-1))).set_ 1 (.int .i64 0)
          simp only [List.setIfInBounds_toArray, List.set_cons_zero, List.set_cons_succ] at t7
          have hFr : Fr (fun b => b = p6 + 1) Y3 _ := (Fr.set (R := fun b => b = p6 + 1) Y3 (p6 + 1) 0 (.int .i64 (-1)) rfl).andSet (b := p6 + 1) (i := 1) (v := .int .i64 0) rfl
          have bT := hFr.toBelow bS (by omega) (fun x hx => by omega)
          have t6 := s6.fr hFr (by omega)
          have t1 := s1.fr hFr (by have := q1.lt; omega)
          have tr := sr.fr hFr (by have := qr3.lt; omega)
          gi_wp2_with fail
          obtain ⟨G2, hG2⟩ : ∃ g, (Y3.setCell ⟨p6 + 1, 0, none⟩ (.int .i64 (-1))).setCell ⟨p6 + 1, 1, none⟩ (.int .i64 0) = g := ⟨_, rfl⟩
          rw [hG2] at t7 t6 t1 tr bT ⊢
          clear hla1 hG hG2
          have kt1 := t1.kept (by unfold NetTy; decide)
          have kt6 := t6.kept (by unfold NetTy; decide)
          have kt7 := t7.kept (by unfold NetTy; decide)
          have ktr := tr.kept (by unfold NetTy; decide)
          clear y0 y1 y2 y3 y4
          have y4 : G2.cell? ⟨bl, 4, none⟩ = some (.map (some m)) := t1.cell 4
          have w60 : G2.cell? ⟨p6, 0, none⟩ = some (.int .i64 (k : Int)) := t6.cell 0
          have w61 : G2.cell? ⟨p6, 1, none⟩ = some (.int .i64 (j : Int)) := t6.cell 1
          have w70 : G2.cell? ⟨p6 + 1, 0, none⟩ = some (.int .i64 (-1)) := t7.cell 0
          have w71 : G2.cell? ⟨p6 + 1, 1, none⟩ = some (.int .i64 0) := t7.cell 1
          have wr2 : G2.cell? ⟨pr, 2, none⟩ = some (.int .i64 (gRm s.rooms k).vap.lo) := tr.cell 2
          have wr3 : G2.cell? ⟨pr, 3, none⟩ = some (.int .i64 (gRm s.rooms k).vap.hi) := tr.cell 3
          have l1 := t1.lt
          have l6 := t6.lt
          have l7 := t7.lt
          have lr := tr.lt
          have kW := (hkW.trans hkj).trans (KeepsN.below (B := B) bT)
          have hlk : ∀ x : Kx B G2, (Instr.lookup 151 (.map (some m)) (.agg #[.int .i64 (k : Int), .int .i64 (j : Int)]) false).run Try.prog x.W = .ok (.agg #[.int .i64 (st k j).lo, .int .i64 (st k j).hi]) x.W := fun x => MpIs.at_ (et := 50) Try.underlying151 cSp_fd (hm.kn (kW.trans x.h) hmB hm.lt) ((k : Int), (j : Int)) (hF k j hlt hlj)
          refine wpIn_region_mixI (fun w' => ∃ x : Kx B G2, w' = x.W) [8, 17] [(false, 0), (false, 1), (false, 2), (false, 3), (false, 4), (false, 5), (false, 6), (false, 7), (true, 8), (false, 9), (false, 10), (false, 11), (false, 12), (false, 14), (false, 15), (true, 13), (false, 16), (true, 17), (false, 18), (false, 19)] (by kernel_rfl) (by kernel_rfl) (by intro d _ _ _ _ h; cases d <;> exact h) (inKx (KeepsN.refl B G2).drew) ?_
          have D2 := (Below.refl G2.heap.size G2).drew
          repeat (refine mixI_quiet rfl ?_; go_big_quiet_step (fail); refine wpQuiet_nil ?_)
          have bJ := ex_trans bT D2
          have kD := KeepsN.below (B := B) D2
          have hlm := lb_ok (b := Lb.stk k j) HP.out (pre_stk hlt hlj)
          have hlen := hlm.1
          have hmem := hlm.2
          clear hlm
          have hJ1 := AbidesFrom.below hJ hJp bJ
          obtain ⟨fn, tmps, assign, body, hy, hR⟩ := hY pre ⟨_, hmem⟩ _ hJ1 hlen
          have hy' : (Instr.yield l #[.agg #[.int .i64 (k : Int), .int .i64 (j : Int), .int .i64 (-1), .int .i64 0, .int .i64 (st k j).lo, .int .i64 (st k j).hi]]).run Try.prog G2.drew = .ok (.round l fn tmps assign body) G2.drew := by have := hy; unfold encL at this; rw [HU.out] at this; exact this
          clear hy hlen
          refine mixI_loud rfl ?_
          gi_wp2_with fail
          refine ⟨fun h => by simp [Fence.wide] at h, ?_⟩
          refine hR.mono ?_
          rintro e W' (⟨rfl, hJ', hk'⟩ | ⟨rfl, hJx'⟩)
          clear hR hy'
          · obtain ⟨pre2, hp2⟩ : ∃ p, pre ++ [⟨_, hmem⟩] = p := ⟨_, rfl⟩
            rw [hp2] at hJ'
            have HP2 : Hid (pre2.map (·.1) = labIn s.wo.days k j ++ [Lb.stk k j]) := Lib.hid (by rw [← hp2, List.map_append, HP.out]; rfl)
            clear hp2 HP hmem hJ1
            have HP := HP2
            clear HP2
            have hK' := kD.trans hk'
            gi_wp2_with fail
            refine ⟨fun w' => ∃ x : Kx B G2, w' = x.W, inKx hK', ?_⟩
            repeat (refine mixI_quiet rfl ?_; go_big_quiet_step (fail); refine wpQuiet_nil ?_)
            have bN := Below.refl W'.heap.size W'
            refine mixI_loud rfl ?_
            gi_wp2_with fail
            refine wide3 ((outside_any W').mono ?_)
            rintro e Z3 ⟨rfl, hZ3⟩
            have bZ3 := ex_trans bN hZ3
            have kZ3 := hK'.trans (KeepsN.below (B := B) hZ3)
            gi_wp2_with fail
            refine ⟨inKx kZ3, ?_⟩
            repeat (refine mixI_quiet rfl ?_; go_big_quiet_step (fail); refine wpQuiet_nil ?_)
            have hlm := lb_ok (b := Lb.vap k j) HP.out (pre_vap hlt hlj)
            have hlen := hlm.1
            have hmem := hlm.2
            clear hlm
            have hJ1 := AbidesFrom.below hJ hJ' bZ3
            obtain ⟨fn, tmps, assign, body, hy, hR⟩ := hY pre2 ⟨_, hmem⟩ _ hJ1 hlen
            have hy' : (Instr.yield l #[.agg #[.int .i64 (k : Int), .int .i64 (j : Int), .int .i64 (-1), .int .i64 0, .int .i64 (gRm s.rooms k).vap.lo, .int .i64 (gRm s.rooms k).vap.hi]]).run Try.prog Z3 = .ok (.round l fn tmps assign body) Z3 := hy
            clear hy hlen
            refine mixI_loud rfl ?_
            gi_wp2_with fail
            refine ⟨fun h => by simp [Fence.wide] at h, ?_⟩
            refine hR.mono ?_
            rintro e W'a (⟨rfl, hJ', hk'⟩ | ⟨rfl, hJx'⟩)
            clear hR hy'
            · obtain ⟨pre3, hp2⟩ : ∃ p, pre2 ++ [⟨_, hmem⟩] = p := ⟨_, rfl⟩
              rw [hp2] at hJ'
              have HP2 : Hid (pre3.map (·.1) = (labIn s.wo.days k j ++ [Lb.stk k j]) ++ [Lb.vap k j]) := Lib.hid (by rw [← hp2, List.map_append, HP.out]; rfl)
              clear hp2 HP hmem hJ1
              have HP := HP2
              clear HP2
              have hK'a := kZ3.trans hk'
              gi_wp2_with fail
              refine ⟨fun w' => ∃ x : Kx B G2, w' = x.W, inKx hK'a, ?_⟩
              repeat (refine mixI_quiet rfl ?_; go_big_quiet_step (fail); refine wpQuiet_nil ?_)
              refine mixI_nil ?_
              gi_wp2_with fail
              refine ⟨⟨⟨j + 1, by omega, (hkj.trans (KeepsN.below (B := B) bT)).trans hK'a, ⟨pre3, by rw [HP.out, labIn_succ]; simp, hJ'⟩, exFrame (by kernel_rfl)⟩⟩, ?_⟩
              show s.wo.days - (intOf (.int .i64 ((j : Int) + 1))).toNat < s.wo.days - (intOf (.int .i64 (j : Int))).toNat
              simp [intOf]
              omega
            · gi_wp2_with fail
              refine ⟨fun w' => ∃ x : AnyX W, w' = x.W, inAny _ _, ?_⟩
              repeat (refine mixI_quiet rfl ?_; go_big_quiet_step (fail); refine wpQuiet_nil ?_)
              refine mixI_nil ?_
              gi_wp2_with fail
              refine bodyPost_ret (results_none rfl _ _ _) rfl ?_
              exact ⟨⟨_, rfl⟩, .inr ⟨_, hJx'⟩⟩
          · gi_wp2_with fail
            refine ⟨fun w' => ∃ x : AnyX W, w' = x.W, inAny _ _, ?_⟩
            repeat (refine mixI_quiet rfl ?_; go_big_quiet_step (fail); refine wpQuiet_nil ?_)
            refine mixI_loud rfl ?_
            gi_wp2_with fail
            refine ⟨trivial, ?_⟩
            gi_wp2_with fail
            refine ⟨inAny _ _, ?_⟩
            repeat (refine mixI_quiet rfl ?_; go_big_quiet_step (fail); refine wpQuiet_nil ?_)
            refine mixI_loud rfl ?_
            gi_wp2_with fail
            refine ⟨fun _ _ => trivial, ?_⟩
            gi_wp2_with fail
            refine ⟨fun w' => ∃ x : AnyX W, w' = x.W, inAny _ _, ?_⟩
            repeat (refine mixI_quiet rfl ?_; go_big_quiet_step (fail); refine wpQuiet_nil ?_)
            refine mixI_nil ?_
            gi_wp2_with fail
            refine bodyPost_ret (results_none rfl _ _ _) rfl ?_
            exact ⟨⟨_, rfl⟩, .inr ⟨_, hJx'⟩⟩
        · have hla1 : ((j : Int) == s.days - 1) = false := by rw [beq_eq_false_iff_ne]; omega
          have HU := Lib.hid (show Lb.V s.wo (.stk k j) = ((k : Int), (j : Int) + 1) from if_neg (by have := HDs.out; omega))
          clear hla
          gi_wp2_with fail
          clear hla1 hG
          have kt1 := g1.kept (by unfold NetTy; decide)
          have kt6 := g6.kept (by unfold NetTy; decide)
          have kt7 := g7.kept (by unfold NetTy; decide)
          have ktr := gr.kept (by unfold NetTy; decide)
          clear y0 y1 y2 y3 y4
          have y4 : G.cell? ⟨bl, 4, none⟩ = some (.map (some m)) := g1.cell 4
          have w60 : G.cell? ⟨p6, 0, none⟩ = some (.int .i64 (k : Int)) := g6.cell 0
          have w61 : G.cell? ⟨p6, 1, none⟩ = some (.int .i64 (j : Int)) := g6.cell 1
          have w70 : G.cell? ⟨p6 + 1, 0, none⟩ = some (.int .i64 (k : Int)) := g7.cell 0
          have w71 : G.cell? ⟨p6 + 1, 1, none⟩ = some (.int .i64 ((j : Int) + 1)) := g7.cell 1
          have wr2 : G.cell? ⟨pr, 2, none⟩ = some (.int .i64 (gRm s.rooms k).vap.lo) := gr.cell 2
          have wr3 : G.cell? ⟨pr, 3, none⟩ = some (.int .i64 (gRm s.rooms k).vap.hi) := gr.cell 3
          have l1 := g1.lt
          have l6 := g6.lt
          have l7 := g7.lt
          have lr := gr.lt
          have kW := (hkW.trans hkj).trans (KeepsN.below (B := B) bG)
          have hlk : ∀ x : Kx B G, (Instr.lookup 151 (.map (some m)) (.agg #[.int .i64 (k : Int), .int .i64 (j : Int)]) false).run Try.prog x.W = .ok (.agg #[.int .i64 (st k j).lo, .int .i64 (st k j).hi]) x.W := fun x => MpIs.at_ (et := 50) Try.underlying151 cSp_fd (hm.kn (kW.trans x.h) hmB hm.lt) ((k : Int), (j : Int)) (hF k j hlt hlj)
          refine wpIn_region_mixI (fun w' => ∃ x : Kx B G, w' = x.W) [8, 17] [(false, 0), (false, 1), (false, 2), (false, 3), (false, 4), (false, 5), (false, 6), (false, 7), (true, 8), (false, 9), (false, 10), (false, 11), (false, 12), (false, 14), (false, 15), (true, 13), (false, 16), (true, 17), (false, 18), (false, 19)] (by kernel_rfl) (by kernel_rfl) (by intro d _ _ _ _ h; cases d <;> exact h) (inKx (KeepsN.refl B G).drew) ?_
          have D2 := (Below.refl G.heap.size G).drew
          repeat (refine mixI_quiet rfl ?_; go_big_quiet_step (fail); refine wpQuiet_nil ?_)
          have bJ := ex_trans bG D2
          have kD := KeepsN.below (B := B) D2
          have hlm := lb_ok (b := Lb.stk k j) HP.out (pre_stk hlt hlj)
          have hlen := hlm.1
          have hmem := hlm.2
          clear hlm
          have hJ1 := AbidesFrom.below hJ hJp bJ
          obtain ⟨fn, tmps, assign, body, hy, hR⟩ := hY pre ⟨_, hmem⟩ _ hJ1 hlen
          have hy' : (Instr.yield l #[.agg #[.int .i64 (k : Int), .int .i64 (j : Int), .int .i64 (k : Int), .int .i64 ((j : Int) + 1), .int .i64 (st k j).lo, .int .i64 (st k j).hi]]).run Try.prog G.drew = .ok (.round l fn tmps assign body) G.drew := by have := hy; unfold encL at this; rw [HU.out] at this; exact this
          clear hy hlen
          refine mixI_loud rfl ?_
          gi_wp2_with fail
          refine ⟨fun h => by simp [Fence.wide] at h, ?_⟩
          refine hR.mono ?_
          rintro e W' (⟨rfl, hJ', hk'⟩ | ⟨rfl, hJx'⟩)
          clear hR hy'
          · obtain ⟨pre2, hp2⟩ : ∃ p, pre ++ [⟨_, hmem⟩] = p := ⟨_, rfl⟩
            rw [hp2] at hJ'
            have HP2 : Hid (pre2.map (·.1) = labIn s.wo.days k j ++ [Lb.stk k j]) := Lib.hid (by rw [← hp2, List.map_append, HP.out]; rfl)
            clear hp2 HP hmem hJ1
            have HP := HP2
            clear HP2
            have hK' := kD.trans hk'
            gi_wp2_with fail
            refine ⟨fun w' => ∃ x : Kx B G, w' = x.W, inKx hK', ?_⟩
            repeat (refine mixI_quiet rfl ?_; go_big_quiet_step (fail); refine wpQuiet_nil ?_)
            have bN := Below.refl W'.heap.size W'
            refine mixI_loud rfl ?_
            gi_wp2_with fail
            refine wide3 ((outside_any W').mono ?_)
            rintro e Z4 ⟨rfl, hZ4⟩
            have bZ4 := ex_trans bN hZ4
            have kZ4 := hK'.trans (KeepsN.below (B := B) hZ4)
            gi_wp2_with fail
            refine ⟨inKx kZ4, ?_⟩
            repeat (refine mixI_quiet rfl ?_; go_big_quiet_step (fail); refine wpQuiet_nil ?_)
            have hlm := lb_ok (b := Lb.vap k j) HP.out (pre_vap hlt hlj)
            have hlen := hlm.1
            have hmem := hlm.2
            clear hlm
            have hJ1 := AbidesFrom.below hJ hJ' bZ4
            obtain ⟨fn, tmps, assign, body, hy, hR⟩ := hY pre2 ⟨_, hmem⟩ _ hJ1 hlen
            have hy' : (Instr.yield l #[.agg #[.int .i64 (k : Int), .int .i64 (j : Int), .int .i64 (-1), .int .i64 0, .int .i64 (gRm s.rooms k).vap.lo, .int .i64 (gRm s.rooms k).vap.hi]]).run Try.prog Z4 = .ok (.round l fn tmps assign body) Z4 := hy
            clear hy hlen
            refine mixI_loud rfl ?_
            gi_wp2_with fail
            refine ⟨fun h => by simp [Fence.wide] at h, ?_⟩
            refine hR.mono ?_
            rintro e W'a (⟨rfl, hJ', hk'⟩ | ⟨rfl, hJx'⟩)
            clear hR hy'
            · obtain ⟨pre3, hp2⟩ : ∃ p, pre2 ++ [⟨_, hmem⟩] = p := ⟨_, rfl⟩
              rw [hp2] at hJ'
              have HP2 : Hid (pre3.map (·.1) = (labIn s.wo.days k j ++ [Lb.stk k j]) ++ [Lb.vap k j]) := Lib.hid (by rw [← hp2, List.map_append, HP.out]; rfl)
              clear hp2 HP hmem hJ1
              have HP := HP2
              clear HP2
              have hK'a := kZ4.trans hk'
              gi_wp2_with fail
              refine ⟨fun w' => ∃ x : Kx B G, w' = x.W, inKx hK'a, ?_⟩
              repeat (refine mixI_quiet rfl ?_; go_big_quiet_step (fail); refine wpQuiet_nil ?_)
              refine mixI_nil ?_
              gi_wp2_with fail
              refine ⟨⟨⟨j + 1, by omega, (hkj.trans (KeepsN.below (B := B) bG)).trans hK'a, ⟨pre3, by rw [HP.out, labIn_succ]; simp, hJ'⟩, exFrame (by kernel_rfl)⟩⟩, ?_⟩
              show s.wo.days - (intOf (.int .i64 ((j : Int) + 1))).toNat < s.wo.days - (intOf (.int .i64 (j : Int))).toNat
              simp [intOf]
              omega
            · gi_wp2_with fail
              refine ⟨fun w' => ∃ x : AnyX W, w' = x.W, inAny _ _, ?_⟩
              repeat (refine mixI_quiet rfl ?_; go_big_quiet_step (fail); refine wpQuiet_nil ?_)
              refine mixI_nil ?_
              gi_wp2_with fail
              refine bodyPost_ret (results_none rfl _ _ _) rfl ?_
              exact ⟨⟨_, rfl⟩, .inr ⟨_, hJx'⟩⟩
          · gi_wp2_with fail
            refine ⟨fun w' => ∃ x : AnyX W, w' = x.W, inAny _ _, ?_⟩
            repeat (refine mixI_quiet rfl ?_; go_big_quiet_step (fail); refine wpQuiet_nil ?_)
            refine mixI_loud rfl ?_
            gi_wp2_with fail
            refine ⟨trivial, ?_⟩
            gi_wp2_with fail
            refine ⟨inAny _ _, ?_⟩
            repeat (refine mixI_quiet rfl ?_; go_big_quiet_step (fail); refine wpQuiet_nil ?_)
            refine mixI_loud rfl ?_
            gi_wp2_with fail
            refine ⟨fun _ _ => trivial, ?_⟩
            gi_wp2_with fail
            refine ⟨fun w' => ∃ x : AnyX W, w' = x.W, inAny _ _, ?_⟩
            repeat (refine mixI_quiet rfl ?_; go_big_quiet_step (fail); refine wpQuiet_nil ?_)
            refine mixI_nil ?_
            gi_wp2_with fail
            refine bodyPost_ret (results_none rfl _ _ _) rfl ?_
            exact ⟨⟨_, rfl⟩, .inr ⟨_, hJx'⟩⟩
      · have hnj : ¬ ((j : Int) < s.days) := by have := HDs.out; omega
        have HP2 : Hid (pre.map (·.1) = labTo s.wo.days (k + 1)) := Lib.hid (by rw [HP.out, show j = s.wo.days by omega, labIn_all])
        clear HP
        gi_wp2_with fail
        refine ⟨⟨⟨k + 1, by omega, hkW.trans hkj, ⟨pre, HP2.out, hJp⟩, exFrame (by kernel_rfl)⟩⟩, ?_⟩
        show s.rooms.length - (intOf (.int .i64 ((k : Int) + 1))).toNat < s.rooms.length - (intOf (.int .i64 (k : Int))).toNat
        simp [intOf]
        omega
    · gi_wp2_with fail
      refine ⟨fun w' => ∃ x : AnyX W, w' = x.W, inAny _ _, ?_⟩
      repeat (refine mixI_quiet rfl ?_; go_big_quiet_step (fail); refine wpQuiet_nil ?_)
      refine mixI_nil ?_
      gi_wp2_with fail
      refine bodyPost_ret (results_none rfl _ _ _) rfl ?_
      exact ⟨⟨_, rfl⟩, .inr ⟨_, hJx'⟩⟩
  · have hkR : k = s.rooms.length := by omega
    have HP2 : Hid (pre.map (·.1) = labTo s.wo.days s.rooms.length) := Lib.hid (by rw [hpre, hkR])
    have hnk : ¬ ((k : Int) < (s.rooms.length : Int)) := by omega
    clear hkR hpre
    gi_wp2_with fail
    refine wpIn_loop (fun a V => Rel (fun a V => ∃ i : Nat, i ≤ s.moves.length ∧ KeepsN B W V ∧ (∃ pre : List (LbX s.wo), pre.map (·.1) = labTo s.wo.days s.rooms.length ++ (List.range i).map .mov ∧ J pre V) ∧ ∃ u : Nat → Value, a = ⟨List.toArray (.func (.yield l) #[] #[] :: .pointer (some ⟨bl, 0, none⟩) :: u 2 :: u 3 :: u 4 :: u 5 :: u 6 :: u 7 :: u 8 :: u 9 :: u 10 :: u 11 :: u 12 :: u 13 :: u 14 :: u 15 :: u 16 :: u 17 :: u 18 :: u 19 :: u 20 :: u 21 :: u 22 :: u 23 :: u 24 :: u 25 :: u 26 :: u 27 :: u 28 :: u 29 :: u 30 :: u 31 :: u 32 :: u 33 :: u 34 :: u 35 :: u 36 :: u 37 :: u 38 :: u 39 :: u 40 :: u 41 :: u 42 :: u 43 :: u 44 :: u 45 :: u 46 :: u 47 :: u 48 :: u 49 :: u 50 :: u 51 :: u 52 :: u 53 :: u 54 :: u 55 :: u 56 :: u 57 :: u 58 :: u 59 :: u 60 :: u 61 :: u 62 :: u 63 :: u 64 :: u 65 :: u 66 :: u 67 :: u 68 :: u 69 :: u 70 :: u 71 :: .slice Am s.moves.length cm :: .int .i64 (s.moves.length : Int) :: .int .i64 (i : Int) :: u 75 :: u 76 :: u 77 :: u 78 :: u 79 :: u 80 :: u 81 :: u 82 :: u 83 :: u 84 :: u 85 :: u 86 :: u 87 :: u 88 :: u 89 :: u 90 :: u 91 :: u 92 :: u 93 :: u 94 :: []), []⟩) a V) (fun a _ => s.moves.length - (intOf (a.tmps.getD 74 undef)).toNat) ⟨⟨0, by omega, hkc, ⟨pre, by rw [HP2.out]; simp, hJp⟩, exFrame (by kernel_rfl)⟩⟩ ?_
    clear hkc HP2 hJp y0 y1 y2 y3 y4 ly ky q1 pre hlt hnk hsz hk
    rintro a V3 ⟨⟨i, hi, hki, ⟨pre, hpre, hJp⟩, u, rfl⟩⟩
    have HP := Lib.hid hpre
    clear hpre
    have hsz := hki.size
    have q1 := q00.kn hki (by unfold NetTy; decide)
    have y0 : V3.cell? ⟨bl, 0, none⟩ = some (.slice Ar s.rooms.length cr) := q1.cell 0
    have y1 : V3.cell? ⟨bl, 1, none⟩ = some (.int .i64 s.days) := q1.cell 1
    have y2 : V3.cell? ⟨bl, 2, none⟩ = some (.slice Am s.moves.length cm) := q1.cell 2
    have y3 : V3.cell? ⟨bl, 3, none⟩ = some (.slice Aw s.wgs.length cw) := q1.cell 3
    have y4 : V3.cell? ⟨bl, 4, none⟩ = some (.map (some m)) := q1.cell 4
    have ly := q1.lt
    have ky := q1.kept (by unfold NetTy; decide)
    by_cases hli : i < s.moves.length
    · have hl12 : s.moves.length ≤ 12 := hw.len.2.2.1
      have hi1 : (i : Int) + 1 ≤ 12 := by omega
      obtain ⟨bi, oi, rfl, hbi, g0, g1, g2, g3, g4⟩ := IsMvs.at_ (hs.low hki hB).moves hli
      have hbw : bi < V3.heap.size := by omega
      have hX := ex_alloc (Below.refl V3.heap.size V3) (.cells #[.int .i64 (gMv s.moves i).day, .int .i64 (gMv s.moves i).src, .int .i64 (gMv s.moves i).dst, .int .i64 (gMv s.moves i).g.lo, .int .i64 (gMv s.moves i).g.hi] 122)
      have qr : Blk (V3.alloc (.cells #[.int .i64 (gMv s.moves i).day, .int .i64 (gMv s.moves i).src, .int .i64 (gMv s.moves i).dst, .int .i64 (gMv s.moves i).g.lo, .int .i64 (gMv s.moves i).g.hi] 122)) V3.heap.size 122 #[.int .i64 (gMv s.moves i).day, .int .i64 (gMv s.moves i).src, .int .i64 (gMv s.moves i).dst, .int .i64 (gMv s.moves i).g.lo, .int .i64 (gMv s.moves i).g.hi] := Blk.new _ _ _
      gi_wp2_with fail
      have kr := qr.kept (by unfold NetTy; decide)
      generalize V3.alloc (.cells #[.int .i64 (gMv s.moves i).day, .int .i64 (gMv s.moves i).src, .int .i64 (gMv s.moves i).dst, .int .i64 (gMv s.moves i).g.lo, .int .i64 (gMv s.moves i).g.hi] 122) = V4 at *
      obtain ⟨pr, hpr⟩ : ∃ p, V3.heap.size = p := ⟨_, rfl⟩
      rw [hpr] at qr kr ⊢
      have r0 : V4.cell? ⟨pr, 0, none⟩ = some (.int .i64 (gMv s.moves i).day) := qr.cell 0
      have r1 : V4.cell? ⟨pr, 1, none⟩ = some (.int .i64 (gMv s.moves i).src) := qr.cell 1
      have r2 : V4.cell? ⟨pr, 2, none⟩ = some (.int .i64 (gMv s.moves i).dst) := qr.cell 2
      have r3 : V4.cell? ⟨pr, 3, none⟩ = some (.int .i64 (gMv s.moves i).g.lo) := qr.cell 3
      have r4 : V4.cell? ⟨pr, 4, none⟩ = some (.int .i64 (gMv s.moves i).g.hi) := qr.cell 4
      have lr := qr.lt
      refine wpIn_region_mixI (fun w' => ∃ x : Kx B V4, w' = x.W) [14] [(false, 0), (false, 1), (false, 2), (false, 3), (false, 4), (false, 6), (false, 7), (false, 8), (false, 9), (false, 11), (false, 12), (true, 5), (true, 10), (false, 13), (true, 14), (false, 15)] (by kernel_rfl) (by kernel_rfl) (by intro d _ _ _ _ h; cases d <;> exact h) (inKx (KeepsN.refl B V4).drew) ?_
      have D2 := (Below.refl V4.heap.size V4).drew
      repeat (refine mixI_quiet rfl ?_; go_big_quiet_step (fail); refine wpQuiet_nil ?_)
      have bJ := ex_trans hX D2
      have kD := KeepsN.below (B := B) D2
      refine mixI_loud rfl ?_
      gi_wp2_with fail
      refine wide3 ((at_any (gMv s.moves i).src (gMv s.moves i).day V4.drew).mono ?_)
      rintro e Z5 ⟨rfl, hZ5⟩
      have bZ5 := ex_trans bJ hZ5
      have kZ5 := kD.trans (KeepsN.below (B := B) hZ5)
      obtain ⟨U, hU⟩ : ∃ x, atS (gMv s.moves i).src (gMv s.moves i).day = x := ⟨_, rfl⟩
      rw [hU]
      have HU := Lib.hid hU
      clear hU
      rw [show cSp U = .agg #[.int .i64 U.1, .int .i64 U.2] from rfl]
      gi_wp2_with fail
      refine ⟨inKx kZ5, ?_⟩
      repeat (refine mixI_quiet rfl ?_; go_big_quiet_step (fail); refine wpQuiet_nil ?_)
      refine mixI_loud rfl ?_
      gi_wp2_with fail
      refine wide3 ((at_any (gMv s.moves i).dst (gMv s.moves i).day Z5).mono ?_)
      rintro e Z6 ⟨rfl, hZ6⟩
      have bZ6 := ex_trans bZ5 hZ6
      have kZ6 := kZ5.trans (KeepsN.below (B := B) hZ6)
      obtain ⟨Vv, hVv⟩ : ∃ x, atS (gMv s.moves i).dst (gMv s.moves i).day = x := ⟨_, rfl⟩
      rw [hVv]
      have HVv := Lib.hid hVv
      clear hVv
      rw [show cSp Vv = .agg #[.int .i64 Vv.1, .int .i64 Vv.2] from rfl]
      gi_wp2_with fail
      refine ⟨inKx kZ6, ?_⟩
      repeat (refine mixI_quiet rfl ?_; go_big_quiet_step (fail); refine wpQuiet_nil ?_)
      have hlm := lb_ok (b := Lb.mov i) HP.out (pre_mov hli)
      have hlen := hlm.1
      have hmem := hlm.2
      clear hlm
      have hJ1 := AbidesFrom.below hJ hJp bZ6
      obtain ⟨fn, tmps, assign, body, hy, hR⟩ := hY pre ⟨_, hmem⟩ _ hJ1 hlen
      have hy' : (Instr.yield l #[.agg #[.int .i64 U.1, .int .i64 U.2, .int .i64 Vv.1, .int .i64 Vv.2, .int .i64 (gMv s.moves i).g.lo, .int .i64 (gMv s.moves i).g.hi]]).run Try.prog Z6 = .ok (.round l fn tmps assign body) Z6 := by have := hy; unfold encL at this; rw [show Lb.U s.wo (.mov i) = U from HU.out, show Lb.V s.wo (.mov i) = Vv from HVv.out] at this; exact this
      clear hy hlen
      refine mixI_loud rfl ?_
      gi_wp2_with fail
      refine ⟨fun h => by simp [Fence.wide] at h, ?_⟩
      refine hR.mono ?_
      rintro e W' (⟨rfl, hJ', hk'⟩ | ⟨rfl, hJx'⟩)
      clear hR hy'
      · obtain ⟨pre2, hp2⟩ : ∃ p, pre ++ [⟨_, hmem⟩] = p := ⟨_, rfl⟩
        rw [hp2] at hJ'
        have HP2 : Hid (pre2.map (·.1) = (labTo s.wo.days s.rooms.length ++ (List.range i).map .mov) ++ [Lb.mov i]) := Lib.hid (by rw [← hp2, List.map_append, HP.out]; rfl)
        clear hp2 HP hmem hJ1
        have HP := HP2
        clear HP2
        have hK' := kZ6.trans hk'
        gi_wp2_with fail
        refine ⟨fun w' => ∃ x : Kx B V4, w' = x.W, inKx hK', ?_⟩
        repeat (refine mixI_quiet rfl ?_; go_big_quiet_step (fail); refine wpQuiet_nil ?_)
        refine mixI_nil ?_
        gi_wp2_with fail
        refine ⟨⟨⟨i + 1, by omega, (hki.trans (KeepsN.below (B := B) hX)).trans hK', ⟨pre2, by rw [HP.out, List.range_succ, List.map_append]; simp, hJ'⟩, exFrame (by kernel_rfl)⟩⟩, ?_⟩
        show s.moves.length - (intOf (.int .i64 ((i : Int) + 1))).toNat < s.moves.length - (intOf (.int .i64 (i : Int))).toNat
        simp [intOf]
        omega
      · gi_wp2_with fail
        refine ⟨fun w' => ∃ x : AnyX W, w' = x.W, inAny _ _, ?_⟩
        repeat (refine mixI_quiet rfl ?_; go_big_quiet_step (fail); refine wpQuiet_nil ?_)
        refine mixI_nil ?_
        gi_wp2_with fail
        refine bodyPost_ret (results_none rfl _ _ _) rfl ?_
        exact ⟨⟨_, rfl⟩, .inr ⟨_, hJx'⟩⟩
    · have HP2 : Hid (pre.map (·.1) = labels s.wo) := Lib.hid (by rw [HP.out, show i = s.moves.length by omega]; rfl)
      clear HP
      have hni : ¬ ((i : Int) < (s.moves.length : Int)) := by omega
      gi_wp2
      go_end0
      exact ⟨⟨_, rfl⟩, .inl ⟨pre, HP2.out, hJp⟩⟩
end Go.Proofs.Ythihdiilokdidaa
end

section
namespace Go.Proofs.Ythihdiilokdidaa
open Go.RowKit Go.Shelf

theorem MpIs.noCells {α β : Type} [DecidableEq α] {kV : α → Value} {vV : β → Value} {W : World} {b : Nat} {F : α → Option β} (h : MpIs kV vV W b F) : ∀ o, W.heap[b]? = some o → o.isCells = false := fun o ho => by
  obtain ⟨L, h1, _⟩ := h
  rw [show W.heap[b]? = _ from h1] at ho
  cases ho
  rfl
theorem NetFr.keepsN {base mb : Nat} {w w' : World} (h : NetFr base mb w w') (hm : ∀ o, w.heap[mb]? = some o → o.isCells = false) : KeepsN base w w' :=
  ⟨h.size, h.low, fun k o ho hc hn => h.same k o ho (fun e => by subst e; rw [hm o ho] at hc; cases hc) hn⟩
structure RowOk (B : Nat) (W : World) (row : Option Nat) : Prop where
  ok : ∀ r, row = some r → B ≤ r ∧ ∃ o : Obj, W.heap[r]? = some o ∧ o.isCells = false
theorem RowOk.ne {B : Nat} {W : World} {row : Option Nat} (h : RowOk B W row) {b : Nat} {t : TypeId} {cs : Array Value} (hb : Blk W b t cs) : some b ≠ row := fun e => by
  obtain ⟨_, o, ho, hc⟩ := h.ok _ e.symm
  rw [show W.heap[b]? = _ from hb] at ho; cases ho; cases hc
theorem RowOk.low {B : Nat} {W : World} {row : Option Nat} (h : RowOk B W row) {b : Nat} (hb : b < B) : some b ≠ row := fun e => by
  have := (h.ok _ e.symm).1
  omega
theorem own_grown {W W' : World} {base : Nat} {e : TypeId} {sz n B : Nat} {v : Value} {xs : List Value} {row : Option Nat} (h : W.ownsRow base e sz v n xs) (hg : W.grownBy W' row) (hr : RowOk B W row) : W'.ownsRow base e sz v n xs := by
  refine own_fr h (Fr.grown (R := fun b => row = some b) hg (fun b e => .inl e)) (fun b hb e => ?_)
  rcases h.2 with ⟨rfl, _⟩ | ⟨g, cap, cur, rfl, _, hh, _⟩
  · simp [Value.ownBlock] at hb
  · have hg : g = b := by simpa [Value.ownBlock] using hb
    subst hg
    obtain ⟨_, o, ho, hc⟩ := hr.ok _ e
    rw [hh] at ho; cases ho; cases hc
theorem MpIs.grown {α β : Type} [DecidableEq α] {kV : α → Value} {vV : β → Value} {W W' : World} {b B : Nat} {F : α → Option β} {row : Option Nat} (h : MpIs kV vV W b F) (hg : W.grownBy W' row) (hr : RowOk B W row) (hb : b < B) : MpIs kV vV W' b F := h.of_block (hg.block b h.lt (hr.low hb))
theorem NetM.grown {W W' : World} {base q mb N B : Nat} {sp : List Spot} {R : Nat → List Ar} {vo : Value} {vals : List Value} {row : Option Nat} (h : NetM W base q mb sp N R vo vals) (hg : W.grownBy W' row) (hr : RowOk B W row) (hb : mb < B) : NetM W' base q mb sp N R vo vals :=
  ⟨h.blk.grown hg (hr.ne h.blk), own_grown h.out hg hr, h.len, fun i hi => own_grown (h.rows i hi) hg hr, h.ne, h.num.grown hg hr hb, h.qb⟩
theorem Blk.grownR {W W' : World} {B b : Nat} {t : TypeId} {cs : Array Value} {row : Option Nat} (h : Blk W b t cs) (hg : W.grownBy W' row) (hr : RowOk B W row) : Blk W' b t cs := h.grown hg (hr.ne h)
theorem below_grownR {W W' V : World} {B : Nat} {row : Option Nat} (h : Below V.heap.size V W) (hg : W.grownBy W' row) (hr : RowOk B W row) (hB : V.heap.size ≤ B) : Below V.heap.size V W' := h.grown hg h.size (fun j hj => Nat.le_trans hB (hr.ok j hj).1)
theorem wpIn_region_kx_mix {P : Program} {Q : Exit → Act → World → Prop} {id l0 nn : Nat} {a : Act} {w : World} {l : List Oper} (B : Nat) (n : Nat) (ks : List (Bool × Nat)) (hm : P.follows .mixedOrders = true)
    (hB : (mixedB .any l.toArray n ks && decide (ks.length = n)) = true) (hnd : noDefer l = true) (hout : ¬ LetsOut Q) (hQ : ∀ d v c a w, Q (.panic c) (a.put d v) w → Q (.panic c) a w)
    (h : wpMix P l Q (fun w' => ∃ x : Kx B w, w' = x.W) n ks a w.drew) : (Code.region id l.toArray true).wpIn (Fence.wide.inRound l0) nn P Q a w :=
  wpIn_region_mixed_tail n ks _ hm hB hnd hout hQ ⟨⟨w.drew, (KeepsN.refl B w).drew⟩, rfl⟩ h
theorem cntE_zero : ∀ {es : List Ed} {x : Nat}, (∀ e ∈ es, e.u ≠ x ∧ e.v ≠ x) → cntE es x = 0
  | [], _, _ => rfl
  | e :: l, x, h => by
    have h1 := h e (by simp)
    rw [cntE, if_neg (by rintro (h2 | h2); exact h1.1 h2; exact h1.2 h2), cntE_zero (fun e' he => h e' (by simp [he]))]
theorem LaidP.ends {w : Wo} {st : Sts} {sp : List Spot} {l : List Lb} {es : List Ed} {nd : Nat → Int} (h : LaidP w st sp l es nd) : ∀ e ∈ es, e.u < sp.length ∧ e.v < sp.length := fun e he => by
  rw [h.es] at he
  obtain ⟨b, hb, rfl⟩ := List.mem_map.1 he
  exact ⟨List.idxOf_lt_length_of_mem (h.has b hb).1, List.idxOf_lt_length_of_mem (h.has b hb).2⟩
theorem LaidP.row_nil {w : Wo} {st : Sts} {sp : List Spot} {l : List Lb} {es : List Ed} {nd : Nat → Int} (h : LaidP w st sp l es nd) {i : Nat} (hi : sp.length ≤ i) : rowE es i = [] := by
  apply List.eq_nil_of_length_eq_zero
  rw [rowE_len]
  exact cntE_zero (fun e he => by have := h.ends e he; omega)
def spotsL (w : Wo) : List Spot := outS :: (List.range w.rooms.length).flatMap fun r : Nat => (List.range w.days).map fun d : Nat => ((r : Int), (d : Int))
theorem mem_spotsL {w : Wo} {s : Spot} (h : UsedS w s) : s ∈ spotsL w := by
  unfold spotsL
  rcases h with rfl | ⟨r, d, hr, hd, rfl⟩
  · simp
  · simp only [List.mem_cons, List.mem_flatMap, List.mem_range, List.mem_map]
    exact .inr ⟨r, hr, d, hd, rfl⟩
theorem len_spotsL (w : Wo) : (spotsL w).length = w.rooms.length * w.days + 1 := by
  unfold spotsL
  simp [List.length_flatMap, Function.comp_def, List.map_const', List.sum_replicate_nat]
theorem nodup_sub {α : Type} [DecidableEq α] : ∀ (l m : List α), l.Nodup → (∀ x ∈ l, x ∈ m) → l.length ≤ m.length
  | [], _, _, _ => Nat.zero_le _
  | a :: l, m, hn, h => by
    have ha := h a (by simp)
    have h2 := nodup_sub l (m.erase a) (List.nodup_cons.1 hn).2 (fun x hx => (List.mem_erase_of_ne (fun e : x = a => by subst e; exact (List.nodup_cons.1 hn).1 hx)).2 (h x (by simp [hx])))
    rw [List.length_erase_of_mem ha] at h2
    have := List.length_pos_of_mem ha
    simp only [List.length_cons]
    omega
theorem LaidP.len {w : Wo} {st : Sts} {sp : List Spot} {l : List Lb} {es : List Ed} {nd : Nat → Int} (h : LaidP w st sp l es nd) (hw : WoOk w) : sp.length ≤ 19 := by
  have h1 : sp.length ≤ (spotsL w).length := nodup_sub sp (spotsL w) h.nodup (fun s hs => mem_spotsL (h.used s hs))
  rw [len_spotsL] at h1
  have h2 : w.rooms.length * w.days ≤ 3 * 6 := Nat.mul_le_mul hw.len.2.1 hw.days.2
  omega
theorem LaidP.addS {w : Wo} {st : Sts} {sp : List Spot} {l : List Lb} {es : List Ed} {nd : Nat → Int} (h : LaidP w st sp l es nd) {s : Spot} (hus : UsedS w s) : LaidP w st (addS sp s) l es nd := by
  by_cases hs : s ∈ sp
  · rw [addS_in hs]; exact h
  · rw [addS_out hs]; exact h.more hs hus
theorem mem_addS {sp : List Spot} {s x : Spot} : x ∈ addS sp s ↔ x ∈ sp ∨ x = s := by
  by_cases hs : s ∈ sp
  · rw [addS_in hs]; exact ⟨.inl, fun h => h.elim id (fun e => e ▸ hs)⟩
  · rw [addS_out hs]; simp
theorem NetM.noCells {W : World} {base q mb N : Nat} {sp : List Spot} {R : Nat → List Ar} {vo : Value} {vals : List Value} (h : NetM W base q mb sp N R vo vals) : ∀ o, W.heap[mb]? = some o → o.isCells = false := h.num.noCells
theorem lb_bd {w : Wo} (hw : WoOk w) {st : Sts} (hst : ∀ r d, 0 ≤ (st r d).lo ∧ (st r d).lo ≤ 1048576 ∧ 0 ≤ (st r d).hi ∧ (st r d).hi ≤ 1048576) {b : Lb} (hb : b ∈ labels w) :
    0 ≤ (Lb.R w st b).lo ∧ (Lb.R w st b).lo ≤ 1048576 ∧ 0 ≤ (Lb.R w st b).hi ∧ (Lb.R w st b).hi ≤ 1048576 := by
  rcases mem_labels.1 hb with ⟨r, hr, rfl | ⟨d, hd, rfl | rfl⟩⟩ | ⟨i, hi, rfl⟩
  · have := hw.rooms r hr; simp only [Lb.R]; omega
  · exact hst r d
  · have := hw.rooms r hr; simp only [Lb.R]; omega
  · have := hw.grams i hi; simp only [Lb.R]; omega
theorem idx_ne {sp : List Spot} {U V : Spot} (hU : U ∈ sp) (hV : V ∈ sp) (h : U ≠ V) : sp.idxOf U ≠ sp.idxOf V := fun e => h (by
  have h1 := List.getElem_idxOf (List.idxOf_lt_length_of_mem hU)
  have h2 := List.getElem_idxOf (List.idxOf_lt_length_of_mem hV)
  rw [← h1, ← h2]
  simp only [e])
theorem len_roomL (D r : Nat) : (roomL D r).length = 2 * D + 1 := by
  unfold roomL
  simp [List.length_flatMap, List.map_const', List.sum_replicate_nat]
  omega
theorem len_labels {w : Wo} (hw : WoOk w) : (labels w).length ≤ 60 := by
  unfold labels
  simp only [List.length_append, List.length_flatMap, len_roomL, List.map_const', List.sum_replicate_nat, List.length_range, List.length_map]
  have h2 : w.rooms.length * (2 * w.days + 1) ≤ 3 * 13 := Nat.mul_le_mul hw.len.2.1 (by have := hw.days.2; omega)
  have := hw.len.2.2.1
  omega
theorem MpIs.getI {W : World} {b : Nat} {N : Int → Option Int} (h : MpIs keyI keyI W b N) (x : Int) : (Instr.lookup 186 (.map (some b)) (.int .i64 x) false).run Try.prog W = .ok (.int .i64 ((N x).getD 0)) W := by
  cases hx : N x with
  | some v => exact MpIs.at_ (et := 3) Try.underlying186 keyI_ok h x hx
  | none => exact MpIs.at_none (et := 3) Try.underlying186 (i0 := (Try.prog.info? 3).get (by kernel_rfl)) (by kernel_rfl) (z := .int .i64 0) (by kernel_rfl) keyI_ok h x hx
theorem esum_bd {α : Type} {g : α → Int} {C : Int} : ∀ {l : List α}, (∀ e ∈ l, -C ≤ g e ∧ g e ≤ C) → -(l.length * C) ≤ esum g l ∧ esum g l ≤ l.length * C
  | [], _ => by simp [esum]
  | e :: l, h => by
    have h1 := h e (by simp)
    have h2 := esum_bd (l := l) (fun e' he => h e' (by simp [he]))
    rw [esum, List.length_cons, Int.natCast_add, Int.add_mul]
    simp only [Int.natCast_one, Int.one_mul]
    omega
theorem LaidP.nd_bd {w : Wo} {st : Sts} {sp : List Spot} {l : List Lb} {es : List Ed} {nd : Nat → Int} (h : LaidP w st sp l es nd) (hb : ∀ b ∈ l, 0 ≤ (Lb.R w st b).lo ∧ (Lb.R w st b).lo ≤ 1048576) (hl : l.length ≤ 60) (x : Nat) : -62914560 ≤ nd x ∧ nd x ≤ 62914560 := by
  rw [h.nd, ndL, needs]
  have h1 := esum_bd (g := fun p : Pp => inn p.u p.v p.lo x) (C := 1048576) (l := l.map (ppL w st sp)) (fun p hp => by
    obtain ⟨b, hbl, rfl⟩ := List.mem_map.1 hp
    have := hb b hbl
    show -1048576 ≤ inn _ _ (Lb.R w st b).lo x ∧ _
    simp only [ppL]
    unfold inn
    split <;> split <;> omega)
  rw [List.length_map] at h1
  omega
end Go.Proofs.Ythihdiilokdidaa
end

section
namespace Go.Proofs.Ythihdiilokdidaa
open Classical in
noncomputable def truB (p : Prop) : Bool := decide p
theorem truB_iff {p : Prop} : truB p = true ↔ p := by unfold truB; simp
theorem truB_false {p : Prop} (h : ¬ p) : truB p = false := by rw [← Bool.not_eq_true, truB_iff]; exact h
theorem truB_congr {p q : Prop} (h : p ↔ q) : truB p = truB q := by rw [propext h]
end Go.Proofs.Ythihdiilokdidaa
end
