/- Bath's laws: Read (walk). · Bath's laws: ready, BathMore (walks). -/
import Derived.Test.YtnplefhigbkbbaaQ11
import Derived.Test.YtnplefhigbkbbaaQ8
set_option linter.unusedVariables false
set_option linter.unusedSimpArgs false
set_option linter.unusedSectionVars false
section
namespace Go.Proofs.Ytnplefhigbkbbaa
open Go.RowKit
attribute [local go_sem] Ex.cell? Ex.frozen? Gx.cell? Fx.cell?

/-- an append to a row of another type. -/
theorem NOwn.grown {α : Type} {T1 T2 : TypeId} {s1 s2 : Nat} {c : α → List Value} {A : α → Option Addr} {n : α → Nat} {f : α → Nat → Nat → Value} {W W' : World} {B : Nat} {v : Value} {X : List α} (h : NOwn T1 s1 T2 s2 c A n f W B v X) {base m s3 : Nat} {T3 : TypeId} {v3 : Value} {xs : List Value} (hg : W.grownBy W' v3.ownBlock) (ho : W.ownsRow base T3 s3 v3 m xs) (h1 : T3 ≠ T1) (h2 : T3 ≠ T2) : NOwn T1 s1 T2 s2 c A n f W' B v X :=
  ⟨own_fr h.own (Fr.grown (R := fun y => v3.ownBlock = some y) hg (fun y hy => .inl hy)) (fun b hb hc => own_ownne ho h.own h1 hc hb), fun x hx => (h.ins x hx).grown hg ho h2⟩
/-- two rows of the call's own, and a third that is to go into the second. -/
structure RE (b : Nat) (W0 : World) (R : Nat → Prop) (u1 : Value) (l : List Int) (u2 : Value) (X : List Xb) (A3 : Option Addr) (L3 : List Rd) (W : World) : Prop where
  fr : Fr R W0 W
  o1 : W.ownsRow b 3 1 u1 l.length (l.map (Value.int .i64))
  o2 : ROwn W b u2 X
  o3 : RowAt W b 89 2 A3 L3.length (fRd L3)
  r1 : ∀ x, u1.ownBlock = some x → R x ∨ W0.heap.size ≤ x
  r2 : ∀ x, u2.ownBlock = some x → R x ∨ W0.heap.size ≤ x
section
variable {b : Nat} {W0 W W' : World} {R : Nat → Prop} {u1 u2 : Value} {l : List Int} {X : List Xb} {A3 : Option Addr} {L3 : List Rd}
theorem RE.alloc (h : RE b W0 R u1 l u2 X A3 L3 W) (o : Obj) : RE b W0 R u1 l u2 X A3 L3 (W.alloc o) := by
  have hb : Below W.heap.size W (W.alloc o) := (Below.refl _ _).alloc (Nat.le_refl _) o
  exact ⟨h.fr.trans (Fr.below (R := fun _ => False) hb) (fun _ _ hx => hx.elim), own_below h.o1 hb, h.o2.below hb, h.o3.below hb, h.r1, h.r2⟩
theorem RE.app1 (h : RE b W0 R u1 l u2 X A3 L3 W) {gg cap : Nat} {x : Int} (hg : W.grownBy W' u1.ownBlock) (ho : W'.ownsRow b 3 1 (.slice (some ⟨gg, 0, none⟩) (l.length + 1) cap) (l.length + 1) (l.map (Value.int .i64) ++ [.int .i64 x])) (hat : u1.ownBlock = some gg ∨ W.heap.size ≤ gg) :
    RE b W0 R (.slice (some ⟨gg, 0, none⟩) (l.length + 1) cap) (l ++ [x]) u2 X A3 L3 W' := by
  have hf : Fr (fun y => u1.ownBlock = some y) W W' := Fr.grown hg (fun y hy => .inl hy)
  have hs := h.fr.size
  refine ⟨h.fr.trans hf (fun y hy hr => (h.r1 y hr).resolve_right (by omega)), own_snoc rfl ho, h.o2.grown hg h.o1 (by decide) (by decide), h.o3.grown hg h.o1 (by decide), fun y hy => ?_, h.r2⟩
  have hy' : gg = y := by simpa [Value.ownBlock] using hy
  subst hy'
  rcases hat with hat | hat
  · exact h.r1 gg hat
  · exact .inr (by omega)
theorem RE.app2 (h : RE b W0 R u1 l u2 X A3 L3 W) {gg cap c3 : Nat} {lo hi : Int} (hg : W.grownBy W' u2.ownBlock) (ho : W'.ownsRow b 82 3 (.slice (some ⟨gg, 0, none⟩) (X.length + 1) cap) (X.length + 1) (X.flatMap cB ++ [.int .i64 lo, .int .i64 hi, .slice A3 L3.length c3])) (hat : u2.ownBlock = some gg ∨ W.heap.size ≤ gg) :
    RE b W0 R u1 l (.slice (some ⟨gg, 0, none⟩) (X.length + 1) cap) (X ++ [((⟨⟨lo, hi⟩, L3⟩ : Bt), A3, c3)]) A3 L3 W' := by
  have hf : Fr (fun y => u2.ownBlock = some y) W W' := Fr.grown hg (fun y hy => .inl hy)
  have hs := h.fr.size
  refine ⟨h.fr.trans hf (fun y hy hr => (h.r2 y hr).resolve_right (by omega)), own_fr h.o1 hf (fun y hy hr => own_ownne h.o1 h.o2.own (by decide) hy hr), ?_, h.o3.grown hg h.o2.own (by decide), h.r1, fun y hy => ?_⟩
  · exact NOwn.push h.o2 hg (by decide) rfl (own_push (f := cB) (x := ((⟨⟨lo, hi⟩, L3⟩ : Bt), A3, c3)) rfl ho) (fun y hy => by
      obtain rfl := List.mem_singleton.1 hy
      exact h.o3)
  have hy' : gg = y := by simpa [Value.ownBlock] using hy
  subst hy'
  rcases hat with hat | hat
  · exact h.r2 gg hat
  · exact .inr (by omega)
end

set_option maxRecDepth 100000 in
set_option maxHeartbeats 25600000 in
theorem Read_law (s : Se) (Ao Ab : Option Addr) (co cb : Nat) (rA : Nat → Option Addr) (rc : Nat → Nat) (w : World) (hs : SeIn w w.heap.size s Ao Ab rA rc) (ht : Thn s) (hok : SeOk s) (Aw : Option Addr) (cw : Nat) (ws : List Int) (hws : SlAt w w.heap.size 1 Aw ws.length (fU ws)) (hwl : ws.length ≤ maxLen) (hwv : ∀ k, k < ws.length → 0 ≤ gI ws k ∧ gI ws k ≤ 65535) :
    Calls Try.prog 49 #[.agg #[.slice Ao s.offs.length co, .int .i64 s.err, .slice Ab s.baths.length cb], .slice Aw ws.length cw] w fun e w' => (∃ A1 c1 A2 c2 Ab' cb' rA' rc', ∃ o h x, Hid (ReadV s o h x) ∧ e = .returned (.tuple #[.slice A1 s.offs.length c1, .slice A2 s.baths.length c2, .agg #[.slice Ao s.offs.length co, .int .i64 s.err, .slice Ab' s.baths.length cb']]) ∧ SlAt w' w'.heap.size 1 A1 s.offs.length (fI o) ∧ SlAt w' w'.heap.size 1 A2 s.baths.length (fI h) ∧ SeIn w' w'.heap.size x Ao Ab' rA' rc') ∧ Below w.heap.size w w' := by
  obtain ⟨i0, hi0, hz0, hz1, hz2⟩ := info_parts int_info
  have HI := Lib.hid hi0
  obtain ⟨i1, hi1, hy0, hy1, hy2⟩ := info_parts rrd_info
  have HJ := Lib.hid hi1
  obtain ⟨i2, hi2, hu0, hu1, hu2⟩ := info_parts rbath_info
  have HK := Lib.hid hi2
  clear hi0 hi1 hi2
  have hno := ht.no
  have hnb := ht.nb
  have her := hok.err
  have HT := Lib.hid ht
  have HOK := Lib.hid hok
  clear ht hok
  have hb1 := ex_alloc (ex_alloc (Below.refl w.heap.size w) (.cells #[.slice Ao s.offs.length co, .int .i64 s.err, .slice Ab s.baths.length cb] 25)) (.cells #[.slice none 0 0, .int .i64 0, .slice none 0 0] 25)
  have q0 : Blk ((w.alloc (.cells #[.slice Ao s.offs.length co, .int .i64 s.err, .slice Ab s.baths.length cb] 25)).alloc (.cells #[.slice none 0 0, .int .i64 0, .slice none 0 0] 25)) w.heap.size 25 #[.slice Ao s.offs.length co, .int .i64 s.err, .slice Ab s.baths.length cb] := (Blk.new _ _ _).alloc _
  have q1 : Blk ((w.alloc (.cells #[.slice Ao s.offs.length co, .int .i64 s.err, .slice Ab s.baths.length cb] 25)).alloc (.cells #[.slice none 0 0, .int .i64 0, .slice none 0 0] 25)) (w.heap.size + 1) 25 #[.slice none 0 0, .int .i64 0, .slice none 0 0] := Blk.new' _ _ _ (by simp)
  go_enter Try.func49, Try.ntmps49
  go_wp2_with fail
  have hVs : w.heap.size + 1 + 1 ≤ ((w.alloc (.cells #[.slice Ao s.offs.length co, .int .i64 s.err, .slice Ab s.baths.length cb] 25)).alloc (.cells #[.slice none 0 0, .int .i64 0, .slice none 0 0] 25)).heap.size := by simp
  generalize (w.alloc (.cells #[.slice Ao s.offs.length co, .int .i64 s.err, .slice Ab s.baths.length cb] 25)).alloc (.cells #[.slice none 0 0, .int .i64 0, .slice none 0 0] 25) = V at *
  refine wp_loop (fun a W => Rel (fun a W => ∃ k : Nat, k ≤ s.offs.length ∧ Below w.heap.size w W ∧ w.heap.size + 1 + 1 ≤ W.heap.size ∧ Blk W w.heap.size 25 #[.slice Ao s.offs.length co, .int .i64 s.err, .slice Ab s.baths.length cb] ∧ Blk W (w.heap.size + 1) 25 #[.slice none 0 0, .int .i64 0, .slice none 0 0] ∧ ∃ v, ∃ o : List Int, Hid (OffR s k o) ∧ W.ownsRow (w.heap.size + 1 + 1) 3 1 v o.length (o.map (Value.int .i64)) ∧ ∃ u : Nat → Value, a = ⟨List.toArray (u 0 :: .slice Aw ws.length cw :: .pointer (some ⟨w.heap.size, 0, none⟩) :: u 3 :: u 4 :: u 5 :: .pointer (some ⟨w.heap.size + 1, 0, none⟩) :: v :: .slice none 0 0 :: .int .i64 (k : Int) :: u 10 :: u 11 :: u 12 :: u 13 :: u 14 :: u 15 :: u 16 :: u 17 :: u 18 :: u 19 :: u 20 :: u 21 :: u 22 :: u 23 :: u 24 :: u 25 :: u 26 :: u 27 :: u 28 :: u 29 :: u 30 :: u 31 :: u 32 :: u 33 :: u 34 :: u 35 :: u 36 :: u 37 :: u 38 :: u 39 :: u 40 :: u 41 :: u 42 :: u 43 :: u 44 :: u 45 :: u 46 :: u 47 :: u 48 :: u 49 :: u 50 :: u 51 :: u 52 :: u 53 :: u 54 :: u 55 :: u 56 :: u 57 :: u 58 :: u 59 :: u 60 :: u 61 :: u 62 :: u 63 :: u 64 :: u 65 :: u 66 :: u 67 :: u 68 :: u 69 :: u 70 :: u 71 :: u 72 :: u 73 :: u 74 :: u 75 :: u 76 :: u 77 :: u 78 :: u 79 :: u 80 :: u 81 :: u 82 :: u 83 :: u 84 :: u 85 :: u 86 :: u 87 :: u 88 :: u 89 :: u 90 :: u 91 :: u 92 :: u 93 :: u 94 :: u 95 :: u 96 :: u 97 :: u 98 :: u 99 :: u 100 :: u 101 :: u 102 :: u 103 :: u 104 :: u 105 :: u 106 :: u 107 :: u 108 :: u 109 :: u 110 :: u 111 :: u 112 :: u 113 :: u 114 :: u 115 :: u 116 :: u 117 :: u 118 :: u 119 :: u 120 :: u 121 :: u 122 :: u 123 :: u 124 :: u 125 :: u 126 :: u 127 :: u 128 :: []), []⟩) a W)
    (fun a _ => s.offs.length - (intOf (a.tmps.getD 9 undef)).toNat) ⟨⟨0, by omega, hb1, hVs, q0, q1, .slice none 0 0, [], Lib.hid .nil, ⟨rfl, .inl ⟨rfl, rfl⟩⟩, exFrame (by kernel_rfl)⟩⟩ ?_
  clear hb1 hVs q0 q1 V
  rintro a W ⟨⟨k, hk, hbl, hsz, q0, q1, v, o, HO, hown, u, rfl⟩⟩
  have l0 := q0.lt
  have l1 := q1.lt
  have a0 : W.cell? ⟨w.heap.size, 0, none⟩ = some (.slice Ao s.offs.length co) := q0.cell 0
  by_cases hlt : k < s.offs.length
  · --BEGIN o1
    obtain ⟨br, orr, rfl, hbr, r0, r1⟩ := IsRgs.at_ (hs.offs.below hbl) hlt
    have lbr : br < W.heap.size := by omega
    have hol : o.length ≤ 1000 := by rw [HO.out.len]; omega
    have hbd := HOK.out.offs k hlt
    obtain ⟨lo, hlo⟩ : ∃ lo, (gR s.offs k).lo = lo := ⟨_, rfl⟩
    obtain ⟨hi, hhi⟩ : ∃ hi, (gR s.offs k).hi = hi := ⟨_, rfl⟩
    have HN : Hid (∀ ov, lo ≤ ov → ov ≤ hi → OffR s (k + 1) (o ++ [ov])) := Lib.hid (fun ov h1 h2 => HO.out.snoc (by rw [hlo]; exact h1) (by rw [hhi]; exact h2))
    rw [hlo] at r0
    rw [hhi] at r1
    rw [hlo, hhi] at hbd
    clear hlo hhi
    obtain ⟨row, hrow⟩ : ∃ row, v.ownBlock = row := ⟨_, rfl⟩
    have hge := fun (j : Nat) (hj : v.ownBlock = some j) => own_ge hown hj
    have hn0 : ¬ some w.heap.size = row := fun e => by have := hge _ (hrow.trans e.symm); omega
    have hn1 : ¬ some (w.heap.size + 1) = row := fun e => by have := hge _ (hrow.trans e.symm); omega
    have hnr : ¬ some br = row := fun e => by have := hge _ (hrow.trans e.symm); omega
    have hrw : ∀ j, row = some j → w.heap.size ≤ j := fun j hj => by have := hge _ (hrow.trans hj); omega
    have HROW := Lib.hid hrow
    clear hrow hge
    go_wp2_with fail
    refine wp_region_gx_mix row 12 [(false, 0), (false, 1), (false, 2), (false, 3), (false, 4), (false, 5), (false, 6), (false, 7), (true, 8), (true, 9), (true, 10), (true, 11)] (by kernel_rfl) (by kernel_rfl) (by intro d _ _ _ _ h; cases d <;> exact h) ?_
    repeat (refine mix_quiet rfl ?_; go_big_quiet_step (fail); refine wpQuiet_nil ?_)
    have hX0 := (Below.refl W.heap.size W).drew
    refine mix_loud rfl ?_
    go_wp2_with fail
    refine (word_law Aw cw ws (k : Int) W.drew ((hws.below hbl).up hbl.size) hwv (by omega) (by omega) hwl).mono ?_
    rintro e x1 ⟨⟨nv, rfl, hv0, hv1⟩, hx1⟩
    have hX_x1 := ex_trans hX0 hx1
    go_wp2_with fail
    refine ⟨inGx (grown_row hX_x1), ?_⟩
    repeat (refine mix_quiet rfl ?_; go_big_quiet_step (fail); refine wpQuiet_nil ?_)
    refine mix_loud rfl ?_
    go_wp2_with fail
    refine (some_law lo hi nv x1 hv0 hv1 (by omega) (by omega) (by omega)).mono ?_
    rintro e x2 ⟨⟨ov, rfl, ho0, ho1⟩, hx2⟩
    have hX_x2 := ex_trans hX_x1 hx2
    go_wp2_with fail
    refine ⟨inGx (grown_row hX_x2), ?_⟩
    repeat (refine mix_quiet rfl ?_; go_big_quiet_step (fail); refine wpQuiet_nil ?_)
    refine mix_loud rfl ?_
    go_wp2_with fail
    have hX3 := ex_alloc hX_x2 (.cells #[.int .i64 ov] 3)
    refine ⟨inGx (grown_row hX3), ?_⟩
    repeat (refine mix_quiet rfl ?_; go_big_quiet_step (fail); refine wpQuiet_nil ?_)
    have y4 := own_below hown hX3
    have c63 : o.length + 1 ≤ maxLen := by unfold maxLen; omega
    have cby : (o.length + 1) * 8 ≤ 140737488355328 := by omega
    have hbase : w.heap.size + 1 + 1 ≤ (x2.alloc (.cells #[.int .i64 ov] 3)).heap.size := by have := hX3.size; omega
    refine mix_loud rfl ?_
    go_wp2_with (at_builtin; refine wpList_append_lies _ rfl _ _ _ rfl (w.heap.size + 1 + 1) 3 i0 _ 1 8 Try.underlying52 HI.out hz0 hz1 hz2 rfl (by omega) v _ _ rfl y4 ⟨x2.heap.size, 0, none⟩ 1 1 [.int .i64 ov] rfl rfl (World.news_of_block (heap_alloc_new x2 _)) (by simp [Value.oneCell']) (by omega) c63 cby hbase (x2.heap.size + 1) (by simp) ?_; intro gg cap w1 hown' hgrow hat hlt')
    rw [HROW.out] at hgrow
    have hgB := (grown_row (r := row) hX3).andThen hgrow (fun j hj => .inr hj)
    refine ⟨inGx hgB, ?_⟩
    repeat (refine mix_quiet rfl ?_; go_big_quiet_step (fail); refine wpQuiet_nil ?_)
    refine mix_nil rfl ?_
    have B5 := hbl.grown hgB hbl.size hrw
    have p0 := q0.grown hgB hn0
    have p1 := q1.grown hgB hn1
    have hs7 : w.heap.size + 1 + 1 ≤ w1.heap.size := by have := hgB.size; omega
    have own7 := own_snoc rfl hown'
    have HN2 := Lib.hid (HN.out ov ho0 ho1)
    clear hown' hgB hgrow y4 hX3 hX_x1 hX_x2 hX0 hx1 hx2 a0 q0 q1 hown hnr hn0 hn1 r0 r1 HN
    go_wp2_with fail
    refine ⟨⟨⟨k + 1, by omega, B5, hs7, p0, p1, _, _, HN2, own7, exFrame (by kernel_rfl)⟩⟩, ?_⟩
    show s.offs.length - (intOf (.int .i64 ((k : Int) + 1))).toNat < s.offs.length - (intOf (.int .i64 (k : Int))).toNat
    simp [intOf]
    omega
  obtain rfl : k = s.offs.length := by omega
  have hol := HO.out.len
  obtain ⟨A1, c1, e1, k1, k2, ro⟩ := own_row (α := Int) (c := fun n => [.int .i64 n]) (sz := 1) (fun _ => rfl) (l := o) (f := fI o) (fun k hk j hj => by have hj0 : j = 0 := (by omega); subst hj0; simp [fI, gI, hk]) (by rw [List.map_eq_flatMap] at hown; exact hown)
  rw [hol] at e1 ro
  subst e1
  clear hown hol k1 k2
  have a1 : W.cell? ⟨w.heap.size, 1, none⟩ = some (.int .i64 s.err) := q0.cell 1
  have HX0 := Blk.new W 25 #[.slice Ao s.offs.length co, .int .i64 s.err, .slice none 0 0]
  have hX2 := ex_alloc (Below.refl W.heap.size W) (.cells #[.slice Ao s.offs.length co, .int .i64 s.err, .slice none 0 0] 25)
  have hX2s : W.heap.size + 1 ≤ (W.alloc (.cells #[.slice Ao s.offs.length co, .int .i64 s.err, .slice none 0 0] 25)).heap.size := by simp
  go_wp2_with fail
  obtain ⟨bx, hbx⟩ : ∃ bx, W.heap.size = bx := ⟨_, rfl⟩
  have HBX := Lib.hid hbx
  generalize W.alloc (.cells #[.slice Ao s.offs.length co, .int .i64 s.err, .slice none 0 0] 25) = X2 at *
  rw [hbx] at HX0 hX2s ⊢
  clear hbx a0 a1 l0 l1
  generalize W = V at *
  refine wp_loop (fun a W2 => Rel (fun a W2 => ∃ k : Nat, k ≤ s.baths.length ∧ Below V.heap.size V W2 ∧ bx + 1 ≤ W2.heap.size ∧ ∃ m : Int, 0 ≤ m ∧ m ≤ 9 + 10 * (k : Int) ∧ ∃ v X, ∃ h : List Int, ∃ vh, Hid (BathsR s o k h (X.map (·.1))) ∧ Blk W2 bx 25 #[.slice Ao s.offs.length co, .int .i64 s.err, v] ∧ ROwn W2 (bx + 1) v X ∧ W2.ownsRow (bx + 1) 3 1 vh h.length (h.map (Value.int .i64)) ∧ ∃ u : Nat → Value, a = ⟨List.toArray (u 0 :: .slice Aw ws.length cw :: .pointer (some ⟨w.heap.size, 0, none⟩) :: u 3 :: u 4 :: u 5 :: .pointer (some ⟨w.heap.size + 1, 0, none⟩) :: .slice A1 s.offs.length c1 :: vh :: u 9 :: .pointer (some ⟨bx, 0, none⟩) :: .int .i64 m :: .int .i64 (k : Int) :: u 13 :: u 14 :: u 15 :: u 16 :: u 17 :: u 18 :: u 19 :: u 20 :: u 21 :: u 22 :: u 23 :: u 24 :: u 25 :: u 26 :: u 27 :: u 28 :: u 29 :: u 30 :: u 31 :: u 32 :: u 33 :: u 34 :: u 35 :: u 36 :: u 37 :: u 38 :: u 39 :: u 40 :: u 41 :: u 42 :: u 43 :: u 44 :: u 45 :: u 46 :: u 47 :: u 48 :: u 49 :: u 50 :: u 51 :: u 52 :: u 53 :: u 54 :: u 55 :: u 56 :: u 57 :: u 58 :: u 59 :: u 60 :: u 61 :: u 62 :: u 63 :: u 64 :: u 65 :: u 66 :: u 67 :: u 68 :: u 69 :: u 70 :: u 71 :: u 72 :: u 73 :: u 74 :: u 75 :: u 76 :: u 77 :: u 78 :: u 79 :: u 80 :: u 81 :: u 82 :: u 83 :: u 84 :: u 85 :: u 86 :: u 87 :: u 88 :: u 89 :: u 90 :: u 91 :: u 92 :: u 93 :: u 94 :: u 95 :: u 96 :: u 97 :: u 98 :: u 99 :: u 100 :: u 101 :: u 102 :: u 103 :: u 104 :: u 105 :: u 106 :: u 107 :: u 108 :: u 109 :: u 110 :: u 111 :: u 112 :: u 113 :: u 114 :: u 115 :: u 116 :: u 117 :: u 118 :: u 119 :: u 120 :: u 121 :: u 122 :: u 123 :: u 124 :: u 125 :: u 126 :: u 127 :: u 128 :: []), []⟩) a W2)
    (fun a _ => s.baths.length - (intOf (a.tmps.getD 12 undef)).toNat) ⟨⟨0, by omega, hX2, hX2s, (s.offs.length : Int), by omega, by omega, .slice none 0 0, [], [], .slice none 0 0, Lib.hid .nil, HX0, NOwn.nil, ⟨rfl, .inl ⟨rfl, rfl⟩⟩, exFrame (by kernel_rfl)⟩⟩ ?_
  clear HX0 hX2 hX2s X2
  rintro a W2 ⟨⟨k, hk, hb2, hsz2, m, hm0, hm1, v, X, h, vh, HB, qx, hN, hown, u, rfl⟩⟩
  have BW2 := ex_trans hbl hb2
  have q02 := q0.below hb2 q0.lt
  have l0 := q02.lt
  have lbx := qx.lt
  have hbX := HBX.out
  have a2 : W2.cell? ⟨w.heap.size, 2, none⟩ = some (.slice Ab s.baths.length cb) := q02.cell 2
  by_cases hlt2 : k < s.baths.length
  rotate_left
  · --BEGIN o2
    obtain rfl : k = s.baths.length := by omega
    have q12 := q1.below hb2 q1.lt
    have ro2 := ro.below hb2
    have hhl := HB.out.lh
    have hxl := HB.out.lx
    rw [List.length_map] at hxl
    obtain ⟨A2, c2, e2, k1, k2, rh⟩ := own_row (α := Int) (c := fun n => [.int .i64 n]) (sz := 1) (fun _ => rfl) (l := h) (f := fI h) (fun k hk j hj => by have hj0 : j = 0 := (by omega); subst hj0; simp [fI, gI, hk]) (by rw [List.map_eq_flatMap] at hown; exact hown)
    obtain ⟨A', c', e, k3, k4, k5⟩ := own_row (c := cB) (sz := 3) (fun _ => rfl) (cB_at X) hN.own
    rw [hhl] at e2 rh
    rw [hxl] at e
    subst e e2
    clear hhl hxl hown k1 k2 k3 k4 k5
    have HRV := Lib.hid (ReadV.of HOK.out HO.out HB.out)
    clear HO HB
    have z0 : W2.cell? ⟨w.heap.size + 1, 0, none⟩ = some (.slice none 0 0) := q12.cell 0
    have z1 : W2.cell? ⟨w.heap.size + 1, 1, none⟩ = some (.int .i64 0) := q12.cell 1
    have z2 : W2.cell? ⟨w.heap.size + 1, 2, none⟩ = some (.slice none 0 0) := q12.cell 2
    have b0 : W2.cell? ⟨bx, 0, none⟩ = some (.slice Ao s.offs.length co) := qx.cell 0
    have b1 : W2.cell? ⟨bx, 1, none⟩ = some (.int .i64 s.err) := qx.cell 1
    have b2 : W2.cell? ⟨bx, 2, none⟩ = some (.slice A' s.baths.length c') := qx.cell 2
    have ff := q12.frozen0
    have lq1 := q12.lt
    have hw1 : w.heap.size ≤ w.heap.size + 1 := by omega
    have B9 := ex_set (ex_set (ex_set BW2.drew (p := ⟨w.heap.size + 1, 0, none⟩) hw1 (.slice Ao s.offs.length co)) (p := ⟨w.heap.size + 1, 1, none⟩) hw1 (.int .i64 s.err)) (p := ⟨w.heap.size + 1, 2, none⟩) hw1 (.slice A' s.baths.length c')
    have qd := q12.drew
    have q8a := qd.set_ 0 (.slice Ao s.offs.length co)
    have q8b := q8a.set_ 1 (.int .i64 s.err)
    have q8 := q8b.set_ 2 (.slice A' s.baths.length c')
    have hN9 := (((hN.below (Below.refl W2.heap.size W2).drew).set qd (by decide) (by decide) 0 (.slice Ao s.offs.length co)).set q8a (by decide) (by decide) 1 (.int .i64 s.err)).set q8b (by decide) (by decide) 2 (.slice A' s.baths.length c')
    have ro9 := (((ro2.below (Below.refl W2.heap.size W2).drew).set qd (by decide) 0 (.slice Ao s.offs.length co)).set q8a (by decide) 1 (.int .i64 s.err)).set q8b (by decide) 2 (.slice A' s.baths.length c')
    have rh9 := (((rh.below (Below.refl W2.heap.size W2).drew).set qd (by decide) 0 (.slice Ao s.offs.length co)).set q8a (by decide) 1 (.int .i64 s.err)).set q8b (by decide) 2 (.slice A' s.baths.length c')
    have HB9 := Lib.hid B9
    clear B9
    simp only [List.setIfInBounds_toArray, List.set_cons_zero, List.set_cons_succ] at q8
    clear q8a q8b qd
    obtain ⟨Ab9, cb9, rA9, rc9, e9, hse⟩ := nown_se (s := ⟨s.offs, s.err, X.map (·.1)⟩) hN9 rfl ((hs.offs.below HB9.out).up HB9.out.size)
    rw [show (⟨s.offs, s.err, X.map (·.1)⟩ : Se).baths.length = s.baths.length from HRV.out.lb] at e9
    injection e9 with e9 e90 e92
    subst e9 e92
    clear e90 hN hN9 ro ro2 rh
    have HSE := Lib.hid hse
    have HRO := Lib.hid ro9.sl
    have HRH := Lib.hid rh9.sl
    clear hse ro9 rh9
    go_wp2_with fail
    refine wp_region_ext_mix 5 [(false, 0), (false, 1), (false, 2), (false, 3), (false, 4)] (by kernel_rfl) (by kernel_rfl) (by intro d _ _ _ _ h; cases d <;> exact h) ?_
    repeat (refine mix_quiet rfl ?_; go_big_quiet_step (fail); refine wpQuiet_nil ?_)
    refine mix_nil rfl ?_
    go_wp2
    refine bodyPost_ret (results_ttc_row rfl _ _ (w.heap.size + 1) 25 #[.slice Ao s.offs.length co, .int .i64 s.err, .slice A' s.baths.length c'] (0, 0) _ rfl q8 rfl rfl rfl) rfl ?_
    exact ⟨⟨_, _, _, _, _, _, _, _, o, h, _, HRV, rfl, HRO.out, HRH.out, HSE.out⟩, HB9.out⟩
  obtain ⟨bb, ob, rfl, hbb, g0, g1, g2⟩ := IsBts.at_ (hs.baths.below BW2) hlt2
  have hrd := hs.reads k hlt2
  have hrl := HT.out.nr k hlt2
  have hhb := HOK.out.heats k hlt2
  have hin := HOK.out.inst k hlt2
  obtain ⟨bt, hbt⟩ : ∃ bt, gBt s.baths k = bt := ⟨_, rfl⟩
  obtain ⟨lo, hlo⟩ : ∃ lo, bt.heat.lo = lo := ⟨_, rfl⟩
  obtain ⟨hi, hhi⟩ : ∃ hi, bt.heat.hi = hi := ⟨_, rfl⟩
  obtain ⟨rd, hrdE⟩ : ∃ rd, bt.reads = rd := ⟨_, rfl⟩
  obtain ⟨Ar, hAr⟩ : ∃ Ar, rA k = Ar := ⟨_, rfl⟩
  obtain ⟨cr, hcr⟩ : ∃ cr, rc k = cr := ⟨_, rfl⟩
  have HGB : Hid (∀ Y, Below w.heap.size w Y → Y.cell? ⟨bb, ob + k * 3, none⟩ = some (.int .i64 lo) ∧ Y.cell? ⟨bb, ob + k * 3 + 1, none⟩ = some (.int .i64 hi) ∧ Y.cell? ⟨bb, ob + k * 3 + 2, none⟩ = some (.slice Ar rd.length cr)) := Lib.hid (fun Y hY => by
    obtain ⟨b', o', e, _, h3, h4, h5⟩ := IsBts.at_ (hs.baths.below hY) hlt2
    injection e with e
    injection e with e1 e2
    subst e1 e2
    rw [h3, h4, h5, hAr, hcr, hbt, hlo, hhi, hrdE]
    exact ⟨rfl, rfl, rfl⟩)
  have HBK : Hid (∀ hv rd', lo ≤ hv → hv ≤ hi → BathR s o hv bt rd' rd.length → BathsR s o (k + 1) (h ++ [hv]) (X.map (·.1) ++ [(⟨⟨lo, hi⟩, rd'⟩ : Bt)])) := Lib.hid (fun hv rd' h1 h2 h3 => by
    have := HB.out.snoc (hv := hv) (rd := rd') (by rw [hbt, hlo]; exact h1) (by rw [hbt, hhi]; exact h2) (by rw [hbt, hrdE]; exact h3)
    rw [hbt, ← show bt.heat = ⟨lo, hi⟩ from by rw [← hlo, ← hhi]] at *
    exact this)
  have HBT := Lib.hid hrdE
  rw [hbt] at g0 g1 g2 hrd hrl hhb hin
  rw [hlo] at g0 hhb
  rw [hhi] at g1 hhb
  rw [hrdE] at g2 hrd hrl hin
  rw [hAr] at g2 hrd
  rw [hcr] at g2
  have hxl : X.length ≤ 1000 := by have := HB.out.lx; rw [List.length_map] at this; omega
  have hhl : h.length ≤ 1000 := by have := HB.out.lh; omega
  have HIN := Lib.hid hin
  clear hlo hhi hrdE hAr hcr hbt hin HB
  have lbb : bb < W2.heap.size := by have := BW2.size; omega
  go_wp2_with fail
  refine wp_region_ext_mix 10 [(false, 0), (false, 1), (false, 2), (false, 3), (false, 4), (false, 5), (false, 6), (false, 7), (true, 8), (true, 9)] (by kernel_rfl) (by kernel_rfl) (by intro d _ _ _ _ h; cases d <;> exact h) ?_
  repeat (refine mix_quiet rfl ?_; go_big_quiet_step (fail); refine wpQuiet_nil ?_)
  have hX0 := (Below.refl W2.heap.size W2).drew
  refine mix_loud rfl ?_
  go_wp2_with fail
  refine (word_law Aw cw ws m W2.drew ((hws.below BW2).up BW2.size) hwv (by omega) (by omega) hwl).mono ?_
  rintro e x1 ⟨⟨nv, rfl, hv0, hv1⟩, hx1⟩
  have hX_x1 := ex_trans hX0 hx1
  go_wp2_with fail
  refine ⟨inEx hX_x1, ?_⟩
  repeat (refine mix_quiet rfl ?_; go_big_quiet_step (fail); refine wpQuiet_nil ?_)
  refine mix_loud rfl ?_
  go_wp2_with fail
  refine (some_law lo hi nv x1 hv0 hv1 (by omega) (by omega) (by omega)).mono ?_
  rintro e x2 ⟨⟨hv, rfl, hh0, hh1⟩, hx2⟩
  have hX_x2 := ex_trans hX_x1 hx2
  go_wp2_with fail
  refine ⟨inEx hX_x2, ?_⟩
  repeat (refine mix_quiet rfl ?_; go_big_quiet_step (fail); refine wpQuiet_nil ?_)
  refine mix_nil rfl ?_
  have BX2 := ex_trans BW2 hX_x2
  have q0x := q02.below hX_x2 l0
  have qxx := qx.below hX_x2 lbx
  have l0x := q0x.lt
  have a2x : x2.cell? ⟨w.heap.size, 2, none⟩ = some (.slice (some ⟨bb, ob, none⟩) s.baths.length cb) := q0x.cell 2
  obtain ⟨g0x, g1x, g2x⟩ := HGB.out x2 BX2
  have lbbx : bb < x2.heap.size := by have := hX_x2.size; omega
  have HX0 := Blk.new x2 82 #[.int .i64 lo, .int .i64 hi, .slice none 0 0]
  have hX4 := ex_alloc (Below.refl x2.heap.size x2) (.cells #[.int .i64 lo, .int .i64 hi, .slice none 0 0] 82)
  have hX4s : x2.heap.size + 1 ≤ (x2.alloc (.cells #[.int .i64 lo, .int .i64 hi, .slice none 0 0] 82)).heap.size := by simp
  clear a2 g0 g1 g2 l0 q02 lbb lbx
  go_wp2_with fail
  obtain ⟨px, hpx⟩ : ∃ px, x2.heap.size = px := ⟨_, rfl⟩
  have HPX := Lib.hid hpx
  generalize x2.alloc (.cells #[.int .i64 lo, .int .i64 hi, .slice none 0 0] 82) = X4 at *
  rw [hpx] at HX0 hX4s ⊢
  have hown2 := own_below hown hX_x2
  have hN2 := hN.below hX_x2
  have hsx := hX_x2.size
  clear hpx hX0 hX_x1 hx1 hx2 hown hN a2x g0x g1x g2x l0x qx
  generalize x2 = V2 at *
  refine wp_loop (fun a Y => Rel (fun a Y => ∃ i : Nat, i ≤ rd.length ∧ Below V2.heap.size V2 Y ∧ px + 1 ≤ Y.heap.size ∧ ∃ m3 : Int, 0 ≤ m3 ∧ m3 ≤ 9 + 10 * (k : Int) + 1 + (i : Int) ∧ ∃ A3 c3, ∃ L3 : List Rd, Hid (BathR s o hv bt L3 i) ∧ Blk Y px 82 #[.int .i64 lo, .int .i64 hi, .slice A3 L3.length c3] ∧ Y.ownsRow (px + 1) 89 2 (.slice A3 L3.length c3) L3.length (L3.flatMap cRd) ∧ ∃ u : Nat → Value, a = ⟨List.toArray (u 0 :: .slice Aw ws.length cw :: .pointer (some ⟨w.heap.size, 0, none⟩) :: u 3 :: u 4 :: u 5 :: .pointer (some ⟨w.heap.size + 1, 0, none⟩) :: .slice A1 s.offs.length c1 :: vh :: u 9 :: .pointer (some ⟨bx, 0, none⟩) :: .int .i64 m3 :: .int .i64 (k : Int) :: .int .i64 hv :: .pointer (some ⟨px, 0, none⟩) :: .int .i64 (i : Int) :: u 16 :: u 17 :: u 18 :: u 19 :: u 20 :: u 21 :: u 22 :: u 23 :: u 24 :: u 25 :: u 26 :: u 27 :: u 28 :: u 29 :: u 30 :: u 31 :: u 32 :: u 33 :: u 34 :: u 35 :: u 36 :: u 37 :: u 38 :: u 39 :: u 40 :: u 41 :: u 42 :: u 43 :: u 44 :: u 45 :: u 46 :: u 47 :: u 48 :: u 49 :: u 50 :: u 51 :: u 52 :: u 53 :: u 54 :: u 55 :: u 56 :: u 57 :: u 58 :: u 59 :: u 60 :: u 61 :: u 62 :: u 63 :: u 64 :: u 65 :: u 66 :: u 67 :: u 68 :: u 69 :: u 70 :: u 71 :: u 72 :: u 73 :: u 74 :: u 75 :: u 76 :: u 77 :: u 78 :: u 79 :: u 80 :: u 81 :: u 82 :: u 83 :: u 84 :: u 85 :: u 86 :: u 87 :: u 88 :: u 89 :: u 90 :: u 91 :: u 92 :: u 93 :: u 94 :: u 95 :: u 96 :: u 97 :: u 98 :: u 99 :: u 100 :: u 101 :: u 102 :: u 103 :: u 104 :: u 105 :: u 106 :: u 107 :: u 108 :: u 109 :: u 110 :: u 111 :: u 112 :: u 113 :: u 114 :: u 115 :: u 116 :: u 117 :: u 118 :: u 119 :: u 120 :: u 121 :: u 122 :: u 123 :: u 124 :: u 125 :: u 126 :: u 127 :: u 128 :: []), []⟩) a Y)
    (fun a _ => rd.length - (intOf (a.tmps.getD 15 undef)).toNat) ⟨⟨0, by omega, hX4, hX4s, m + 1, by omega, by omega, none, 0, [], Lib.hid .nil, HX0, ⟨rfl, .inl ⟨rfl, rfl⟩⟩, exFrame (by kernel_rfl)⟩⟩ ?_
  clear HX0 hX4 hX4s X4
  rintro a Y ⟨⟨i, hi', hbY, hsY, m3, hm30, hm31, A3, c3, L3, HL3, qp, own3, u, rfl⟩⟩
  have BY := ex_trans BX2 hbY
  have hYs := hbY.size
  have hpX := HPX.out
  have q0Y := q0x.below hbY q0x.lt
  have l0 := q0Y.lt
  have lx := qp.lt
  have a2 : Y.cell? ⟨w.heap.size, 2, none⟩ = some (.slice (some ⟨bb, ob, none⟩) s.baths.length cb) := q0Y.cell 2
  have g2 := (HGB.out Y BY).2.2
  have lbY : bb < Y.heap.size := by omega
  by_cases hli : i < rd.length
  · --BEGIN o4
    obtain ⟨br, orr, rfl, hbr, r0, r1⟩ := IsRds.at_ (hrd.below BY) hli
    have lbr : br < Y.heap.size := by omega
    have hlen3 : L3.length ≤ 1000 := by rw [HL3.out.len]; omega
    obtain ⟨hi0, hi1⟩ := HIN.out i hli
    obtain ⟨iv, hiv⟩ : ∃ iv, (gRd rd i).inst = iv := ⟨_, rfl⟩
    rw [hiv] at hi0 hi1 r0
    obtain ⟨n, rfl⟩ : ∃ n : Nat, iv = (n : Int) := ⟨iv.toNat, by omega⟩
    have hn : n < s.offs.length := by omega
    obtain ⟨ba, oa, rfl, hba, s0⟩ := IsInts.at_ (ro.sl.below (ex_trans (ex_trans hb2 hX_x2) hbY)) hn
    have lba : ba < Y.heap.size := by omega
    have hob := HOK.out.offs n hn
    have hoo := HO.out.at_ n hn
    obtain ⟨ov, hov⟩ : ∃ ov, gI o n = ov := ⟨_, rfl⟩
    rw [hov] at s0 hoo
    have HN3 : Hid (∀ xv, -s.err ≤ xv → xv ≤ s.err → BathR s o hv bt (L3 ++ [⟨(n : Int), hv + ov + xv⟩]) (i + 1)) := Lib.hid (fun xv h1 h2 => HL3.out.snoc (by rw [HBT.out, hiv]) (by rw [Int.toNat_natCast, hov]; omega) (by rw [Int.toNat_natCast, hov]; omega))
    have hob2 : -100 ≤ ov ∧ ov ≤ 100 := by omega
    clear hiv hov hob hoo hi0 hi1
    have kw1 : IntKind.i64.wrap (hv + ov) = hv + ov := IntWalk.i64_in _ (by omega)
    have kneg : IntKind.i64.wrap (-s.err) = -s.err := IntWalk.i64_in _ (by omega)
    have a1 : Y.cell? ⟨w.heap.size, 1, none⟩ = some (.int .i64 s.err) := q0Y.cell 1
    have x2 : Y.cell? ⟨px, 2, none⟩ = some (.slice A3 L3.length c3) := qp.cell 2
    obtain ⟨row, hrow⟩ : ∃ row, (Value.slice A3 L3.length c3).ownBlock = row := ⟨_, rfl⟩
    have hge := fun (j : Nat) (hj : (Value.slice A3 L3.length c3).ownBlock = some j) => own_ge own3 hj
    have hn0 : ¬ some w.heap.size = row := fun e => by have := hge _ (hrow.trans e.symm); omega
    have hnx : ¬ some px = row := fun e => by have := hge _ (hrow.trans e.symm); omega
    have hnb' : ¬ some bb = row := fun e => by have := hge _ (hrow.trans e.symm); omega
    have hnr : ¬ some br = row := fun e => by have := hge _ (hrow.trans e.symm); omega
    have hna : ¬ some ba = row := fun e => by have := hge _ (hrow.trans e.symm); omega
    have hrw : ∀ j, row = some j → px + 1 ≤ j := fun j hj => hge _ (hrow.trans hj)
    have HROW := Lib.hid hrow
    clear hrow hge
    go_wp2_with fail
    refine wp_region_gx_mix row 24 [(false, 0), (false, 1), (false, 2), (false, 3), (false, 4), (false, 5), (false, 6), (false, 7), (false, 8), (false, 9), (false, 10), (false, 11), (false, 12), (false, 13), (false, 14), (false, 15), (false, 16), (true, 17), (true, 18), (false, 19), (false, 20), (true, 21), (true, 22), (false, 23)] (by kernel_rfl) (by kernel_rfl) (by intro d _ _ _ _ h; cases d <;> exact h) ?_
    repeat (refine mix_quiet rfl ?_; go_big_quiet_step (fail); refine wpQuiet_nil ?_)
    have hX0 := (Below.refl Y.heap.size Y).drew
    refine mix_loud rfl ?_
    go_wp2_with fail
    refine (word_law Aw cw ws m3 Y.drew ((hws.below BY).up BY.size) hwv (by omega) (by omega) hwl).mono ?_
    rintro e z1 ⟨⟨nv, rfl, hv0, hv1⟩, hz1⟩
    have hX_z1 := ex_trans hX0 hz1
    go_wp2_with fail
    refine ⟨inGx (grown_row hX_z1), ?_⟩
    repeat (refine mix_quiet rfl ?_; go_big_quiet_step (fail); refine wpQuiet_nil ?_)
    refine mix_loud rfl ?_
    go_wp2_with fail
    refine (some_law (-s.err) s.err nv z1 hv0 hv1 (by omega) (by omega) (by omega)).mono ?_
    rintro e z2 ⟨⟨xv, rfl, he0, he1⟩, hz2⟩
    have kw2 : IntKind.i64.wrap (hv + ov + xv) = hv + ov + xv := IntWalk.i64_in _ (by omega)
    have hX_z2 := ex_trans hX_z1 hz2
    go_wp2_with fail
    refine ⟨inGx (grown_row hX_z2), ?_⟩
    repeat (refine mix_quiet rfl ?_; go_big_quiet_step (fail); refine wpQuiet_nil ?_)
    refine mix_loud rfl ?_
    go_wp2_with fail
    have hX3 := ex_alloc hX_z2 (.cells #[.int .i64 (n : Int), .int .i64 (hv + ov + xv)] 89)
    refine ⟨inGx (grown_row hX3), ?_⟩
    repeat (refine mix_quiet rfl ?_; go_big_quiet_step (fail); refine wpQuiet_nil ?_)
    have y4 := own_below own3 hX3
    have c63 : L3.length + 1 ≤ maxLen := by unfold maxLen; omega
    have cby : (L3.length + 1) * 16 ≤ 140737488355328 := by omega
    have hbase : px + 1 ≤ (z2.alloc (.cells #[.int .i64 (n : Int), .int .i64 (hv + ov + xv)] 89)).heap.size := by have := hX3.size; omega
    refine mix_loud rfl ?_
    go_wp2_with (at_builtin; refine wpList_append_lies _ rfl _ _ _ rfl (px + 1) 89 i1 _ 2 16 Try.underlying80 HJ.out hy0 hy1 hy2 rfl (by omega) (.slice A3 L3.length c3) _ _ rfl y4 ⟨z2.heap.size, 0, none⟩ 1 1 [.int .i64 (n : Int), .int .i64 (hv + ov + xv)] rfl rfl (World.news_of_block (heap_alloc_new z2 _)) (by simp [Value.oneCell']) (by omega) c63 cby hbase (z2.heap.size + 1) (by simp) ?_; intro gg cap w1 hown' hgrow hat hlt')
    rw [HROW.out] at hgrow
    have hgB := (grown_row (r := row) hX3).andThen hgrow (fun j hj => .inr hj)
    refine ⟨inGx hgB, ?_⟩
    repeat (refine mix_quiet rfl ?_; go_big_quiet_step (fail); refine wpQuiet_nil ?_)
    refine mix_nil rfl ?_
    have hX1 := hbY.grown hgB hbY.size (fun j hj => by have := hrw j hj; omega)
    have qx3 := qp.grown hgB hnx
    have x13 : w1.cell? ⟨px, 2, none⟩ = some (.slice A3 L3.length c3) := qx3.cell 2
    have lx3 := qx3.lt
    have fx3 := qx3.frozen0
    have qx4 := qx3.set_ 2 (.slice (some ⟨gg, 0, none⟩) (L3.length + 1) cap)
    simp only [List.setIfInBounds_toArray, List.set_cons_zero, List.set_cons_succ] at qx4
    have own4 := own_far (own_push (f := cRd) (x := ⟨(n : Int), hv + ov + xv⟩) rfl hown') (p := ⟨px, 2, none⟩) (by show px < px + 1; omega) (.slice (some ⟨gg, 0, none⟩) (L3.length + 1) cap)
    have hB5 := ex_set hX1 (p := ⟨px, 2, none⟩) (by show V2.heap.size ≤ px; omega) (.slice (some ⟨gg, 0, none⟩) (L3.length + 1) cap)
    have hs5 : px + 1 ≤ (w1.setCell ⟨px, 2, none⟩ (.slice (some ⟨gg, 0, none⟩) (L3.length + 1) cap)).heap.size := by have := hgB.size; simp; omega
    have HL4 := Lib.hid (HN3.out xv he0 he1)
    generalize hL4 : L3 ++ [(⟨(n : Int), hv + ov + xv⟩ : Rd)] = L4 at *
    have hl4 : L3.length + 1 = L4.length := by rw [← hL4]; simp
    have HL5 := Lib.hid hl4
    clear hL4 hl4
    rw [HL5.out] at qx4 own4 hB5 hs5
    clear hown' hgB hgrow y4 hX3 hX_z1 hX_z2 hX0 hX1 own3 x2 a1 a2 g2 r0 r1 s0 hn0 hnx hnb' hnr hna qp
    go_wp2_with fail
    rw [HL5.out]
    refine ⟨⟨⟨i + 1, by omega, hB5, hs5, m3 + 1, by omega, by push_cast; omega, _, _, L4, HL4, qx4, own4, exFrame (by kernel_rfl)⟩⟩, ?_⟩
    show rd.length - (intOf (.int .i64 ((i : Int) + 1))).toNat < rd.length - (intOf (.int .i64 (i : Int))).toNat
    simp [intOf]
    omega
  obtain rfl : i = rd.length := by omega
  obtain ⟨A5, c5, e5, k1, k2, hr5⟩ := own_row (c := cRd) (sz := 2) (fun _ => rfl) (f := fRd L3) (fun k hk j hj => by
    have e := gRd_at hk
    match j, hj with
    | 0, _ => simp [cRd, fRd, e]
    | 1, _ => simp [cRd, fRd, e]) own3
  injection e5 with e5 e50 e52
  subst e5 e52
  clear e50 k1 k2
  have hNY := hN2.below hbY
  have hoY := own_below hown2 hbY
  have qxY := qxx.below hbY qxx.lt
  have lbx := qxY.lt
  have x0 : Y.cell? ⟨px, 0, none⟩ = some (.int .i64 lo) := qp.cell 0
  have x1 : Y.cell? ⟨px, 1, none⟩ = some (.int .i64 hi) := qp.cell 1
  have x2 : Y.cell? ⟨px, 2, none⟩ = some (.slice A3 L3.length c3) := qp.cell 2
  have b2 : Y.cell? ⟨bx, 2, none⟩ = some v := qxY.cell 2
  obtain ⟨R, hR⟩ : ∃ R : Nat → Prop, R = fun y => vh.ownBlock = some y ∨ v.ownBlock = some y := ⟨_, rfl⟩
  have EN0 : RE (bx + 1) Y R vh h v X A3 L3 Y.drew := ⟨(Fr.refl _ Y).drew, hoY, hNY.below (Below.refl Y.heap.size Y).drew, (hr5.base (by omega)).below (Below.refl Y.heap.size Y).drew, fun y hy => .inl (by rw [hR]; exact .inl hy), fun y hy => .inl (by rw [hR]; exact .inr hy)⟩
  have z1 : ∀ y, vh.ownBlock = some y → y < Y.heap.size := fun y hy => (own_lt hoY hy).2
  have z2 : ∀ y, v.ownBlock = some y → y < Y.heap.size := fun y hy => (own_lt hNY.own hy).2
  have hRge : ∀ y, R y → bx + 1 ≤ y := fun y hy => by
    rw [hR] at hy
    rcases hy with hy | hy
    · exact own_ge hoY hy
    · exact own_ge hNY.own hy
  have nbx : ¬ R bx := fun hy => by have := hRge _ hy; omega
  have npx : ¬ R px := fun hy => by
    rw [hR] at hy
    rcases hy with hy | hy
    · exact own_blkne hoY qp (by decide) hy
    · have := (own_lt hN2.own hy).2; omega
  have hbYV : Below V.heap.size V Y := ex_trans (ex_trans hb2 hX_x2) hbY
  have HQX := Lib.hid qxY
  have HEND : Hid (∀ (W9 : World) (u1 u2 : Value), RE (bx + 1) Y R u1 (h ++ [hv]) u2 (X ++ [((⟨⟨lo, hi⟩, L3⟩ : Bt), A3, c3)]) A3 L3 W9 → Below V.heap.size V (W9.setCell ⟨bx, 2, none⟩ u2) ∧ bx + 1 ≤ (W9.setCell ⟨bx, 2, none⟩ u2).heap.size ∧ Blk (W9.setCell ⟨bx, 2, none⟩ u2) bx 25 #[.slice Ao s.offs.length co, .int .i64 s.err, u2] ∧ ROwn (W9.setCell ⟨bx, 2, none⟩ u2) (bx + 1) u2 (X ++ [((⟨⟨lo, hi⟩, L3⟩ : Bt), A3, c3)]) ∧ (W9.setCell ⟨bx, 2, none⟩ u2).ownsRow (bx + 1) 3 1 u1 (h ++ [hv]).length ((h ++ [hv]).map (Value.int .i64))) := Lib.hid (fun W9 u1 u2 E => by
    have b3 := HQX.out.fr E.fr nbx
    have q := b3.set_ 2 u2
    simp only [List.setIfInBounds_toArray, List.set_cons_zero, List.set_cons_succ] at q
    have hB : Below V.heap.size V W9 := E.fr.toBelow hbYV hbYV.size (fun x hx => by have := hRge x hx; omega)
    exact ⟨ex_set hB (p := ⟨bx, 2, none⟩) (by show V.heap.size ≤ bx; omega) u2, by have := b3.lt; simp; omega, q, E.o2.set b3 (by decide) (by decide) 2 u2, own_far E.o1 (p := ⟨bx, 2, none⟩) (by show bx < bx + 1; omega) u2⟩)
  have HB5 : Hid (BathsR s o (k + 1) (h ++ [hv]) ((X ++ [((⟨⟨lo, hi⟩, L3⟩ : Bt), A3, c3)]).map (·.1))) := Lib.hid (by
    rw [List.map_append]
    exact HBK.out hv L3 hh0 hh1 HL3.out)
  clear own3 hr5 hNY hoY hN2 hown2 qxY qxx hR
  go_wp2_with fail
  refine wp_region_fx_tq R 9 (.quiet 0 (.quiet 1 (.quiet 4 (.quiet 5 (.quiet 6 (.fork 2 (.fork 3 (.loud 7 (.loud 8 .done)) 7 (.loud 3 (.loud 8 .done))) 7 (.loud 2 (.loud 3 (.loud 8 .done))))))))) (by kernel_rfl) (by kernel_rfl) (by intro d _ _ _ _ h; cases d <;> exact h) ?_
  repeat (refine tq_quiet rfl ?_; go_big_quiet_step (fail); refine wpQuiet_nil ?_)
  have hV0 : Y.heap.size = Y.drew.heap.size := rfl
  generalize Y.drew = D at *
  clear x0 x1 x2 lx b2 lbx a2 g2 l0
  refine tq_fork rfl rfl ?_ ?_
  · have E1 := EN0.alloc (.cells #[.int .i64 hv] 3)
    have q1_2 : Blk (D.alloc (.cells #[.int .i64 hv] 3)) D.heap.size 3 #[.int .i64 hv] := Blk.new _ _ _
    have g1 : Y.heap.size ≤ D.heap.size := EN0.fr.size
    go_wp2_with fail
    refine ⟨inFx E1.fr, ?_⟩
    generalize D.alloc (.cells #[.int .i64 hv] 3) = D1 at *
    refine tq_fork rfl rfl ?_ ?_
    · go_wp2_with (at_builtin; refine wpList_append_lies _ rfl _ _ _ rfl (bx + 1) 3 i0 _ 1 8 Try.underlying52 HI.out hz0 hz1 hz2 rfl (by omega) vh _ _ rfl E1.o1 ⟨D.heap.size, 0, none⟩ 1 1 [.int .i64 hv] rfl rfl (World.news_of_block q1_2) (by simp [Value.oneCell']) (by omega) (by unfold maxLen; omega) (by omega) (by have := E1.fr.size; omega) D1.heap.size rfl ?_; intro gg2 cap2 D2 ho2 hg2 hat2 _)
      have E2 := E1.app1 hg2 ho2 (hat2.imp id (fun e => by omega))
      refine ⟨inFx E2.fr, ?_⟩
      refine tq_loud rfl ?_
      have E3 := E2.alloc (.cells #[.int .i64 lo, .int .i64 hi, .slice A3 L3.length c3] 82)
      have q3_7 : Blk (D2.alloc (.cells #[.int .i64 lo, .int .i64 hi, .slice A3 L3.length c3] 82)) D2.heap.size 82 #[.int .i64 lo, .int .i64 hi, .slice A3 L3.length c3] := Blk.new _ _ _
      have g3 : Y.heap.size ≤ D2.heap.size := E2.fr.size
      go_wp2_with fail
      refine ⟨inFx E3.fr, ?_⟩
      generalize D2.alloc (.cells #[.int .i64 lo, .int .i64 hi, .slice A3 L3.length c3] 82) = D3 at *
      refine tq_loud rfl ?_
      go_wp2_with (at_builtin; refine wpList_append_lies _ rfl _ _ _ rfl (bx + 1) 82 i2 _ 3 40 Try.underlying23 HK.out hu0 hu1 hu2 rfl (by omega) v _ _ rfl E3.o2.own ⟨D2.heap.size, 0, none⟩ 1 1 [.int .i64 lo, .int .i64 hi, .slice A3 L3.length c3] rfl rfl (World.news_of_block q3_7) (by simp [Value.oneCell']) (by omega) (by unfold maxLen; omega) (by omega) (by have := E3.fr.size; omega) D3.heap.size rfl ?_; intro gg4 cap4 D4 ho4 hg4 hat4 _)
      have E4 := E3.app2 hg4 ho4 (hat4.imp id (fun e => by omega))
      refine ⟨inFx E4.fr, ?_⟩
      refine tq_done (r := [_, _, _]) rfl ?_
      have y0 := HQX.out.fr E4.fr nbx
      have y2 : D4.cell? ⟨bx, 2, none⟩ = some v := y0.cell 2
      have f0 := y0.frozen0
      have lq := y0.lt
      obtain ⟨t1, t2, t3, t4, t5⟩ := HEND.out _ _ _ E4
      clear y0
      go_wp2_with fail
      refine ⟨⟨⟨k + 1, by omega, t1, t2, m3, hm30, by push_cast; omega, _, _, _, _, HB5, t3, t4, t5, exFrame (by kernel_rfl)⟩⟩, ?_⟩
      show s.baths.length - (intOf (.int .i64 ((k : Int) + 1))).toNat < s.baths.length - (intOf (.int .i64 (k : Int))).toNat
      simp [intOf]
      omega
    · have E5 := E1.alloc (.cells #[.int .i64 lo, .int .i64 hi, .slice A3 L3.length c3] 82)
      have q5_2 := q1_2.alloc (.cells #[.int .i64 lo, .int .i64 hi, .slice A3 L3.length c3] 82)
      have q5_7 : Blk (D1.alloc (.cells #[.int .i64 lo, .int .i64 hi, .slice A3 L3.length c3] 82)) D1.heap.size 82 #[.int .i64 lo, .int .i64 hi, .slice A3 L3.length c3] := Blk.new _ _ _
      have g5 : Y.heap.size ≤ D1.heap.size := E1.fr.size
      go_wp2_with fail
      refine ⟨inFx E5.fr, ?_⟩
      generalize D1.alloc (.cells #[.int .i64 lo, .int .i64 hi, .slice A3 L3.length c3] 82) = D5 at *
      refine tq_loud rfl ?_
      go_wp2_with (at_builtin; refine wpList_append_lies _ rfl _ _ _ rfl (bx + 1) 3 i0 _ 1 8 Try.underlying52 HI.out hz0 hz1 hz2 rfl (by omega) vh _ _ rfl E5.o1 ⟨D.heap.size, 0, none⟩ 1 1 [.int .i64 hv] rfl rfl (World.news_of_block q5_2) (by simp [Value.oneCell']) (by omega) (by unfold maxLen; omega) (by omega) (by have := E5.fr.size; omega) D5.heap.size rfl ?_; intro gg6 cap6 D6 ho6 hg6 hat6 _)
      have E6 := E5.app1 hg6 ho6 (hat6.imp id (fun e => by omega))
      have q6_7 := q5_7.grown hg6 (fun e => by have := z1 _ e.symm; omega)
      refine ⟨inFx E6.fr, ?_⟩
      refine tq_loud rfl ?_
      go_wp2_with (at_builtin; refine wpList_append_lies _ rfl _ _ _ rfl (bx + 1) 82 i2 _ 3 40 Try.underlying23 HK.out hu0 hu1 hu2 rfl (by omega) v _ _ rfl E6.o2.own ⟨D1.heap.size, 0, none⟩ 1 1 [.int .i64 lo, .int .i64 hi, .slice A3 L3.length c3] rfl rfl (World.news_of_block q6_7) (by simp [Value.oneCell']) (by omega) (by unfold maxLen; omega) (by omega) (by have := E6.fr.size; omega) D6.heap.size rfl ?_; intro gg7 cap7 D7 ho7 hg7 hat7 _)
      have E7 := E6.app2 hg7 ho7 (hat7.imp id (fun e => by omega))
      refine ⟨inFx E7.fr, ?_⟩
      refine tq_done (r := [_, _, _]) rfl ?_
      have y0 := HQX.out.fr E7.fr nbx
      have y2 : D7.cell? ⟨bx, 2, none⟩ = some v := y0.cell 2
      have f0 := y0.frozen0
      have lq := y0.lt
      obtain ⟨t1, t2, t3, t4, t5⟩ := HEND.out _ _ _ E7
      clear y0
      go_wp2_with fail
      refine ⟨⟨⟨k + 1, by omega, t1, t2, m3, hm30, by push_cast; omega, _, _, _, _, HB5, t3, t4, t5, exFrame (by kernel_rfl)⟩⟩, ?_⟩
      show s.baths.length - (intOf (.int .i64 ((k : Int) + 1))).toNat < s.baths.length - (intOf (.int .i64 (k : Int))).toNat
      simp [intOf]
      omega
  · have E8 := EN0.alloc (.cells #[.int .i64 lo, .int .i64 hi, .slice A3 L3.length c3] 82)
    have q8_7 : Blk (D.alloc (.cells #[.int .i64 lo, .int .i64 hi, .slice A3 L3.length c3] 82)) D.heap.size 82 #[.int .i64 lo, .int .i64 hi, .slice A3 L3.length c3] := Blk.new _ _ _
    have g8 : Y.heap.size ≤ D.heap.size := EN0.fr.size
    go_wp2_with fail
    refine ⟨inFx E8.fr, ?_⟩
    generalize D.alloc (.cells #[.int .i64 lo, .int .i64 hi, .slice A3 L3.length c3] 82) = D8 at *
    refine tq_loud rfl ?_
    have E9 := E8.alloc (.cells #[.int .i64 hv] 3)
    have q9_7 := q8_7.alloc (.cells #[.int .i64 hv] 3)
    have q9_2 : Blk (D8.alloc (.cells #[.int .i64 hv] 3)) D8.heap.size 3 #[.int .i64 hv] := Blk.new _ _ _
    have g9 : Y.heap.size ≤ D8.heap.size := E8.fr.size
    go_wp2_with fail
    refine ⟨inFx E9.fr, ?_⟩
    generalize D8.alloc (.cells #[.int .i64 hv] 3) = D9 at *
    refine tq_loud rfl ?_
    go_wp2_with (at_builtin; refine wpList_append_lies _ rfl _ _ _ rfl (bx + 1) 3 i0 _ 1 8 Try.underlying52 HI.out hz0 hz1 hz2 rfl (by omega) vh _ _ rfl E9.o1 ⟨D8.heap.size, 0, none⟩ 1 1 [.int .i64 hv] rfl rfl (World.news_of_block q9_2) (by simp [Value.oneCell']) (by omega) (by unfold maxLen; omega) (by omega) (by have := E9.fr.size; omega) D9.heap.size rfl ?_; intro gg10 cap10 D10 ho10 hg10 hat10 _)
    have E10 := E9.app1 hg10 ho10 (hat10.imp id (fun e => by omega))
    have q10_7 := q9_7.grown hg10 (fun e => by have := z1 _ e.symm; omega)
    refine ⟨inFx E10.fr, ?_⟩
    refine tq_loud rfl ?_
    go_wp2_with (at_builtin; refine wpList_append_lies _ rfl _ _ _ rfl (bx + 1) 82 i2 _ 3 40 Try.underlying23 HK.out hu0 hu1 hu2 rfl (by omega) v _ _ rfl E10.o2.own ⟨D.heap.size, 0, none⟩ 1 1 [.int .i64 lo, .int .i64 hi, .slice A3 L3.length c3] rfl rfl (World.news_of_block q10_7) (by simp [Value.oneCell']) (by omega) (by unfold maxLen; omega) (by omega) (by have := E10.fr.size; omega) D10.heap.size rfl ?_; intro gg11 cap11 D11 ho11 hg11 hat11 _)
    have E11 := E10.app2 hg11 ho11 (hat11.imp id (fun e => by omega))
    refine ⟨inFx E11.fr, ?_⟩
    refine tq_done (r := [_, _, _]) rfl ?_
    have y0 := HQX.out.fr E11.fr nbx
    have y2 : D11.cell? ⟨bx, 2, none⟩ = some v := y0.cell 2
    have f0 := y0.frozen0
    have lq := y0.lt
    obtain ⟨t1, t2, t3, t4, t5⟩ := HEND.out _ _ _ E11
    clear y0
    go_wp2_with fail
    refine ⟨⟨⟨k + 1, by omega, t1, t2, m3, hm30, by push_cast; omega, _, _, _, _, HB5, t3, t4, t5, exFrame (by kernel_rfl)⟩⟩, ?_⟩
    show s.baths.length - (intOf (.int .i64 ((k : Int) + 1))).toNat < s.baths.length - (intOf (.int .i64 (k : Int))).toNat
    simp [intOf]
    omega
end Go.Proofs.Ytnplefhigbkbbaa
end

section
namespace Go.Proofs.Ytnplefhigbkbbaa
open Go.RowKit
attribute [local go_sem] Ex.cell? Ex.frozen? Gx.cell?

set_option maxRecDepth 100000 in
set_option maxHeartbeats 1600000 in
theorem ready_law (s : Se) (Ao Ab : Option Addr) (co cb : Nat) (rA : Nat → Option Addr) (rc : Nat → Nat) (w : World) (hs : SeIn w w.heap.size s Ao Ab rA rc) (hol : s.offs.length ≤ maxLen) (hbl : s.baths.length ≤ maxLen) :
    Calls Try.prog 48 #[.agg #[.slice Ao s.offs.length co, .int .i64 s.err, .slice Ab s.baths.length cb]] w fun e w' => (∃ x : Bool, e = .returned (.bool x) ∧ Hid (x = true → Thn s ∧ SeOk s)) ∧ Below w.heap.size w w' := by
  have hb1 := ex_alloc (Below.refl w.heap.size w) (.cells #[.slice Ao s.offs.length co, .int .i64 s.err, .slice Ab s.baths.length cb] 25)
  have q1 : Blk (w.alloc (.cells #[.slice Ao s.offs.length co, .int .i64 s.err, .slice Ab s.baths.length cb] 25)) w.heap.size 25 #[.slice Ao s.offs.length co, .int .i64 s.err, .slice Ab s.baths.length cb] := Blk.new _ _ _
  go_enter Try.func48, Try.ntmps48
  go_wp2_with fail
  generalize w.alloc (.cells #[.slice Ao s.offs.length co, .int .i64 s.err, .slice Ab s.baths.length cb] 25) = V at *
  refine (Thin_law s Ao Ab co cb rA rc V (hs.go hb1) hol hbl).mono ?_
  rintro e V1 ⟨⟨x, rfl, hx⟩, hV1⟩
  have B1 := ex_trans hb1 hV1
  cases x
  · go_wp2
    go_ret
    exact ⟨⟨_, rfl, Lib.hid (fun h => by cases h)⟩, B1⟩
  have HT := Lib.hid (hx.out rfl)
  clear hx
  have q2 := q1.below hV1 q1.lt
  have l2 := q2.lt
  have a0 : V1.cell? ⟨w.heap.size, 0, none⟩ = some (.slice Ao s.offs.length co) := q2.cell 0
  have a1 : V1.cell? ⟨w.heap.size, 1, none⟩ = some (.int .i64 s.err) := q2.cell 1
  have a2 : V1.cell? ⟨w.heap.size, 2, none⟩ = some (.slice Ab s.baths.length cb) := q2.cell 2
  go_wp2_with fail
  refine (fault_law s Ao Ab co cb rA rc V1 ((hs.below B1).up B1.size) HT.out.sm).mono ?_
  rintro e V2 ⟨rfl, hV2⟩
  have B2 := ex_trans B1 hV2
  by_cases h0 : ckSe s = 0
  · have HOK := Lib.hid (seOk_iff.1 h0)
    rw [h0]
    go_wp2
    go_ret
    exact ⟨⟨_, rfl, Lib.hid (fun _ => ⟨HT.out, HOK.out⟩)⟩, B2⟩
  · have e1 : (ckSe s == 0) = false := by simp [h0]
    generalize ckSe s = ck at *
    go_wp2
    go_ret
    exact ⟨⟨_, rfl, Lib.hid (fun h => by cases h)⟩, B2⟩

set_option maxRecDepth 100000 in
theorem run_sliceLH (g off n c a : Nat) (ha : a + 1 ≤ n) (hn : n ≤ c) (w : World) : (Instr.sliceAt 49 (.slice (some ⟨g, off, none⟩) n c) (some (.int .i64 (a : Int))) (some (.int .i64 ((a : Int) + 1))) none).run Try.prog w = .ok (.slice (some ⟨g, off + a * 2, none⟩) 1 (c - a)) w := by
  have h1 : (a : Int) ≤ (a : Int) + 1 := by omega
  have h2 : (a : Int) + 1 ≤ (c : Int) := by omega
  have h3 : ¬ c = a := by omega
  have h4 : (0 : Int) ≤ (a : Int) := by omega
  have h5 : (0 : Int) ≤ (a : Int) + 1 := by omega
  have h6 : ((a : Int) + 1).toNat = a + 1 := by omega
  have h7 : a + 1 - a = 1 := by omega
  simp [Instr.sliceAt, Instr.slice, go_sem, run_underlying Try.underlying49, h1, h2, h3, h4, h5, h6, h7]
set_option maxRecDepth 100000 in
theorem wpList_sliceLH {ops : Array Oper} {rest : List Oper} {o : Oper} {a : Act} {Q : Exit → Act → World → Prop} (w : World) (hg : o.guard = none) (x y z : Operand) (hop : o.op = Op.slice 49 x (some y) (some z) none)
    (g off n c i : Nat) (ha : i + 1 ≤ n) (hn : n ≤ c) (hx : a.eval x = .slice (some ⟨g, off, none⟩) n c) (hy : a.eval y = .int .i64 (i : Int)) (hz : a.eval z = .int .i64 ((i : Int) + 1))
    (hK : wpList Try.prog ops Q rest (a.put o.dst (.slice (some ⟨g, off + i * 2, none⟩) 1 (c - i))) w) : wpList Try.prog ops Q (o :: rest) a w := by
  refine wpList_plain hg fun K hK' => ?_
  have hrun := run_sliceLH g off n c i ha hn w
  unfold Oper.wp
  simp only [execOp, hop, Option.map_some, Option.map_none, hx, hy, hz, Sem.run_bind, hrun, Result.andThen_ok, Sem.run_pure]
  exact hK' _ _ hK
theorem wo_thn {s : Se} {l : List (Nat × Nat)} (h : Thn s) : Thn (woS s l) := ⟨h.no, by rw [woS_len]; exact h.nb, fun b hb => by
  rw [woS_len] at hb
  rw [woS_at hb]
  exact Nat.le_trans keepTo_len (h.nr b hb)⟩
/-- a series with another error. -/
def errS (s : Se) (e : Int) : Se := ⟨s.offs, e, s.baths⟩
theorem errS_ok {s : Se} {e : Int} (hok : SeOk s) (he : 0 ≤ e ∧ e ≤ 20) : SeOk (errS s e) := ⟨hok.no, hok.nb, he, hok.offs, hok.heats, hok.inst, hok.once, hok.val⟩
theorem placeL_err {s : Se} {e : Int} : placeL (errS s e) = placeL s := by
  have h : ∀ k, placeB (errS s e) k = placeB s k := fun k => by
    induction k with
    | zero => rfl
    | succ k ih => rw [placeB, placeB, ih]; rfl
  exact h _
theorem errS_tru {s : Se} {e : Int} {o h : Nat → Int} (he : s.err ≤ e) (ht : Tru s (fun _ => false) o h) : Tru (errS s e) (fun _ => false) o h :=
  Tru.of_reads ht.offs ht.heats (fun b hb i hi => by
    have := ht.read (fun _ => rfl) hb hi
    show (gRd (gBt s.baths b).reads i).val - e ≤ h b + o (gRd (gBt s.baths b).reads i).inst.toNat ∧ h b + o (gRd (gBt s.baths b).reads i).inst.toNat ≤ (gRd (gBt s.baths b).reads i).val + e
    omega)
theorem woS_tru_of {s : Se} {l : List (Nat × Nat)} {o h : Nat → Int} (ht : Tru s (fun _ => false) o h) : Tru (woS s l) (fun _ => false) o h := woS_tru.2 ⟨ht.offs, ht.heats, fun b hb i hi _ => ht.read (fun _ => rfl) hb hi⟩
theorem ends_wide {Z Y : Int → Prop} {a b c d : Int} (h : EndsOf Z a b) (k : EndsOf Y c d) (hz : ∀ z, Z z → Y z) : c ≤ a ∧ b ≤ d := ⟨(k.2.2 a (hz a h.1)).1, (k.2.2 b (hz b h.2.1)).2⟩
theorem wid_of {Z Y : Nat → Int → Prop} {l m : List Rg} {n : Nat} (hl : l.length = n) (hm : m.length = n) (h1 : ∀ k, k < n → EndsOf (Z k) (gR l k).lo (gR l k).hi) (h2 : ∀ k, k < n → EndsOf (Y k) (gR m k).lo (gR m k).hi) (hz : ∀ k, k < n → ∀ z, Z k z → Y k z) : widB l m = true :=
  decide_eq_true ⟨hl.trans hm.symm, fun k hk => ends_wide (h1 k (by omega)) (h2 k (by omega)) (hz k (by omega))⟩
theorem rng_ok {s : Se} {n : Nat} {Z : Nat → Int → Prop} {l : List Rg} {ev : Int} (h : RngV s n Z l ev) (hok : SeOk s) : (¬ Can s ∧ ev = 9 ∧ l = []) ∨ (Can s ∧ ev = 0 ∧ l.length = n ∧ ∀ k, k < n → EndsOf (Z k) (gR l k).lo (gR l k).hi) := by
  rcases h with ⟨h1, _⟩ | ⟨_, h2, h3, h4⟩ | ⟨_, h2, h3, h4, h5⟩
  · exact absurd (seOk_iff.2 hok) h1
  · exact .inl ⟨h2, h3, h4⟩
  · exact .inr ⟨h2, h3, h4, h5⟩

set_option maxRecDepth 100000 in
set_option maxHeartbeats 12800000 in
theorem MoreLaw_any (s : Se) (Ao Ab : Option Addr) (co cb : Nat) (rA : Nat → Option Addr) (rc : Nat → Nat) (w : World) (hs : SeIn w w.heap.size s Ao Ab rA rc) (hol : s.offs.length ≤ maxLen) (hbl : s.baths.length ≤ maxLen) (wh by' : Int) (hw8 : 0 ≤ wh ∧ wh ≤ 255) (hb8 : 0 ≤ by' ∧ by' ≤ 255) :
    Calls Try.prog 8 #[.agg #[.slice Ao s.offs.length co, .int .i64 s.err, .slice Ab s.baths.length cb], .int .u8 wh, .int .u8 by'] w fun e w' => e = .returned (.bool true) ∧ Below w.heap.size w w' := by
  have B_V := ex_alloc (Below.refl w.heap.size w) (.cells #[.slice Ao s.offs.length co, .int .i64 s.err, .slice Ab s.baths.length cb] 25)
  have q0 : Blk (w.alloc (.cells #[.slice Ao s.offs.length co, .int .i64 s.err, .slice Ab s.baths.length cb] 25)) w.heap.size 25 #[.slice Ao s.offs.length co, .int .i64 s.err, .slice Ab s.baths.length cb] := Blk.new _ _ _
  have hm : maxLen = 9223372036854775807 := rfl
  go_enter Try.func8, Try.ntmps8
  go_wp2_with fail
  generalize w.alloc (.cells #[.slice Ao s.offs.length co, .int .i64 s.err, .slice Ab s.baths.length cb] 25) = V at *
  have q0_0 : V.cell? ⟨w.heap.size, 0, none⟩ = some (.slice Ao s.offs.length co) := q0.cell 0
  have q0_1 : V.cell? ⟨w.heap.size, 1, none⟩ = some (.int .i64 s.err) := q0.cell 1
  have q0_2 : V.cell? ⟨w.heap.size, 2, none⟩ = some (.slice Ab s.baths.length cb) := q0.cell 2
  have q0_l := q0.lt
  have hby : 0 ≤ by' ∧ by' ≤ 255 := hb8
  have hwh : 0 ≤ wh ∧ wh ≤ 255 := hw8
  refine (ready_law s Ao Ab co cb rA rc V ((hs.below B_V).up B_V.size) hol hbl).mono ?_
  rintro e W1 ⟨⟨x, rfl, hx⟩, hW1⟩
  replace q0 := q0.below hW1 q0.lt
  have B_W1 := ex_trans B_V hW1
  clear q0_0 q0_1 q0_2 q0_l
  have q0_0 : W1.cell? ⟨w.heap.size, 0, none⟩ = some (.slice Ao s.offs.length co) := q0.cell 0
  have q0_1 : W1.cell? ⟨w.heap.size, 1, none⟩ = some (.int .i64 s.err) := q0.cell 1
  have q0_2 : W1.cell? ⟨w.heap.size, 2, none⟩ = some (.slice Ab s.baths.length cb) := q0.cell 2
  have q0_l := q0.lt
  cases x
  · go_wp2_with fail
    refine (wakes_any _).mono ?_
    rintro e Wz ⟨rfl, hz⟩
    go_wp2
    go_ret
    exact ⟨rfl, ex_trans B_W1 hz⟩
  have HT := Lib.hid (hx.out rfl).1
  have HOK := Lib.hid (hx.out rfl).2
  clear hx
  have hno := HT.out.no
  have hnb := HT.out.nb
  go_wp2_with fail
  clear q0_0 q0_1 q0_2 q0_l
  have HQ0 := q0.lt
  have N_W2 := ex_alloc (Below.refl W1.heap.size W1) (.cells #[.slice Ao s.offs.length co, .int .i64 s.err, .slice Ab s.baths.length cb] 25)
  have q7 : Blk (W1.alloc (.cells #[.slice Ao s.offs.length co, .int .i64 s.err, .slice Ab s.baths.length cb] 25)) W1.heap.size 25 #[.slice Ao s.offs.length co, .int .i64 s.err, .slice Ab s.baths.length cb] := Blk.new _ _ _
  replace q0 := q0.below N_W2 q0.lt
  have B_W2 := ex_trans B_W1 N_W2
  clear N_W2
  generalize W1.alloc (.cells #[.slice Ao s.offs.length co, .int .i64 s.err, .slice Ab s.baths.length cb] 25) = W2 at *
  obtain ⟨p7, hp7⟩ : ∃ p7, W1.heap.size = p7 := ⟨_, rfl⟩
  have hp70 : w.heap.size < p7 := by have := B_W1.size; have := q0.lt; have := q7.lt; rw [← hp7]; have := (show w.heap.size < W1.heap.size from by have := B_W1.size; exact HQ0); omega
  rw [hp7] at q7 ⊢
  clear hp7
  have q0_0 : W2.cell? ⟨w.heap.size, 0, none⟩ = some (.slice Ao s.offs.length co) := q0.cell 0
  have q0_1 : W2.cell? ⟨w.heap.size, 1, none⟩ = some (.int .i64 s.err) := q0.cell 1
  have q0_2 : W2.cell? ⟨w.heap.size, 2, none⟩ = some (.slice Ab s.baths.length cb) := q0.cell 2
  have q0_l := q0.lt
  refine (places_cap s Ao Ab co cb rA rc W2 ((hs.below B_W2).up B_W2.size) HT.out).mono ?_
  rintro e W3 ⟨⟨A3, c3, rfl, hcap, sP⟩, hW3⟩
  replace q0 := q0.below hW3 q0.lt
  replace q7 := q7.below hW3 q7.lt
  have B_W3 := ex_trans B_W2 hW3
  clear q0_0 q0_1 q0_2 q0_l
  have q0_0 : W3.cell? ⟨w.heap.size, 0, none⟩ = some (.slice Ao s.offs.length co) := q0.cell 0
  have q0_1 : W3.cell? ⟨w.heap.size, 1, none⟩ = some (.int .i64 s.err) := q0.cell 1
  have q0_2 : W3.cell? ⟨w.heap.size, 2, none⟩ = some (.slice Ab s.baths.length cb) := q0.cell 2
  have q0_l := q0.lt
  by_cases hp0 : (placeL s).length = 0
  · have d1 : decide ((0 : Int) < ((placeL s).length : Int)) = false := decide_eq_false (by omega)
    have d2 : decide (0 < (placeL s).length) = false := decide_eq_false (by omega)
    obtain ⟨en, hen⟩ : ∃ en, min 20 (s.err + by' % 4) = en := ⟨_, rfl⟩
    have henb : s.err ≤ en ∧ 0 ≤ en ∧ en ≤ 20 := by have := HOK.out.err; omega
    have HEN := Lib.hid hen
    have z1 : W3.cell? ⟨p7, 1, none⟩ = some (.int .i64 s.err) := q7.cell 1
    have zl := q7.lt
    have zf := q7.frozen0
    have t1 : IntKind.i64.wrap (by'.tmod 4) = by' % 4 := by rw [Int.tmod_eq_emod_of_nonneg (by omega)]; exact IntWalk.i64_in _ (by omega)
    have t0 : by'.tmod 4 = by' % 4 := Int.tmod_eq_emod_of_nonneg (by omega)
    have her := HOK.out.err
    have t2 : IntKind.i64.wrap (s.err + by' % 4) = s.err + by' % 4 := IntWalk.i64_in _ (by omega)
    go_wp2_with (refine pause_at 49 rfl ?_)
    refine Paused.mk ?_
    clear hen t0 t1 t2
    have B_S := ex_set B_W3 (p := ⟨p7, 1, none⟩) (by show w.heap.size ≤ p7; omega) (.int .i64 en)
    have q7s := q7.set_ 1 (.int .i64 en)
    simp only [List.setIfInBounds_toArray, List.set_cons_zero, List.set_cons_succ] at q7s
    have q0s := q0.far (p := ⟨p7, 1, none⟩) (by show w.heap.size ≠ p7; omega) (.int .i64 en)
    have hsxs : SeIn (W3.setCell ⟨p7, 1, none⟩ (.int .i64 en)) (W3.setCell ⟨p7, 1, none⟩ (.int .i64 en)).heap.size (errS s en) Ao Ab rA rc := by have := (hs.below B_S).up B_S.size; exact ⟨this.offs, this.baths, this.reads⟩
    clear q0_0 q0_1 q0_2 q0_l
    clear z1 zl zf q7 q0
    generalize W3.setCell ⟨p7, 1, none⟩ (.int .i64 en) = WS at *
    have q0 := q0s
    have q7 := q7s
    clear q0s q7s
    have q0_0 : WS.cell? ⟨w.heap.size, 0, none⟩ = some (.slice Ao s.offs.length co) := q0.cell 0
    have q0_1 : WS.cell? ⟨w.heap.size, 1, none⟩ = some (.int .i64 s.err) := q0.cell 1
    have q0_2 : WS.cell? ⟨w.heap.size, 2, none⟩ = some (.slice Ab s.baths.length cb) := q0.cell 2
    have q0_l := q0.lt
    have q7_0 : WS.cell? ⟨p7, 0, none⟩ = some (.slice Ao s.offs.length co) := q7.cell 0
    have q7_1 : WS.cell? ⟨p7, 1, none⟩ = some (.int .i64 en) := q7.cell 1
    have q7_2 : WS.cell? ⟨p7, 2, none⟩ = some (.slice Ab s.baths.length cb) := q7.cell 2
    have q7_l := q7.lt
    have HTX : Hid (Thn (errS (s) en)) := Lib.hid (⟨HT.out.no, HT.out.nb, HT.out.nr⟩)
    have HOX : Hid (SeOk (errS (s) en)) := Lib.hid (errS_ok (HOK.out) henb.2)
    have HTR : Hid (∀ o h, Tru s (fun _ => false) o h → Tru (errS (s) en) (fun _ => false) o h) := Lib.hid (fun o h ht => errS_tru henb.1 (ht))
    go_wp2_with fail
    refine (Series_law s Ao Ab co cb rA rc WS ((hs.below B_S).up B_S.size) HT.out).mono ?_
    rintro e W10 ⟨⟨Ao1, Ab1, co1, cb1, rA1, rc1, rfl, hs1⟩, hW10⟩
    replace q0 := q0.below hW10 q0.lt
    replace q7 := q7.below hW10 q7.lt
    replace hsxs := hsxs.go hW10
    have B_W10 := ex_trans B_S hW10
    clear q0_0 q0_1 q0_2 q0_l q7_0 q7_1 q7_2 q7_l
    have q0_0 : W10.cell? ⟨w.heap.size, 0, none⟩ = some (.slice Ao s.offs.length co) := q0.cell 0
    have q0_1 : W10.cell? ⟨w.heap.size, 1, none⟩ = some (.int .i64 s.err) := q0.cell 1
    have q0_2 : W10.cell? ⟨w.heap.size, 2, none⟩ = some (.slice Ab s.baths.length cb) := q0.cell 2
    have q0_l := q0.lt
    have q7_0 : W10.cell? ⟨p7, 0, none⟩ = some (.slice Ao s.offs.length co) := q7.cell 0
    have q7_1 : W10.cell? ⟨p7, 1, none⟩ = some (.int .i64 en) := q7.cell 1
    have q7_2 : W10.cell? ⟨p7, 2, none⟩ = some (.slice Ab s.baths.length cb) := q7.cell 2
    have q7_l := q7.lt
    go_wp2_with fail
    refine (Offsets_any s Ao1 Ab1 co1 cb1 rA1 rc1 W10 hs1 HT.out.sm).mono ?_
    rintro e W11 ⟨⟨Aa, ca, la, ea, rfl, ha, sa⟩, hW11⟩
    replace q0 := q0.below hW11 q0.lt
    replace q7 := q7.below hW11 q7.lt
    replace hsxs := hsxs.go hW11
    replace hs1 := hs1.go hW11
    have B_W11 := ex_trans B_W10 hW11
    clear q0_0 q0_1 q0_2 q0_l q7_0 q7_1 q7_2 q7_l
    have q0_0 : W11.cell? ⟨w.heap.size, 0, none⟩ = some (.slice Ao s.offs.length co) := q0.cell 0
    have q0_1 : W11.cell? ⟨w.heap.size, 1, none⟩ = some (.int .i64 s.err) := q0.cell 1
    have q0_2 : W11.cell? ⟨w.heap.size, 2, none⟩ = some (.slice Ab s.baths.length cb) := q0.cell 2
    have q0_l := q0.lt
    have q7_0 : W11.cell? ⟨p7, 0, none⟩ = some (.slice Ao s.offs.length co) := q7.cell 0
    have q7_1 : W11.cell? ⟨p7, 1, none⟩ = some (.int .i64 en) := q7.cell 1
    have q7_2 : W11.cell? ⟨p7, 2, none⟩ = some (.slice Ab s.baths.length cb) := q7.cell 2
    have q7_l := q7.lt
    clear hs1
    go_wp2_with fail
    have hcx := Series_law (errS (s) en) Ao Ab co cb rA rc W11 hsxs HTX.out
    rw [show (errS (s) en).baths.length = s.baths.length from rfl] at hcx
    rw [show (errS (s) en).offs.length = s.offs.length from rfl] at hcx
    rw [show (errS (s) en).err = en from rfl] at hcx
    refine (hcx).mono ?_
    rintro e W12 ⟨⟨Ao2, Ab2, co2, cb2, rA2, rc2, rfl, hs2⟩, hW12⟩
    replace q0 := q0.below hW12 q0.lt
    replace q7 := q7.below hW12 q7.lt
    replace hsxs := hsxs.go hW12
    replace sa := (sa.below hW12).up hW12.size
    have B_W12 := ex_trans B_W11 hW12
    clear hcx
    clear q0_0 q0_1 q0_2 q0_l q7_0 q7_1 q7_2 q7_l
    have q0_0 : W12.cell? ⟨w.heap.size, 0, none⟩ = some (.slice Ao s.offs.length co) := q0.cell 0
    have q0_1 : W12.cell? ⟨w.heap.size, 1, none⟩ = some (.int .i64 s.err) := q0.cell 1
    have q0_2 : W12.cell? ⟨w.heap.size, 2, none⟩ = some (.slice Ab s.baths.length cb) := q0.cell 2
    have q0_l := q0.lt
    have q7_0 : W12.cell? ⟨p7, 0, none⟩ = some (.slice Ao s.offs.length co) := q7.cell 0
    have q7_1 : W12.cell? ⟨p7, 1, none⟩ = some (.int .i64 en) := q7.cell 1
    have q7_2 : W12.cell? ⟨p7, 2, none⟩ = some (.slice Ab s.baths.length cb) := q7.cell 2
    have q7_l := q7.lt
    go_wp2_with fail
    have hcx := Offsets_any (errS (s) en) Ao2 Ab2 co2 cb2 rA2 rc2 W12 hs2 HTX.out.sm
    rw [show (errS (s) en).baths.length = s.baths.length from rfl] at hcx
    rw [show (errS (s) en).offs.length = s.offs.length from rfl] at hcx
    rw [show (errS (s) en).err = en from rfl] at hcx
    refine (hcx).mono ?_
    rintro e W13 ⟨⟨Ab_, cb_, lb, eb, rfl, hb, sb⟩, hW13⟩
    replace q0 := q0.below hW13 q0.lt
    replace q7 := q7.below hW13 q7.lt
    replace hsxs := hsxs.go hW13
    replace sa := (sa.below hW13).up hW13.size
    replace hs2 := hs2.go hW13
    have B_W13 := ex_trans B_W12 hW13
    clear hcx
    clear q0_0 q0_1 q0_2 q0_l q7_0 q7_1 q7_2 q7_l
    have q0_0 : W13.cell? ⟨w.heap.size, 0, none⟩ = some (.slice Ao s.offs.length co) := q0.cell 0
    have q0_1 : W13.cell? ⟨w.heap.size, 1, none⟩ = some (.int .i64 s.err) := q0.cell 1
    have q0_2 : W13.cell? ⟨w.heap.size, 2, none⟩ = some (.slice Ab s.baths.length cb) := q0.cell 2
    have q0_l := q0.lt
    have q7_0 : W13.cell? ⟨p7, 0, none⟩ = some (.slice Ao s.offs.length co) := q7.cell 0
    have q7_1 : W13.cell? ⟨p7, 1, none⟩ = some (.int .i64 en) := q7.cell 1
    have q7_2 : W13.cell? ⟨p7, 2, none⟩ = some (.slice Ab s.baths.length cb) := q7.cell 2
    have q7_l := q7.lt
    clear hs2
    go_wp2_with fail
    refine (Series_law s Ao Ab co cb rA rc W13 ((hs.below B_W13).up B_W13.size) HT.out).mono ?_
    rintro e W14 ⟨⟨Ao3, Ab3, co3, cb3, rA3, rc3, rfl, hs3⟩, hW14⟩
    replace q0 := q0.below hW14 q0.lt
    replace q7 := q7.below hW14 q7.lt
    replace hsxs := hsxs.go hW14
    replace sa := (sa.below hW14).up hW14.size
    replace sb := (sb.below hW14).up hW14.size
    have B_W14 := ex_trans B_W13 hW14
    clear q0_0 q0_1 q0_2 q0_l q7_0 q7_1 q7_2 q7_l
    have q0_0 : W14.cell? ⟨w.heap.size, 0, none⟩ = some (.slice Ao s.offs.length co) := q0.cell 0
    have q0_1 : W14.cell? ⟨w.heap.size, 1, none⟩ = some (.int .i64 s.err) := q0.cell 1
    have q0_2 : W14.cell? ⟨w.heap.size, 2, none⟩ = some (.slice Ab s.baths.length cb) := q0.cell 2
    have q0_l := q0.lt
    have q7_0 : W14.cell? ⟨p7, 0, none⟩ = some (.slice Ao s.offs.length co) := q7.cell 0
    have q7_1 : W14.cell? ⟨p7, 1, none⟩ = some (.int .i64 en) := q7.cell 1
    have q7_2 : W14.cell? ⟨p7, 2, none⟩ = some (.slice Ab s.baths.length cb) := q7.cell 2
    have q7_l := q7.lt
    go_wp2_with fail
    refine (Heats_any s Ao3 Ab3 co3 cb3 rA3 rc3 W14 hs3 HT.out.sm).mono ?_
    rintro e W15 ⟨⟨Ac, cc, lc, ec, rfl, hc, sc⟩, hW15⟩
    replace q0 := q0.below hW15 q0.lt
    replace q7 := q7.below hW15 q7.lt
    replace hsxs := hsxs.go hW15
    replace sa := (sa.below hW15).up hW15.size
    replace sb := (sb.below hW15).up hW15.size
    replace hs3 := hs3.go hW15
    have B_W15 := ex_trans B_W14 hW15
    clear q0_0 q0_1 q0_2 q0_l q7_0 q7_1 q7_2 q7_l
    have q0_0 : W15.cell? ⟨w.heap.size, 0, none⟩ = some (.slice Ao s.offs.length co) := q0.cell 0
    have q0_1 : W15.cell? ⟨w.heap.size, 1, none⟩ = some (.int .i64 s.err) := q0.cell 1
    have q0_2 : W15.cell? ⟨w.heap.size, 2, none⟩ = some (.slice Ab s.baths.length cb) := q0.cell 2
    have q0_l := q0.lt
    have q7_0 : W15.cell? ⟨p7, 0, none⟩ = some (.slice Ao s.offs.length co) := q7.cell 0
    have q7_1 : W15.cell? ⟨p7, 1, none⟩ = some (.int .i64 en) := q7.cell 1
    have q7_2 : W15.cell? ⟨p7, 2, none⟩ = some (.slice Ab s.baths.length cb) := q7.cell 2
    have q7_l := q7.lt
    clear hs3
    go_wp2_with fail
    have hcx := Series_law (errS (s) en) Ao Ab co cb rA rc W15 hsxs HTX.out
    rw [show (errS (s) en).baths.length = s.baths.length from rfl] at hcx
    rw [show (errS (s) en).offs.length = s.offs.length from rfl] at hcx
    rw [show (errS (s) en).err = en from rfl] at hcx
    refine (hcx).mono ?_
    rintro e W16 ⟨⟨Ao4, Ab4, co4, cb4, rA4, rc4, rfl, hs4⟩, hW16⟩
    replace q0 := q0.below hW16 q0.lt
    replace q7 := q7.below hW16 q7.lt
    replace hsxs := hsxs.go hW16
    replace sa := (sa.below hW16).up hW16.size
    replace sb := (sb.below hW16).up hW16.size
    replace sc := (sc.below hW16).up hW16.size
    have B_W16 := ex_trans B_W15 hW16
    clear hcx
    clear q0_0 q0_1 q0_2 q0_l q7_0 q7_1 q7_2 q7_l
    have q0_0 : W16.cell? ⟨w.heap.size, 0, none⟩ = some (.slice Ao s.offs.length co) := q0.cell 0
    have q0_1 : W16.cell? ⟨w.heap.size, 1, none⟩ = some (.int .i64 s.err) := q0.cell 1
    have q0_2 : W16.cell? ⟨w.heap.size, 2, none⟩ = some (.slice Ab s.baths.length cb) := q0.cell 2
    have q0_l := q0.lt
    have q7_0 : W16.cell? ⟨p7, 0, none⟩ = some (.slice Ao s.offs.length co) := q7.cell 0
    have q7_1 : W16.cell? ⟨p7, 1, none⟩ = some (.int .i64 en) := q7.cell 1
    have q7_2 : W16.cell? ⟨p7, 2, none⟩ = some (.slice Ab s.baths.length cb) := q7.cell 2
    have q7_l := q7.lt
    go_wp2_with fail
    have hcx := Heats_any (errS (s) en) Ao4 Ab4 co4 cb4 rA4 rc4 W16 hs4 HTX.out.sm
    rw [show (errS (s) en).baths.length = s.baths.length from rfl] at hcx
    rw [show (errS (s) en).offs.length = s.offs.length from rfl] at hcx
    rw [show (errS (s) en).err = en from rfl] at hcx
    refine (hcx).mono ?_
    rintro e W17 ⟨⟨Ad, cd, ld, ed, rfl, hd, sd⟩, hW17⟩
    replace q0 := q0.below hW17 q0.lt
    replace q7 := q7.below hW17 q7.lt
    replace hsxs := hsxs.go hW17
    replace sa := (sa.below hW17).up hW17.size
    replace sb := (sb.below hW17).up hW17.size
    replace sc := (sc.below hW17).up hW17.size
    replace hs4 := hs4.go hW17
    have B_W17 := ex_trans B_W16 hW17
    clear hcx
    clear q0_0 q0_1 q0_2 q0_l q7_0 q7_1 q7_2 q7_l
    have q0_0 : W17.cell? ⟨w.heap.size, 0, none⟩ = some (.slice Ao s.offs.length co) := q0.cell 0
    have q0_1 : W17.cell? ⟨w.heap.size, 1, none⟩ = some (.int .i64 s.err) := q0.cell 1
    have q0_2 : W17.cell? ⟨w.heap.size, 2, none⟩ = some (.slice Ab s.baths.length cb) := q0.cell 2
    have q0_l := q0.lt
    have q7_0 : W17.cell? ⟨p7, 0, none⟩ = some (.slice Ao s.offs.length co) := q7.cell 0
    have q7_1 : W17.cell? ⟨p7, 1, none⟩ = some (.int .i64 en) := q7.cell 1
    have q7_2 : W17.cell? ⟨p7, 2, none⟩ = some (.slice Ab s.baths.length cb) := q7.cell 2
    have q7_l := q7.lt
    clear hs4
    rcases rng_ok ha.out HOK.out with ⟨nc, rfl, rfl⟩ | ⟨hcan, rfl, hla, hae⟩
    · obtain ⟨rfl, rfl⟩ : ec = 9 ∧ lc = [] := by
        rcases rng_ok hc.out HOK.out with ⟨_, h1, h2⟩ | ⟨h, _⟩
        · exact ⟨h1, h2⟩
        · exact absurd h nc
      have HED : Hid (eb = ed ∧ (eb = 0 ∨ eb = 9)) := Lib.hid (by
        rcases rng_ok hb.out HOX.out with ⟨h, h1, _⟩ | ⟨h, h1, _⟩ <;> rcases rng_ok hd.out HOX.out with ⟨k, k1, _⟩ | ⟨k, k1, _⟩
        · exact ⟨by omega, by omega⟩
        · exact absurd k h
        · exact absurd h k
        · exact ⟨by omega, by omega⟩)
      obtain rfl : eb = ed := HED.out.1
      clear ha hb hc hd nc
      rcases HED.out.2 with h | h
      · subst h
        clear HED
        go_wp2_with fail
        refine (wakes_any _).mono ?_
        rintro e Wz ⟨rfl, hz⟩
        go_wp2
        go_ret
        exact ⟨rfl, ex_trans B_W17 hz⟩
      · subst h
        clear HED
        go_wp2_with fail
        refine (wakes_any _).mono ?_
        rintro e Wz ⟨rfl, hz⟩
        go_wp2
        go_ret
        exact ⟨rfl, ex_trans B_W17 hz⟩
    obtain ⟨rfl, hlc, hce⟩ : ec = 0 ∧ lc.length = s.baths.length ∧ ∀ k, k < s.baths.length → EndsOf (HeatZ s k) (gR lc k).lo (gR lc k).hi := by
      rcases rng_ok hc.out HOK.out with ⟨h, _⟩ | ⟨_, h1, h2, h3⟩
      · exact absurd hcan h
      · exact ⟨h1, h2, h3⟩
    have HCX : Hid (Can (errS (s) en)) := Lib.hid (by obtain ⟨o, h, ht⟩ := hcan; exact ⟨o, h, HTR.out o h ht⟩)
    obtain ⟨rfl, hlb, hbe⟩ : eb = 0 ∧ lb.length = s.offs.length ∧ ∀ k, k < s.offs.length → EndsOf (OffZ (errS (s) en) k) (gR lb k).lo (gR lb k).hi := by
      rcases rng_ok hb.out HOX.out with ⟨h, _⟩ | ⟨_, h1, h2, h3⟩
      · exact absurd HCX.out h
      · exact ⟨h1, h2, h3⟩
    obtain ⟨rfl, hld, hde⟩ : ed = 0 ∧ ld.length = s.baths.length ∧ ∀ k, k < s.baths.length → EndsOf (HeatZ (errS (s) en) k) (gR ld k).lo (gR ld k).hi := by
      rcases rng_ok hd.out HOX.out with ⟨h, _⟩ | ⟨_, h1, h2, h3⟩
      · exact absurd HCX.out h
      · exact ⟨h1, h2, h3⟩
    have HW1 : Hid (widB la lb = true) := Lib.hid (wid_of hla hlb hae hbe (fun k hk z ⟨o, h, ht, e⟩ => ⟨o, h, HTR.out o h ht, e⟩))
    have HW2 : Hid (widB lc ld = true) := Lib.hid (wid_of hlc hld hce hde (fun k hk z ⟨o, h, ht, e⟩ => ⟨o, h, HTR.out o h ht, e⟩))
    have b1 : la.length ≤ 1000000 := by omega
    have b2 : lb.length ≤ 1000000 := by omega
    have b3 : lc.length ≤ 1000000 := by omega
    have b4 : ld.length ≤ 1000000 := by omega
    clear ha hb hc hd hla hlb hlc hld hae hbe hce hde hcan
    go_wp2_with fail
    refine (wider_law Aa Ab_ ca cb_ la lb W17 b1 sa sb b2).mono ?_
    rintro e W18 ⟨rfl, hW18⟩
    replace q0 := q0.below hW18 q0.lt
    replace q7 := q7.below hW18 q7.lt
    replace hsxs := hsxs.go hW18
    replace sa := (sa.below hW18).up hW18.size
    replace sb := (sb.below hW18).up hW18.size
    replace sc := (sc.below hW18).up hW18.size
    replace sd := (sd.below hW18).up hW18.size
    have B_W18 := ex_trans B_W17 hW18
    clear q0_0 q0_1 q0_2 q0_l q7_0 q7_1 q7_2 q7_l
    have q0_0 : W18.cell? ⟨w.heap.size, 0, none⟩ = some (.slice Ao s.offs.length co) := q0.cell 0
    have q0_1 : W18.cell? ⟨w.heap.size, 1, none⟩ = some (.int .i64 s.err) := q0.cell 1
    have q0_2 : W18.cell? ⟨w.heap.size, 2, none⟩ = some (.slice Ab s.baths.length cb) := q0.cell 2
    have q0_l := q0.lt
    have q7_0 : W18.cell? ⟨p7, 0, none⟩ = some (.slice Ao s.offs.length co) := q7.cell 0
    have q7_1 : W18.cell? ⟨p7, 1, none⟩ = some (.int .i64 en) := q7.cell 1
    have q7_2 : W18.cell? ⟨p7, 2, none⟩ = some (.slice Ab s.baths.length cb) := q7.cell 2
    have q7_l := q7.lt
    rw [HW1.out]
    go_wp2_with fail
    refine (wider_law Ac Ad cc cd lc ld W18 b3 sc sd b4).mono ?_
    rintro e W19 ⟨rfl, hW19⟩
    replace q0 := q0.below hW19 q0.lt
    replace q7 := q7.below hW19 q7.lt
    replace hsxs := hsxs.go hW19
    replace sa := (sa.below hW19).up hW19.size
    replace sb := (sb.below hW19).up hW19.size
    replace sc := (sc.below hW19).up hW19.size
    replace sd := (sd.below hW19).up hW19.size
    have B_W19 := ex_trans B_W18 hW19
    clear q0_0 q0_1 q0_2 q0_l q7_0 q7_1 q7_2 q7_l
    have q0_0 : W19.cell? ⟨w.heap.size, 0, none⟩ = some (.slice Ao s.offs.length co) := q0.cell 0
    have q0_1 : W19.cell? ⟨w.heap.size, 1, none⟩ = some (.int .i64 s.err) := q0.cell 1
    have q0_2 : W19.cell? ⟨w.heap.size, 2, none⟩ = some (.slice Ab s.baths.length cb) := q0.cell 2
    have q0_l := q0.lt
    have q7_0 : W19.cell? ⟨p7, 0, none⟩ = some (.slice Ao s.offs.length co) := q7.cell 0
    have q7_1 : W19.cell? ⟨p7, 1, none⟩ = some (.int .i64 en) := q7.cell 1
    have q7_2 : W19.cell? ⟨p7, 2, none⟩ = some (.slice Ab s.baths.length cb) := q7.cell 2
    have q7_l := q7.lt
    rw [HW2.out]
    go_wp2_with fail
    refine (wakes_any _).mono ?_
    rintro e Wz ⟨rfl, hz⟩
    go_wp2
    go_ret
    exact ⟨rfl, ex_trans B_W19 hz⟩
  have d1 : decide ((0 : Int) < ((placeL s).length : Int)) = true := decide_eq_true (by omega)
  have d2 : decide (0 < (placeL s).length) = true := decide_eq_true (by omega)
  have hpl := placeL_len HOK.out
  obtain ⟨n, hn⟩ : ∃ n : Nat, wh.tmod ((placeL s).length : Int) = (n : Int) := ⟨(wh.tmod ((placeL s).length : Int)).toNat, by rw [Int.toNat_of_nonneg (Int.tmod_nonneg _ (by omega))]⟩
  have hnl : n < (placeL s).length := by have := Int.tmod_lt_of_pos wh (b := ((placeL s).length : Int)) (by omega); omega
  have tw : IntKind.i64.wrap (wh.tmod ((placeL s).length : Int)) = (n : Int) := by rw [hn]; exact IntWalk.i64_in _ (by omega)
  have nz : ¬ ((placeL s).length : Int) = 0 := by omega
  have nz2 : (((placeL s).length : Int) == 0) = false := by rw [beq_eq_false_iff_ne]; exact nz
  have HNN := Lib.hid hn
  obtain ⟨bP, oP, rfl, hbP, c0, c1⟩ := IsPls.at_ sP hnl
  generalize hpn : gPl (placeL s) n = pp at c0 c1
  have HPN := Lib.hid hpn
  clear hpn
  have hcap1 := hcap.1
  go_wp2_with fail
  refine wp_region_ext_mix 7 [(false, 0), (false, 1), (false, 2), (false, 3), (false, 4), (true, 5), (true, 6)] (by kernel_rfl) (by kernel_rfl) (by intro d _ _ _ _ h; cases d <;> exact h) ?_
  have hX0 := (Below.refl W3.heap.size W3).drew
  repeat (refine mix_quiet rfl ?_; go_big_quiet_step (fail); refine wpQuiet_nil ?_)
  refine mix_loud rfl ?_
  refine wpList_sliceLH _ rfl _ _ _ rfl bP oP (placeL s).length c3 n (by omega) hcap1 rfl rfl rfl ?_
  refine ⟨inEx hX0, ?_⟩
  refine mix_loud rfl ?_
  go_wp2_with fail
  have hsD := ((hs.below (ex_trans B_W3 hX0)).up (ex_trans B_W3 hX0).size)
  have sP1 : SlAt W3.drew W3.drew.heap.size 2 (some ⟨bP, oP + n * 2, none⟩) [pp].length (fPl [pp]) := fun _ => ⟨bP, oP + n * 2, rfl, hbP, fun i j hi hj => by
    obtain rfl : i = 0 := by simpa using hi
    match j, hj with
    | 0, _ => exact (hX0.cell (p := ⟨bP, oP + n * 2, none⟩) hbP).trans (by simpa [fPl] using c0)
    | 1, _ => exact (hX0.cell (p := ⟨bP, oP + n * 2 + 1, none⟩) hbP).trans (by simpa [fPl] using c1)⟩
  refine (without_own s Ao Ab co cb rA rc W3.drew hsD HT.out [pp] (some ⟨bP, oP + n * 2, none⟩) (c3 - n) (by simp) sP1).mono ?_
  rintro e X1 ⟨⟨Ab', cb', XX, rfl, HXB, hN⟩, hX1⟩
  have hX1' := ex_trans hX0 hX1
  go_wp2_with fail
  refine ⟨inEx hX1', ?_⟩
  refine mix_nil rfl ?_
  have B_5 := ex_trans B_W3 hX1'
  have q05 := q0.below hX1' q0.lt
  have q75 := q7.below hX1' q7.lt
  have y0 : X1.cell? ⟨p7, 0, none⟩ = some (.slice Ao s.offs.length co) := q75.cell 0
  have y1 : X1.cell? ⟨p7, 1, none⟩ = some (.int .i64 s.err) := q75.cell 1
  have y2 : X1.cell? ⟨p7, 2, none⟩ = some (.slice Ab s.baths.length cb) := q75.cell 2
  have yf := q75.frozen0
  have yl := q75.lt
  go_wp2_with (refine pause_at 40 rfl ?_)
  refine Paused.mk ?_
  have hw7 : w.heap.size ≤ p7 := by omega
  have hne7 : w.heap.size ≠ p7 := by omega
  have q76 := ((q75.set_ 0 (.slice Ao s.offs.length co)).set_ 1 (.int .i64 s.err)).set_ 2 (.slice Ab' s.baths.length cb')
  simp only [List.setIfInBounds_toArray, List.set_cons_zero, List.set_cons_succ] at q76
  have q06 := ((q05.far (p := ⟨p7, 0, none⟩) hne7 (.slice Ao s.offs.length co)).far (p := ⟨p7, 1, none⟩) hne7 (.int .i64 s.err)).far (p := ⟨p7, 2, none⟩) hne7 (.slice Ab' s.baths.length cb')
  have B_6 := ex_set (ex_set (ex_set B_5 (p := ⟨p7, 0, none⟩) hw7 (.slice Ao s.offs.length co)) (p := ⟨p7, 1, none⟩) hw7 (.int .i64 s.err)) (p := ⟨p7, 2, none⟩) hw7 (.slice Ab' s.baths.length cb')
  have q7a := q75.set_ 0 (.slice Ao s.offs.length co)
  have q7b := q7a.set_ 1 (.int .i64 s.err)
  have hN6 := ((hN.set q75 (by decide) (by decide) 0 (.slice Ao s.offs.length co)).set q7a (by decide) (by decide) 1 (.int .i64 s.err)).set q7b (by decide) (by decide) 2 (.slice Ab' s.baths.length cb')
  clear q7a q7b hN
  clear q0_0 q0_1 q0_2 q0_l
  clear y0 y1 y2 yf yl q05 q75 q0 q7 sP1 hsD hX1 hX1' hX0 hnl tw nz nz2 hn c0 c1
  generalize ((X1.setCell ⟨p7, 0, none⟩ (.slice Ao s.offs.length co)).setCell ⟨p7, 1, none⟩ (.int .i64 s.err)).setCell ⟨p7, 2, none⟩ (.slice Ab' s.baths.length cb') = W6 at *
  have q0 := q06
  have q7 := q76
  clear q06 q76
  have q0_0 : W6.cell? ⟨w.heap.size, 0, none⟩ = some (.slice Ao s.offs.length co) := q0.cell 0
  have q0_1 : W6.cell? ⟨w.heap.size, 1, none⟩ = some (.int .i64 s.err) := q0.cell 1
  have q0_2 : W6.cell? ⟨w.heap.size, 2, none⟩ = some (.slice Ab s.baths.length cb) := q0.cell 2
  have q0_l := q0.lt
  have q7_0 : W6.cell? ⟨p7, 0, none⟩ = some (.slice Ao s.offs.length co) := q7.cell 0
  have q7_1 : W6.cell? ⟨p7, 1, none⟩ = some (.int .i64 s.err) := q7.cell 1
  have q7_2 : W6.cell? ⟨p7, 2, none⟩ = some (.slice Ab' s.baths.length cb') := q7.cell 2
  have q7_l := q7.lt
  obtain ⟨en, hen⟩ : ∃ en, min 20 (s.err + by' % 4) = en := ⟨_, rfl⟩
  have henb : s.err ≤ en ∧ 0 ≤ en ∧ en ≤ 20 := by have := HOK.out.err; omega
  have HEN := Lib.hid hen
  have z1 : W6.cell? ⟨p7, 1, none⟩ = some (.int .i64 s.err) := q7.cell 1
  have zl := q7.lt
  have zf := q7.frozen0
  have t1 : IntKind.i64.wrap (by'.tmod 4) = by' % 4 := by rw [Int.tmod_eq_emod_of_nonneg (by omega)]; exact IntWalk.i64_in _ (by omega)
  have t0 : by'.tmod 4 = by' % 4 := Int.tmod_eq_emod_of_nonneg (by omega)
  have her := HOK.out.err
  have t2 : IntKind.i64.wrap (s.err + by' % 4) = s.err + by' % 4 := IntWalk.i64_in _ (by omega)
  go_wp2_with (refine pause_at 49 rfl ?_)
  refine Paused.mk ?_
  clear hen t0 t1 t2
  have B_S := ex_set B_6 (p := ⟨p7, 1, none⟩) (by show w.heap.size ≤ p7; omega) (.int .i64 en)
  have q7s := q7.set_ 1 (.int .i64 en)
  simp only [List.setIfInBounds_toArray, List.set_cons_zero, List.set_cons_succ] at q7s
  have q0s := q0.far (p := ⟨p7, 1, none⟩) (by show w.heap.size ≠ p7; omega) (.int .i64 en)
  have hN7 := hN6.set q7 (by decide) (by decide) 1 (.int .i64 en)
  obtain ⟨Ab9, cb9, rA9, rc9, e9, hsxs⟩ := nown_se (s := errS (woS s [pp]) en) hN7 HXB.out ((hs.offs.below B_S).up B_S.size)
  rw [show (errS (woS s [pp]) en).baths.length = s.baths.length from woS_len] at e9
  injection e9 with e9 e9l e92
  clear e9l
  subst e9 e92
  clear hN7 hN6
  clear q0_0 q0_1 q0_2 q0_l
  clear z1 zl zf q7 q0
  generalize W6.setCell ⟨p7, 1, none⟩ (.int .i64 en) = WS at *
  have q0 := q0s
  have q7 := q7s
  clear q0s q7s
  have q0_0 : WS.cell? ⟨w.heap.size, 0, none⟩ = some (.slice Ao s.offs.length co) := q0.cell 0
  have q0_1 : WS.cell? ⟨w.heap.size, 1, none⟩ = some (.int .i64 s.err) := q0.cell 1
  have q0_2 : WS.cell? ⟨w.heap.size, 2, none⟩ = some (.slice Ab s.baths.length cb) := q0.cell 2
  have q0_l := q0.lt
  have q7_0 : WS.cell? ⟨p7, 0, none⟩ = some (.slice Ao s.offs.length co) := q7.cell 0
  have q7_1 : WS.cell? ⟨p7, 1, none⟩ = some (.int .i64 en) := q7.cell 1
  have q7_2 : WS.cell? ⟨p7, 2, none⟩ = some (.slice Ab' s.baths.length cb') := q7.cell 2
  have q7_l := q7.lt
  have HTX : Hid (Thn (errS (woS s [pp]) en)) := Lib.hid (⟨(wo_thn (l := [pp]) HT.out).no, (wo_thn (l := [pp]) HT.out).nb, (wo_thn (l := [pp]) HT.out).nr⟩)
  have HOX : Hid (SeOk (errS (woS s [pp]) en)) := Lib.hid (errS_ok (woS_ok HOK.out) henb.2)
  have HTR : Hid (∀ o h, Tru s (fun _ => false) o h → Tru (errS (woS s [pp]) en) (fun _ => false) o h) := Lib.hid (fun o h ht => errS_tru henb.1 (woS_tru_of ht))
  go_wp2_with fail
  refine (Series_law s Ao Ab co cb rA rc WS ((hs.below B_S).up B_S.size) HT.out).mono ?_
  rintro e W10 ⟨⟨Ao1, Ab1, co1, cb1, rA1, rc1, rfl, hs1⟩, hW10⟩
  replace q0 := q0.below hW10 q0.lt
  replace q7 := q7.below hW10 q7.lt
  replace hsxs := hsxs.go hW10
  have B_W10 := ex_trans B_S hW10
  clear q0_0 q0_1 q0_2 q0_l q7_0 q7_1 q7_2 q7_l
  have q0_0 : W10.cell? ⟨w.heap.size, 0, none⟩ = some (.slice Ao s.offs.length co) := q0.cell 0
  have q0_1 : W10.cell? ⟨w.heap.size, 1, none⟩ = some (.int .i64 s.err) := q0.cell 1
  have q0_2 : W10.cell? ⟨w.heap.size, 2, none⟩ = some (.slice Ab s.baths.length cb) := q0.cell 2
  have q0_l := q0.lt
  have q7_0 : W10.cell? ⟨p7, 0, none⟩ = some (.slice Ao s.offs.length co) := q7.cell 0
  have q7_1 : W10.cell? ⟨p7, 1, none⟩ = some (.int .i64 en) := q7.cell 1
  have q7_2 : W10.cell? ⟨p7, 2, none⟩ = some (.slice Ab' s.baths.length cb') := q7.cell 2
  have q7_l := q7.lt
  go_wp2_with fail
  refine (Offsets_any s Ao1 Ab1 co1 cb1 rA1 rc1 W10 hs1 HT.out.sm).mono ?_
  rintro e W11 ⟨⟨Aa, ca, la, ea, rfl, ha, sa⟩, hW11⟩
  replace q0 := q0.below hW11 q0.lt
  replace q7 := q7.below hW11 q7.lt
  replace hsxs := hsxs.go hW11
  replace hs1 := hs1.go hW11
  have B_W11 := ex_trans B_W10 hW11
  clear q0_0 q0_1 q0_2 q0_l q7_0 q7_1 q7_2 q7_l
  have q0_0 : W11.cell? ⟨w.heap.size, 0, none⟩ = some (.slice Ao s.offs.length co) := q0.cell 0
  have q0_1 : W11.cell? ⟨w.heap.size, 1, none⟩ = some (.int .i64 s.err) := q0.cell 1
  have q0_2 : W11.cell? ⟨w.heap.size, 2, none⟩ = some (.slice Ab s.baths.length cb) := q0.cell 2
  have q0_l := q0.lt
  have q7_0 : W11.cell? ⟨p7, 0, none⟩ = some (.slice Ao s.offs.length co) := q7.cell 0
  have q7_1 : W11.cell? ⟨p7, 1, none⟩ = some (.int .i64 en) := q7.cell 1
  have q7_2 : W11.cell? ⟨p7, 2, none⟩ = some (.slice Ab' s.baths.length cb') := q7.cell 2
  have q7_l := q7.lt
  clear hs1
  go_wp2_with fail
  have hcx := Series_law (errS (woS s [pp]) en) Ao Ab' co cb' rA9 rc9 W11 hsxs HTX.out
  rw [show (errS (woS s [pp]) en).baths.length = s.baths.length from woS_len] at hcx
  rw [show (errS (woS s [pp]) en).offs.length = s.offs.length from rfl] at hcx
  rw [show (errS (woS s [pp]) en).err = en from rfl] at hcx
  refine (hcx).mono ?_
  rintro e W12 ⟨⟨Ao2, Ab2, co2, cb2, rA2, rc2, rfl, hs2⟩, hW12⟩
  replace q0 := q0.below hW12 q0.lt
  replace q7 := q7.below hW12 q7.lt
  replace hsxs := hsxs.go hW12
  replace sa := (sa.below hW12).up hW12.size
  have B_W12 := ex_trans B_W11 hW12
  clear hcx
  clear q0_0 q0_1 q0_2 q0_l q7_0 q7_1 q7_2 q7_l
  have q0_0 : W12.cell? ⟨w.heap.size, 0, none⟩ = some (.slice Ao s.offs.length co) := q0.cell 0
  have q0_1 : W12.cell? ⟨w.heap.size, 1, none⟩ = some (.int .i64 s.err) := q0.cell 1
  have q0_2 : W12.cell? ⟨w.heap.size, 2, none⟩ = some (.slice Ab s.baths.length cb) := q0.cell 2
  have q0_l := q0.lt
  have q7_0 : W12.cell? ⟨p7, 0, none⟩ = some (.slice Ao s.offs.length co) := q7.cell 0
  have q7_1 : W12.cell? ⟨p7, 1, none⟩ = some (.int .i64 en) := q7.cell 1
  have q7_2 : W12.cell? ⟨p7, 2, none⟩ = some (.slice Ab' s.baths.length cb') := q7.cell 2
  have q7_l := q7.lt
  go_wp2_with fail
  have hcx := Offsets_any (errS (woS s [pp]) en) Ao2 Ab2 co2 cb2 rA2 rc2 W12 hs2 HTX.out.sm
  rw [show (errS (woS s [pp]) en).baths.length = s.baths.length from woS_len] at hcx
  rw [show (errS (woS s [pp]) en).offs.length = s.offs.length from rfl] at hcx
  rw [show (errS (woS s [pp]) en).err = en from rfl] at hcx
  refine (hcx).mono ?_
  rintro e W13 ⟨⟨Ab_, cb_, lb, eb, rfl, hb, sb⟩, hW13⟩
  replace q0 := q0.below hW13 q0.lt
  replace q7 := q7.below hW13 q7.lt
  replace hsxs := hsxs.go hW13
  replace sa := (sa.below hW13).up hW13.size
  replace hs2 := hs2.go hW13
  have B_W13 := ex_trans B_W12 hW13
  clear hcx
  clear q0_0 q0_1 q0_2 q0_l q7_0 q7_1 q7_2 q7_l
  have q0_0 : W13.cell? ⟨w.heap.size, 0, none⟩ = some (.slice Ao s.offs.length co) := q0.cell 0
  have q0_1 : W13.cell? ⟨w.heap.size, 1, none⟩ = some (.int .i64 s.err) := q0.cell 1
  have q0_2 : W13.cell? ⟨w.heap.size, 2, none⟩ = some (.slice Ab s.baths.length cb) := q0.cell 2
  have q0_l := q0.lt
  have q7_0 : W13.cell? ⟨p7, 0, none⟩ = some (.slice Ao s.offs.length co) := q7.cell 0
  have q7_1 : W13.cell? ⟨p7, 1, none⟩ = some (.int .i64 en) := q7.cell 1
  have q7_2 : W13.cell? ⟨p7, 2, none⟩ = some (.slice Ab' s.baths.length cb') := q7.cell 2
  have q7_l := q7.lt
  clear hs2
  go_wp2_with fail
  refine (Series_law s Ao Ab co cb rA rc W13 ((hs.below B_W13).up B_W13.size) HT.out).mono ?_
  rintro e W14 ⟨⟨Ao3, Ab3, co3, cb3, rA3, rc3, rfl, hs3⟩, hW14⟩
  replace q0 := q0.below hW14 q0.lt
  replace q7 := q7.below hW14 q7.lt
  replace hsxs := hsxs.go hW14
  replace sa := (sa.below hW14).up hW14.size
  replace sb := (sb.below hW14).up hW14.size
  have B_W14 := ex_trans B_W13 hW14
  clear q0_0 q0_1 q0_2 q0_l q7_0 q7_1 q7_2 q7_l
  have q0_0 : W14.cell? ⟨w.heap.size, 0, none⟩ = some (.slice Ao s.offs.length co) := q0.cell 0
  have q0_1 : W14.cell? ⟨w.heap.size, 1, none⟩ = some (.int .i64 s.err) := q0.cell 1
  have q0_2 : W14.cell? ⟨w.heap.size, 2, none⟩ = some (.slice Ab s.baths.length cb) := q0.cell 2
  have q0_l := q0.lt
  have q7_0 : W14.cell? ⟨p7, 0, none⟩ = some (.slice Ao s.offs.length co) := q7.cell 0
  have q7_1 : W14.cell? ⟨p7, 1, none⟩ = some (.int .i64 en) := q7.cell 1
  have q7_2 : W14.cell? ⟨p7, 2, none⟩ = some (.slice Ab' s.baths.length cb') := q7.cell 2
  have q7_l := q7.lt
  go_wp2_with fail
  refine (Heats_any s Ao3 Ab3 co3 cb3 rA3 rc3 W14 hs3 HT.out.sm).mono ?_
  rintro e W15 ⟨⟨Ac, cc, lc, ec, rfl, hc, sc⟩, hW15⟩
  replace q0 := q0.below hW15 q0.lt
  replace q7 := q7.below hW15 q7.lt
  replace hsxs := hsxs.go hW15
  replace sa := (sa.below hW15).up hW15.size
  replace sb := (sb.below hW15).up hW15.size
  replace hs3 := hs3.go hW15
  have B_W15 := ex_trans B_W14 hW15
  clear q0_0 q0_1 q0_2 q0_l q7_0 q7_1 q7_2 q7_l
  have q0_0 : W15.cell? ⟨w.heap.size, 0, none⟩ = some (.slice Ao s.offs.length co) := q0.cell 0
  have q0_1 : W15.cell? ⟨w.heap.size, 1, none⟩ = some (.int .i64 s.err) := q0.cell 1
  have q0_2 : W15.cell? ⟨w.heap.size, 2, none⟩ = some (.slice Ab s.baths.length cb) := q0.cell 2
  have q0_l := q0.lt
  have q7_0 : W15.cell? ⟨p7, 0, none⟩ = some (.slice Ao s.offs.length co) := q7.cell 0
  have q7_1 : W15.cell? ⟨p7, 1, none⟩ = some (.int .i64 en) := q7.cell 1
  have q7_2 : W15.cell? ⟨p7, 2, none⟩ = some (.slice Ab' s.baths.length cb') := q7.cell 2
  have q7_l := q7.lt
  clear hs3
  go_wp2_with fail
  have hcx := Series_law (errS (woS s [pp]) en) Ao Ab' co cb' rA9 rc9 W15 hsxs HTX.out
  rw [show (errS (woS s [pp]) en).baths.length = s.baths.length from woS_len] at hcx
  rw [show (errS (woS s [pp]) en).offs.length = s.offs.length from rfl] at hcx
  rw [show (errS (woS s [pp]) en).err = en from rfl] at hcx
  refine (hcx).mono ?_
  rintro e W16 ⟨⟨Ao4, Ab4, co4, cb4, rA4, rc4, rfl, hs4⟩, hW16⟩
  replace q0 := q0.below hW16 q0.lt
  replace q7 := q7.below hW16 q7.lt
  replace hsxs := hsxs.go hW16
  replace sa := (sa.below hW16).up hW16.size
  replace sb := (sb.below hW16).up hW16.size
  replace sc := (sc.below hW16).up hW16.size
  have B_W16 := ex_trans B_W15 hW16
  clear hcx
  clear q0_0 q0_1 q0_2 q0_l q7_0 q7_1 q7_2 q7_l
  have q0_0 : W16.cell? ⟨w.heap.size, 0, none⟩ = some (.slice Ao s.offs.length co) := q0.cell 0
  have q0_1 : W16.cell? ⟨w.heap.size, 1, none⟩ = some (.int .i64 s.err) := q0.cell 1
  have q0_2 : W16.cell? ⟨w.heap.size, 2, none⟩ = some (.slice Ab s.baths.length cb) := q0.cell 2
  have q0_l := q0.lt
  have q7_0 : W16.cell? ⟨p7, 0, none⟩ = some (.slice Ao s.offs.length co) := q7.cell 0
  have q7_1 : W16.cell? ⟨p7, 1, none⟩ = some (.int .i64 en) := q7.cell 1
  have q7_2 : W16.cell? ⟨p7, 2, none⟩ = some (.slice Ab' s.baths.length cb') := q7.cell 2
  have q7_l := q7.lt
  go_wp2_with fail
  have hcx := Heats_any (errS (woS s [pp]) en) Ao4 Ab4 co4 cb4 rA4 rc4 W16 hs4 HTX.out.sm
  rw [show (errS (woS s [pp]) en).baths.length = s.baths.length from woS_len] at hcx
  rw [show (errS (woS s [pp]) en).offs.length = s.offs.length from rfl] at hcx
  rw [show (errS (woS s [pp]) en).err = en from rfl] at hcx
  refine (hcx).mono ?_
  rintro e W17 ⟨⟨Ad, cd, ld, ed, rfl, hd, sd⟩, hW17⟩
  replace q0 := q0.below hW17 q0.lt
  replace q7 := q7.below hW17 q7.lt
  replace hsxs := hsxs.go hW17
  replace sa := (sa.below hW17).up hW17.size
  replace sb := (sb.below hW17).up hW17.size
  replace sc := (sc.below hW17).up hW17.size
  replace hs4 := hs4.go hW17
  have B_W17 := ex_trans B_W16 hW17
  clear hcx
  clear q0_0 q0_1 q0_2 q0_l q7_0 q7_1 q7_2 q7_l
  have q0_0 : W17.cell? ⟨w.heap.size, 0, none⟩ = some (.slice Ao s.offs.length co) := q0.cell 0
  have q0_1 : W17.cell? ⟨w.heap.size, 1, none⟩ = some (.int .i64 s.err) := q0.cell 1
  have q0_2 : W17.cell? ⟨w.heap.size, 2, none⟩ = some (.slice Ab s.baths.length cb) := q0.cell 2
  have q0_l := q0.lt
  have q7_0 : W17.cell? ⟨p7, 0, none⟩ = some (.slice Ao s.offs.length co) := q7.cell 0
  have q7_1 : W17.cell? ⟨p7, 1, none⟩ = some (.int .i64 en) := q7.cell 1
  have q7_2 : W17.cell? ⟨p7, 2, none⟩ = some (.slice Ab' s.baths.length cb') := q7.cell 2
  have q7_l := q7.lt
  clear hs4
  rcases rng_ok ha.out HOK.out with ⟨nc, rfl, rfl⟩ | ⟨hcan, rfl, hla, hae⟩
  · obtain ⟨rfl, rfl⟩ : ec = 9 ∧ lc = [] := by
      rcases rng_ok hc.out HOK.out with ⟨_, h1, h2⟩ | ⟨h, _⟩
      · exact ⟨h1, h2⟩
      · exact absurd h nc
    have HED : Hid (eb = ed ∧ (eb = 0 ∨ eb = 9)) := Lib.hid (by
      rcases rng_ok hb.out HOX.out with ⟨h, h1, _⟩ | ⟨h, h1, _⟩ <;> rcases rng_ok hd.out HOX.out with ⟨k, k1, _⟩ | ⟨k, k1, _⟩
      · exact ⟨by omega, by omega⟩
      · exact absurd k h
      · exact absurd h k
      · exact ⟨by omega, by omega⟩)
    obtain rfl : eb = ed := HED.out.1
    clear ha hb hc hd nc
    rcases HED.out.2 with h | h
    · subst h
      clear HED
      go_wp2_with fail
      refine (wakes_any _).mono ?_
      rintro e Wz ⟨rfl, hz⟩
      go_wp2
      go_ret
      exact ⟨rfl, ex_trans B_W17 hz⟩
    · subst h
      clear HED
      go_wp2_with fail
      refine (wakes_any _).mono ?_
      rintro e Wz ⟨rfl, hz⟩
      go_wp2
      go_ret
      exact ⟨rfl, ex_trans B_W17 hz⟩
  obtain ⟨rfl, hlc, hce⟩ : ec = 0 ∧ lc.length = s.baths.length ∧ ∀ k, k < s.baths.length → EndsOf (HeatZ s k) (gR lc k).lo (gR lc k).hi := by
    rcases rng_ok hc.out HOK.out with ⟨h, _⟩ | ⟨_, h1, h2, h3⟩
    · exact absurd hcan h
    · exact ⟨h1, h2, h3⟩
  have HCX : Hid (Can (errS (woS s [pp]) en)) := Lib.hid (by obtain ⟨o, h, ht⟩ := hcan; exact ⟨o, h, HTR.out o h ht⟩)
  obtain ⟨rfl, hlb, hbe⟩ : eb = 0 ∧ lb.length = s.offs.length ∧ ∀ k, k < s.offs.length → EndsOf (OffZ (errS (woS s [pp]) en) k) (gR lb k).lo (gR lb k).hi := by
    rcases rng_ok hb.out HOX.out with ⟨h, _⟩ | ⟨_, h1, h2, h3⟩
    · exact absurd HCX.out h
    · exact ⟨h1, h2, h3⟩
  obtain ⟨rfl, hld, hde⟩ : ed = 0 ∧ ld.length = s.baths.length ∧ ∀ k, k < s.baths.length → EndsOf (HeatZ (errS (woS s [pp]) en) k) (gR ld k).lo (gR ld k).hi := by
    rcases rng_ok hd.out HOX.out with ⟨h, _⟩ | ⟨_, h1, h2, h3⟩
    · exact absurd HCX.out h
    · exact ⟨h1, h2, h3⟩
  have HW1 : Hid (widB la lb = true) := Lib.hid (wid_of hla hlb hae hbe (fun k hk z ⟨o, h, ht, e⟩ => ⟨o, h, HTR.out o h ht, e⟩))
  have HW2 : Hid (widB lc ld = true) := Lib.hid (wid_of hlc hld hce hde (fun k hk z ⟨o, h, ht, e⟩ => ⟨o, h, HTR.out o h ht, e⟩))
  have b1 : la.length ≤ 1000000 := by omega
  have b2 : lb.length ≤ 1000000 := by omega
  have b3 : lc.length ≤ 1000000 := by omega
  have b4 : ld.length ≤ 1000000 := by omega
  clear ha hb hc hd hla hlb hlc hld hae hbe hce hde hcan
  go_wp2_with fail
  refine (wider_law Aa Ab_ ca cb_ la lb W17 b1 sa sb b2).mono ?_
  rintro e W18 ⟨rfl, hW18⟩
  replace q0 := q0.below hW18 q0.lt
  replace q7 := q7.below hW18 q7.lt
  replace hsxs := hsxs.go hW18
  replace sa := (sa.below hW18).up hW18.size
  replace sb := (sb.below hW18).up hW18.size
  replace sc := (sc.below hW18).up hW18.size
  replace sd := (sd.below hW18).up hW18.size
  have B_W18 := ex_trans B_W17 hW18
  clear q0_0 q0_1 q0_2 q0_l q7_0 q7_1 q7_2 q7_l
  have q0_0 : W18.cell? ⟨w.heap.size, 0, none⟩ = some (.slice Ao s.offs.length co) := q0.cell 0
  have q0_1 : W18.cell? ⟨w.heap.size, 1, none⟩ = some (.int .i64 s.err) := q0.cell 1
  have q0_2 : W18.cell? ⟨w.heap.size, 2, none⟩ = some (.slice Ab s.baths.length cb) := q0.cell 2
  have q0_l := q0.lt
  have q7_0 : W18.cell? ⟨p7, 0, none⟩ = some (.slice Ao s.offs.length co) := q7.cell 0
  have q7_1 : W18.cell? ⟨p7, 1, none⟩ = some (.int .i64 en) := q7.cell 1
  have q7_2 : W18.cell? ⟨p7, 2, none⟩ = some (.slice Ab' s.baths.length cb') := q7.cell 2
  have q7_l := q7.lt
  rw [HW1.out]
  go_wp2_with fail
  refine (wider_law Ac Ad cc cd lc ld W18 b3 sc sd b4).mono ?_
  rintro e W19 ⟨rfl, hW19⟩
  replace q0 := q0.below hW19 q0.lt
  replace q7 := q7.below hW19 q7.lt
  replace hsxs := hsxs.go hW19
  replace sa := (sa.below hW19).up hW19.size
  replace sb := (sb.below hW19).up hW19.size
  replace sc := (sc.below hW19).up hW19.size
  replace sd := (sd.below hW19).up hW19.size
  have B_W19 := ex_trans B_W18 hW19
  clear q0_0 q0_1 q0_2 q0_l q7_0 q7_1 q7_2 q7_l
  have q0_0 : W19.cell? ⟨w.heap.size, 0, none⟩ = some (.slice Ao s.offs.length co) := q0.cell 0
  have q0_1 : W19.cell? ⟨w.heap.size, 1, none⟩ = some (.int .i64 s.err) := q0.cell 1
  have q0_2 : W19.cell? ⟨w.heap.size, 2, none⟩ = some (.slice Ab s.baths.length cb) := q0.cell 2
  have q0_l := q0.lt
  have q7_0 : W19.cell? ⟨p7, 0, none⟩ = some (.slice Ao s.offs.length co) := q7.cell 0
  have q7_1 : W19.cell? ⟨p7, 1, none⟩ = some (.int .i64 en) := q7.cell 1
  have q7_2 : W19.cell? ⟨p7, 2, none⟩ = some (.slice Ab' s.baths.length cb') := q7.cell 2
  have q7_l := q7.lt
  rw [HW2.out]
  go_wp2_with fail
  refine (wakes_any _).mono ?_
  rintro e Wz ⟨rfl, hz⟩
  go_wp2
  go_ret
  exact ⟨rfl, ex_trans B_W19 hz⟩
end Go.Proofs.Ytnplefhigbkbbaa
end
