/- Bath's reference: Narrow (walk). -/
import Derived.Deep.LoopGhost
import Derived.Test.YtnplefhigbkbbaaQ9
set_option linter.unusedVariables false
set_option linter.unusedSimpArgs false
set_option linter.unusedSectionVars false
section
namespace Go.Proofs.Ytnplefhigbkbbaa
open Go.RowKit
attribute [local go_sem] Ex.cell? Ex.frozen? Gx.cell?

theorem cR_at (l : List Rg) (k : Nat) (hk : k < l.length) (j : Nat) (hj : j < 2) : (cR l[k])[j]? = some (fR l k j) := by
  have e := gR_at hk
  match j, hj with
  | 0, _ => simp [cR, fR, e]
  | 1, _ => simp [cR, fR, e]
theorem cR_one (x : Rg) (u : Value) (hu : u ∈ cR x) : u.oneCell' = true := by
  simp [cR] at hu
  rcases hu with rfl | rfl <;> rfl
theorem rgflat_len {α : Type} {f : α → List Value} {sz : Nat} (hf : ∀ a, (f a).length = sz) : ∀ {l : List α}, (l.flatMap f).length = l.length * sz
  | [] => by simp
  | a :: l => by rw [List.flatMap_cons, List.length_append, hf, rgflat_len hf, List.length_cons, Nat.add_mul, Nat.one_mul, Nat.add_comm]
theorem rgs_cell {w : World} {base : Nat} {e : TypeId} {v : Value} {l : List Rg} (h : w.ownsRow base e 2 v l.length (l.flatMap cR)) {k : Nat} (hk : k < l.length) :
    ∃ g cap, v = .slice (some ⟨g, 0, none⟩) l.length cap ∧ base ≤ g ∧ g < w.heap.size ∧ w.cell? ⟨g, k * 2, none⟩ = some (.int .i64 (gR l k).lo) ∧ w.cell? ⟨g, k * 2 + 1, none⟩ = some (.int .i64 (gR l k).hi) ∧ ∀ i, w.frozen? ⟨g, i, none⟩ = false := by
  obtain ⟨g, cap, rfl, hb, hl, _, _, hc, hf⟩ := own_cell h (by omega)
  have hfl := rgflat_len (f := cR) (sz := 2) (fun _ => rfl) (l := l)
  refine ⟨g, cap, rfl, hb, hl, ?_, ?_, hf⟩
  · rw [hc _ (by rw [hfl]; omega)]
    have := flat_get (f := cR) (sz := 2) (fun _ => rfl) hk (j := 0) (by omega)
    rw [Nat.add_zero] at this
    rw [this]
    exact cR_at l k hk 0 (by omega)
  · rw [hc _ (by rw [hfl]; omega)]
    exact (flat_get (f := cR) (sz := 2) (fun _ => rfl) hk (j := 1) (by omega)).trans (cR_at l k hk 1 (by omega))
theorem rgs_set {w : World} {base : Nat} {e : TypeId} {v : Value} {l : List Rg} (h : w.ownsRow base e 2 v l.length (l.flatMap cR)) {g : Nat} (hg : v.ownBlock = some g) {k : Nat} (hk : k < l.length) (r : Rg) :
    ((w.setCell ⟨g, k * 2, none⟩ (.int .i64 r.lo)).setCell ⟨g, k * 2 + 1, none⟩ (.int .i64 r.hi)).ownsRow base e 2 v (l.set k r).length ((l.set k r).flatMap cR) := by
  have hfl := rgflat_len (f := cR) (sz := 2) (fun _ => rfl) (l := l)
  have h1 := own_set h hg (j := k * 2) (by rw [hfl]; omega) (.int .i64 r.lo)
  have h2 := own_set h1 hg (j := k * 2 + 1) (by rw [List.length_set, hfl]; omega) (.int .i64 r.hi)
  have e1 := flat_set (f := cR) (sz := 2) (fun _ => rfl) (l := l) hk (j := 0) (by omega) (u := .int .i64 r.lo) (a := ⟨r.lo, (l[k]).hi⟩) rfl
  rw [Nat.add_zero] at e1
  have e2 := flat_set (f := cR) (sz := 2) (fun _ => rfl) (l := l.set k ⟨r.lo, (l[k]).hi⟩) (k := k) (by rw [List.length_set]; exact hk) (j := 1) (by omega) (u := .int .i64 r.hi) (a := r) (by rw [List.getElem_set_self]; rfl)
  rw [e1, e2, List.set_set] at h2
  rw [List.length_set]
  exact h2

/-- so much of a pass has been gone through. -/
def DoneTo (s : Se) (b i b' i' : Nat) : Prop := i' < (gBt s.baths b').reads.length ∧ (b' < b ∨ (b' = b ∧ i' < i))
/-- a pass over the readings, that began with O0 and H0. -/
structure PassAt (s : Se) (O0 H0 : List Rg) (b i : Nat) (ag : Bool) (O H : List Rg) : Prop where
  holds : Holds s O H
  yes : ag = true → wid O + wid H < wid O0 + wid H0
  no : ag = false → O = O0 ∧ H = H0 ∧ ∀ b' i', DoneTo s b i b' i' → Still s O H b' i'
theorem PassAt.start {s : Se} {O H : List Rg} (h : Holds s O H) : PassAt s O H 0 0 false O H := ⟨h, (fun e => by cases e), fun _ => ⟨rfl, rfl, (fun b' i' h => by obtain ⟨_, h | h⟩ := h <;> omega)⟩⟩
theorem PassAt.next {s : Se} {O0 H0 O H : List Rg} {b : Nat} {ag : Bool} (h : PassAt s O0 H0 b (gBt s.baths b).reads.length ag O H) : PassAt s O0 H0 (b + 1) 0 ag O H :=
  ⟨h.holds, h.yes, fun e => ⟨(h.no e).1, (h.no e).2.1, fun b' i' hd => (h.no e).2.2 b' i' (by
    obtain ⟨h1, h2⟩ := hd
    refine ⟨h1, ?_⟩
    by_cases hb : b' = b
    · subst hb; exact .inr ⟨rfl, h1⟩
    · omega)⟩⟩
theorem gR_ext {l m : List Rg} (hl : l.length = m.length) (h : ∀ k, k < l.length → gR l k = gR m k) : l = m := List.ext_getElem hl (fun i h1 h2 => by
  have := h i h1
  rw [gR_at h1, gR_at h2] at this
  exact this)
theorem set_same {l : List Rg} {k : Nat} {r : Rg} (hk : k < l.length) (h : r = gR l k) : l.set k r = l := gR_ext (by simp) (fun j hj => by
  rw [gR_set hk]
  split
  · rename_i e; rw [e]; exact h
  · rfl)
theorem PassAt.step {s : Se} {O0 H0 O H : List Rg} {b i n : Nat} {ag : Bool} (h : PassAt s O0 H0 b i ag O H) (hok : SeOk s) (hb : b < s.baths.length) (hi : i < (gBt s.baths b).reads.length) (hn : (gRd (gBt s.baths b).reads i).inst = (n : Int)) {v : Int} (hv : (gRd (gBt s.baths b).reads i).val = v)
    {o' h' : Rg} (ho' : o' = nOff v s.err (gR O n) (gR H b)) (hh' : h' = nHeat v s.err o' (gR H b)) (h1 : o'.lo ≤ o'.hi) (h2 : h'.lo ≤ h'.hi) {x : Bool} (hx : x = (ag || (!(decide (o' = gR O n)) || !(decide (h' = gR H b))))) :
    PassAt s O0 H0 b (i + 1) x (O.set n o') (H.set b h') := by
  have h3 := hok.inst b hb i hi
  rw [hn] at h3
  have hnl : n < O.length := by rw [h.holds.lo]; omega
  have hbl : b < H.length := by rw [h.holds.lh]; exact hb
  have hw := step_wid hnl hbl ho' hh' h1 h2
  refine ⟨h.holds.step hok hb hi hn hv ho' hh' h1 h2, fun e => ?_, fun e => ?_⟩
  · cases hag : ag
    · have h4 := h.no hag
      have h5 := h4.1
      have h6 := h4.2.1
      subst h5 h6
      rw [e, hag] at hx
      refine hw.2 ?_
      by_cases h7 : o' = gR O n
      · by_cases h8 : h' = gR H b
        · rw [decide_eq_true h7, decide_eq_true h8] at hx
          cases hx
        · exact .inr h8
      · exact .inl h7
    · have := h.yes hag
      omega
  · rw [e] at hx
    have hag : ag = false := by
      cases ag
      · rfl
      · cases hx
    rw [hag, Bool.false_or] at hx
    have h7 : o' = gR O n := Classical.byContradiction (fun h => by rw [decide_eq_false h] at hx; cases hx)
    have h8 : h' = gR H b := Classical.byContradiction (fun h => by rw [decide_eq_false h, Bool.not_false, Bool.or_true] at hx; cases hx)
    have h4 := h.no hag
    have e1 := set_same hnl h7
    have e2 := set_same hbl h8
    rw [e1, e2]
    refine ⟨h4.1, h4.2.1, fun b' i' hd => ?_⟩
    obtain ⟨k1, k2⟩ := hd
    by_cases hbi : b' = b ∧ i' = i
    · obtain ⟨rfl, rfl⟩ := hbi
      exact still_of hn hv (ho'.symm.trans h7) (by rw [h7] at hh'; exact hh'.symm.trans h8)
    · exact h4.2.2 b' i' ⟨k1, by omega⟩
open Classical in
/-- is there a truth? -/
noncomputable def canB (s : Se) : Bool := decide (Can s)
theorem canB_iff {s : Se} : canB s = true ↔ Can s := by unfold canB; simp
theorem canB_true {s : Se} (h : Can s) : canB s = true := canB_iff.2 h
theorem canB_false {s : Se} (h : ¬ Can s) : canB s = false := by rw [← Bool.not_eq_true, canB_iff]; exact h
/-- what Narrow tells. -/
def NarV (s : Se) (O H : List Rg) : Prop := NarIs s O H ∨ (¬ Can s ∧ O = [] ∧ H = [])
/-- the same world, but for what has been drawn. -/
def Mid23 (V : World) (F : (Nat → Value) → Array Value) (e : Exit) (a' : Act) (W' : World) : Prop := e = .normal ∧ Below V.heap.size V W' ∧ ∃ u, a' = ⟨F u, []⟩
/-- both ranges have been copied, in blocks of their own. -/
def Mid2 (U : World) (o h : Rg) (F : (Nat → Value) → Nat → Nat → Array Value) (e : Exit) (a' : Act) (W' : World) : Prop :=
  e = .normal ∧ ∃ po ph, Below U.heap.size U W' ∧ U.heap.size ≤ po ∧ U.heap.size ≤ ph ∧ po ≠ ph ∧ Blk W' po 46 #[.int .i64 o.lo, .int .i64 o.hi] ∧ Blk W' ph 46 #[.int .i64 h.lo, .int .i64 h.hi] ∧ ∃ u, a' = ⟨F u po ph, []⟩

theorem rrange_info : (Try.prog.info? 46).map (fun i => (i.zero, i.size, i.bytes)) = some (some (.agg #[.int .i64 0, .int .i64 0]), 2, 16) := by kernel_rfl
set_option maxRecDepth 100000 in
set_option maxHeartbeats 25600000 in
theorem narrow_ref (s : Se) (Ao Ab : Option Addr) (co cb : Nat) (rA : Nat → Option Addr) (rc : Nat → Nat) (w : World) (hs : SeIn w w.heap.size s Ao Ab rA rc) (hok : SeOk s) :
    Calls Try.prog 25 #[.agg #[.slice Ao s.offs.length co, .int .i64 s.err, .slice Ab s.baths.length cb]] w fun e w' => (∃ A c B d O H, e = .returned (.tuple #[.slice A (O : List Rg).length c, .slice B (H : List Rg).length d, .bool (canB s)]) ∧ Hid (NarV s O H) ∧ SlAt w' w'.heap.size 2 A O.length (fR O) ∧ SlAt w' w'.heap.size 2 B H.length (fR H)) ∧ Below w.heap.size w w' := by
  obtain ⟨i0, hi0, hz0, hz1, hz2⟩ := info_parts rrange_info
  have HI := Lib.hid hi0
  clear hi0
  have hno := hok.no
  have hnb := hok.nb
  have HOK := Lib.hid hok
  clear hok
  have hb1 := ex_alloc (ex_alloc (Below.refl w.heap.size w) (.cells #[.slice Ao s.offs.length co, .int .i64 s.err, .slice Ab s.baths.length cb] 25)) (.cells #[] 46)
  have q1 : Blk ((w.alloc (.cells #[.slice Ao s.offs.length co, .int .i64 s.err, .slice Ab s.baths.length cb] 25)).alloc (.cells #[] 46)) w.heap.size 25 #[.slice Ao s.offs.length co, .int .i64 s.err, .slice Ab s.baths.length cb] := (Blk.new _ _ _).alloc _
  have qe : Blk ((w.alloc (.cells #[.slice Ao s.offs.length co, .int .i64 s.err, .slice Ab s.baths.length cb] 25)).alloc (.cells #[] 46)) (w.heap.size + 1) 46 #[] := Blk.new' _ _ _ (by simp)
  have hA2 := (hs.offs.below hb1).up hb1.size
  go_enter Try.func25, Try.ntmps25
  go_wp2_with (refine pause_at 19 rfl ?_)
  refine Paused.mk ?_
  refine wpList_append_list (α := Rg) (f := cR) (F := fR) (sz := 2) (fun _ => rfl) cR_at cR_one rfl _ _ _ rfl (w.heap.size + 1) 46 i0 _ 16 Try.underlying22 HI.out hz0 hz1 hz2 rfl (by omega) (some ⟨w.heap.size + 1, 0, none⟩) 0 [] rfl (own_empty qe (Nat.le_refl _)) Ao co s.offs rfl hA2 (by simp; unfold maxLen; omega) (by simp; omega) (by simp) (w.heap.size + 1 + 1) (by simp) ?_
  intro L1 B1' k1' v1 HL1 o1 gr1 n1
  have hL : L1 = s.offs := HL1.out
  clear HL1
  subst hL
  have B1 : Below w.heap.size w v1 := hb1.grown gr1 hb1.size (fun j hj => by have : w.heap.size + 1 = j := (by simpa [Value.ownBlock] using hj); omega)
  have q2 : Blk v1 w.heap.size 25 #[.slice Ao s.offs.length co, .int .i64 s.err, .slice Ab s.baths.length cb] := q1.grown gr1 (fun e => by simp [Value.ownBlock] at e)
  obtain ⟨g1, c1, hv1, hg1, hgl1, _, _, _⟩ := rgs_cell o1 (k := 0) (by omega)
  rw [hv1] at o1 ⊢
  clear hv1 n1 gr1 hb1 q1 qe hA2
  go_wp2_with fail
  refine wp_loop (fun a W => Rel (fun a W => ∃ k : Nat, k ≤ s.baths.length ∧ Below v1.heap.size v1 W ∧ ∃ v, ∃ L : List Rg, Hid (L = (s.baths.map (·.heat)).take k) ∧ W.ownsRow (v1.heap.size) 46 2 v L.length (L.flatMap cR) ∧ ∃ u : Nat → Value, a = ⟨List.toArray (u 0 :: .pointer (some ⟨w.heap.size, 0, none⟩) :: u 2 :: u 3 :: u 4 :: .slice (some ⟨g1, 0, none⟩) s.offs.length c1 :: v :: .int .i64 (k : Int) :: u 8 :: u 9 :: u 10 :: u 11 :: u 12 :: u 13 :: u 14 :: u 15 :: u 16 :: u 17 :: u 18 :: u 19 :: u 20 :: u 21 :: u 22 :: u 23 :: u 24 :: u 25 :: u 26 :: u 27 :: u 28 :: u 29 :: u 30 :: u 31 :: u 32 :: u 33 :: u 34 :: u 35 :: u 36 :: u 37 :: u 38 :: u 39 :: u 40 :: u 41 :: u 42 :: u 43 :: u 44 :: u 45 :: u 46 :: u 47 :: u 48 :: u 49 :: u 50 :: u 51 :: u 52 :: u 53 :: u 54 :: u 55 :: u 56 :: u 57 :: u 58 :: u 59 :: u 60 :: u 61 :: u 62 :: u 63 :: u 64 :: u 65 :: u 66 :: u 67 :: u 68 :: u 69 :: u 70 :: u 71 :: u 72 :: u 73 :: u 74 :: u 75 :: u 76 :: u 77 :: u 78 :: u 79 :: u 80 :: u 81 :: u 82 :: u 83 :: u 84 :: u 85 :: u 86 :: u 87 :: u 88 :: u 89 :: u 90 :: u 91 :: u 92 :: u 93 :: u 94 :: u 95 :: u 96 :: u 97 :: u 98 :: u 99 :: u 100 :: u 101 :: u 102 :: u 103 :: u 104 :: u 105 :: u 106 :: u 107 :: u 108 :: u 109 :: u 110 :: u 111 :: u 112 :: u 113 :: u 114 :: u 115 :: u 116 :: u 117 :: u 118 :: u 119 :: u 120 :: u 121 :: u 122 :: u 123 :: u 124 :: u 125 :: u 126 :: u 127 :: u 128 :: u 129 :: u 130 :: u 131 :: u 132 :: u 133 :: u 134 :: u 135 :: u 136 :: u 137 :: u 138 :: u 139 :: u 140 :: u 141 :: u 142 :: u 143 :: u 144 :: u 145 :: u 146 :: u 147 :: u 148 :: u 149 :: u 150 :: u 151 :: u 152 :: u 153 :: []), []⟩) a W)
    (fun a _ => s.baths.length - (intOf (a.tmps.getD 7 undef)).toNat) ⟨⟨0, by omega, Below.refl _ _, .slice none 0 0, [], Lib.hid rfl, ⟨rfl, .inl ⟨rfl, rfl⟩⟩, exFrame (by kernel_rfl)⟩⟩ ?_
  rintro a W ⟨⟨k, hk, hbv, vH, L, HL, hown, u, rfl⟩⟩
  have hbl := ex_trans B1 hbv
  have q0 := q2.below hbv q2.lt
  have l0 := q0.lt
  have hvs := hbv.size
  have a2 : W.cell? ⟨w.heap.size, 2, none⟩ = some (.slice Ab s.baths.length cb) := q0.cell 2
  by_cases hlt : k < s.baths.length
  · --BEGIN h1
    obtain ⟨bb, ob, rfl, hbb, r0, r1, r2⟩ := IsBts.at_ (hs.baths.below hbl) hlt
    have lbb : bb < W.heap.size := by have := hbl.size; omega
    have hlen : L.length = k := by rw [HL.out, List.length_take, List.length_map]; omega
    obtain ⟨lo, hlo⟩ : ∃ lo, (gBt s.baths k).heat.lo = lo := ⟨_, rfl⟩
    obtain ⟨hi, hhi⟩ : ∃ hi, (gBt s.baths k).heat.hi = hi := ⟨_, rfl⟩
    have HN : Hid (L ++ [⟨lo, hi⟩] = (s.baths.map (·.heat)).take (k + 1)) := Lib.hid (take_push (by simpa using hlt) HL.out (by rw [List.getElem_map, ← gBt_at hlt, ← hlo, ← hhi]))
    rw [hlo] at r0
    rw [hhi] at r1
    clear hlo hhi
    have hlk : L.length ≤ 1000 := by omega
    have c63 : L.length + 1 ≤ maxLen := by unfold maxLen; omega
    have cby : (L.length + 1) * 16 ≤ 140737488355328 := by omega
    have y4 := hown.alloc (.cells #[.int .i64 lo, .int .i64 hi] 46)
    have hX6 := ex_alloc hbv (.cells #[.int .i64 lo, .int .i64 hi] 46)
    have hbase : v1.heap.size ≤ (W.alloc (.cells #[.int .i64 lo, .int .i64 hi] 46)).heap.size := hX6.size
    have hge := fun (j : Nat) (hj : vH.ownBlock = some j) => own_ge hown hj
    clear hlen
    go_wp2_with (refine pause_at 35 rfl ?_)
    refine Paused.mk ?_
    refine wpList_append_lies _ rfl _ _ _ rfl v1.heap.size 46 i0 _ 2 16 Try.underlying22 HI.out hz0 hz1 hz2 rfl (by omega) vH _ _ rfl y4 ⟨W.heap.size, 0, none⟩ 1 1 [.int .i64 lo, .int .i64 hi] rfl rfl (World.news_of_block (heap_alloc_new W _)) (by simp [Value.oneCell']) (by omega) c63 cby hbase (W.heap.size + 1) (by simp) ?_
    intro gg cap w1 hown' hgrow hat hlt'
    have B5 := hX6.grown hgrow hX6.size (fun j hj => hge j hj)
    have own7 := own_push (f := cR) (x := ⟨lo, hi⟩) rfl hown'
    generalize L ++ [(⟨lo, hi⟩ : Rg)] = L' at *
    go_wp2_with fail
    refine ⟨⟨⟨k + 1, by omega, B5, _, L', HN, own7, exFrame (by kernel_rfl)⟩⟩, ?_⟩
    show s.baths.length - (intOf (.int .i64 ((k : Int) + 1))).toNat < s.baths.length - (intOf (.int .i64 (k : Int))).toNat
    simp [intOf]
    omega
  obtain rfl : k = s.baths.length := by omega
  have hLL : L = s.baths.map (·.heat) := HL.out.trans (by rw [← List.length_map (f := fun b : Bt => b.heat)]; exact List.take_length)
  clear HL
  have HH0 : Hid (Holds s s.offs L) := Lib.hid (by rw [hLL]; exact Holds.start HOK.out)
  clear hLL
  have oO := own_below o1 hbv
  obtain ⟨B2, hB2⟩ : ∃ B2, v1.heap.size = B2 := ⟨_, rfl⟩
  rw [hB2] at hown hgl1 hvs
  clear hB2 hlt hk hbv o1 q2 B1
  go_wp2_with fail
  clear a2 l0
  refine wp_loop_ghost (fun n a W => Rel (fun a W => ∃ O H ag, Hid (Holds s O H) ∧ Hid (n = wid O + wid H + (if ag = true then 1 else 0)) ∧ Hid (ag = false → ∀ b i, b < s.baths.length → i < (gBt s.baths b).reads.length → Still s O H b i) ∧ Below w.heap.size w W ∧ B2 ≤ W.heap.size ∧ Blk W w.heap.size 25 #[.slice Ao s.offs.length co, .int .i64 s.err, .slice Ab s.baths.length cb] ∧ W.ownsRow (w.heap.size + 1) 46 2 (.slice (some ⟨g1, 0, none⟩) s.offs.length c1) O.length (O.flatMap cR) ∧ W.ownsRow (B2) 46 2 vH H.length (H.flatMap cR) ∧ ∃ u : Nat → Value, a = ⟨List.toArray (u 0 :: .pointer (some ⟨w.heap.size, 0, none⟩) :: u 2 :: u 3 :: u 4 :: .slice (some ⟨g1, 0, none⟩) s.offs.length c1 :: vH :: u 7 :: .bool ag :: u 9 :: u 10 :: u 11 :: u 12 :: u 13 :: u 14 :: u 15 :: u 16 :: u 17 :: u 18 :: u 19 :: u 20 :: u 21 :: u 22 :: u 23 :: u 24 :: u 25 :: u 26 :: u 27 :: u 28 :: u 29 :: u 30 :: u 31 :: u 32 :: u 33 :: u 34 :: u 35 :: u 36 :: u 37 :: u 38 :: u 39 :: u 40 :: u 41 :: u 42 :: u 43 :: u 44 :: u 45 :: u 46 :: u 47 :: u 48 :: u 49 :: u 50 :: u 51 :: u 52 :: u 53 :: u 54 :: u 55 :: u 56 :: u 57 :: u 58 :: u 59 :: u 60 :: u 61 :: u 62 :: u 63 :: u 64 :: u 65 :: u 66 :: u 67 :: u 68 :: u 69 :: u 70 :: u 71 :: u 72 :: u 73 :: u 74 :: u 75 :: u 76 :: u 77 :: u 78 :: u 79 :: u 80 :: u 81 :: u 82 :: u 83 :: u 84 :: u 85 :: u 86 :: u 87 :: u 88 :: u 89 :: u 90 :: u 91 :: u 92 :: u 93 :: u 94 :: u 95 :: u 96 :: u 97 :: u 98 :: u 99 :: u 100 :: u 101 :: u 102 :: u 103 :: u 104 :: u 105 :: u 106 :: u 107 :: u 108 :: u 109 :: u 110 :: u 111 :: u 112 :: u 113 :: u 114 :: u 115 :: u 116 :: u 117 :: u 118 :: u 119 :: u 120 :: u 121 :: u 122 :: u 123 :: u 124 :: u 125 :: u 126 :: u 127 :: u 128 :: u 129 :: u 130 :: u 131 :: u 132 :: u 133 :: u 134 :: u 135 :: u 136 :: u 137 :: u 138 :: u 139 :: u 140 :: u 141 :: u 142 :: u 143 :: u 144 :: u 145 :: u 146 :: u 147 :: u 148 :: u 149 :: u 150 :: u 151 :: u 152 :: u 153 :: []), []⟩) a W) (wid s.offs + wid L + 1)
    ⟨⟨s.offs, L, true, HH0, Lib.hid rfl, Lib.hid (fun h => by cases h), hbl, hvs, q0, oO, hown, exFrame (by kernel_rfl)⟩⟩ ?_
  clear HH0 hbl hvs q0 oO hown W L
  rintro n a W ⟨⟨O0, H0, ag, HH, HN, HST, hbl, hsz, q0, oO, oH, u, rfl⟩⟩
  have hlo := HH.out.lo
  have hlh := HH.out.lh
  cases ag
  · --BEGIN e1
    have HR : Hid (NarV s O0 H0) := Lib.hid (.inl (HH.out.ends (fun b hb i hi => HST.out rfl b i hb hi)))
    have HC : Hid (canB s = true) := Lib.hid (canB_true (HH.out.ends (fun b hb i hi => HST.out rfl b i hb hi)).can)
    obtain ⟨A', c', hv1, _, _, hs1⟩ := own_R oO
    obtain ⟨A2, c2, hv2, _, _, hs2⟩ := own_R oH
    rw [hlo] at hv1
    injection hv1 with hv11 _ hv12
    subst hv11 hv12
    subst hv2
    have HLO := Lib.hid hlo
    clear hlo hlh oO oH
    go_wp2
    go_ret3
    refine ⟨⟨some ⟨g1, 0, none⟩, c1, A2, c2, O0, H0, ?_, HR, hs1, hs2⟩, hbl⟩
    rw [HLO.out, HC.out]
    rfl
  have HN2 : Hid (n = wid O0 + wid H0 + 1) := Lib.hid HN.out
  have HP : Hid (PassAt s O0 H0 0 0 false O0 H0) := Lib.hid (PassAt.start HH.out)
  clear HN HST hlo hlh
  go_wp2_with fail
  refine wp_loop (fun a W => Rel (fun a W => ∃ b : Nat, ∃ O H ag, b ≤ s.baths.length ∧ Hid (PassAt s O0 H0 b 0 ag O H) ∧ Below w.heap.size w W ∧ B2 ≤ W.heap.size ∧ Blk W w.heap.size 25 #[.slice Ao s.offs.length co, .int .i64 s.err, .slice Ab s.baths.length cb] ∧ W.ownsRow (w.heap.size + 1) 46 2 (.slice (some ⟨g1, 0, none⟩) s.offs.length c1) O.length (O.flatMap cR) ∧ W.ownsRow (B2) 46 2 vH H.length (H.flatMap cR) ∧ ∃ u : Nat → Value, a = ⟨List.toArray (u 0 :: .pointer (some ⟨w.heap.size, 0, none⟩) :: u 2 :: u 3 :: u 4 :: .slice (some ⟨g1, 0, none⟩) s.offs.length c1 :: vH :: u 7 :: .bool ag :: .int .i64 (b : Int) :: u 10 :: u 11 :: u 12 :: u 13 :: u 14 :: u 15 :: u 16 :: u 17 :: u 18 :: u 19 :: u 20 :: u 21 :: u 22 :: u 23 :: u 24 :: u 25 :: u 26 :: u 27 :: u 28 :: u 29 :: u 30 :: u 31 :: u 32 :: u 33 :: u 34 :: u 35 :: u 36 :: u 37 :: u 38 :: u 39 :: u 40 :: u 41 :: u 42 :: u 43 :: u 44 :: u 45 :: u 46 :: u 47 :: u 48 :: u 49 :: u 50 :: u 51 :: u 52 :: u 53 :: u 54 :: u 55 :: u 56 :: u 57 :: u 58 :: u 59 :: u 60 :: u 61 :: u 62 :: u 63 :: u 64 :: u 65 :: u 66 :: u 67 :: u 68 :: u 69 :: u 70 :: u 71 :: u 72 :: u 73 :: u 74 :: u 75 :: u 76 :: u 77 :: u 78 :: u 79 :: u 80 :: u 81 :: u 82 :: u 83 :: u 84 :: u 85 :: u 86 :: u 87 :: u 88 :: u 89 :: u 90 :: u 91 :: u 92 :: u 93 :: u 94 :: u 95 :: u 96 :: u 97 :: u 98 :: u 99 :: u 100 :: u 101 :: u 102 :: u 103 :: u 104 :: u 105 :: u 106 :: u 107 :: u 108 :: u 109 :: u 110 :: u 111 :: u 112 :: u 113 :: u 114 :: u 115 :: u 116 :: u 117 :: u 118 :: u 119 :: u 120 :: u 121 :: u 122 :: u 123 :: u 124 :: u 125 :: u 126 :: u 127 :: u 128 :: u 129 :: u 130 :: u 131 :: u 132 :: u 133 :: u 134 :: u 135 :: u 136 :: u 137 :: u 138 :: u 139 :: u 140 :: u 141 :: u 142 :: u 143 :: u 144 :: u 145 :: u 146 :: u 147 :: u 148 :: u 149 :: u 150 :: u 151 :: u 152 :: u 153 :: []), []⟩) a W)
    (fun a _ => s.baths.length - (intOf (a.tmps.getD 9 undef)).toNat) ⟨⟨0, O0, H0, false, by omega, HP, hbl, hsz, q0, oO, oH, exFrame (by kernel_rfl)⟩⟩ ?_
  clear HP hbl hsz q0 oO oH HH W
  rintro a W ⟨⟨b, O, H, ag, hb, HP, hbl, hsz, q0, oO, oH, u, rfl⟩⟩
  have l0 := q0.lt
  have a2 : W.cell? ⟨w.heap.size, 2, none⟩ = some (.slice Ab s.baths.length cb) := q0.cell 2
  by_cases hltb : b < s.baths.length
  rotate_left
  · --BEGIN e2
    obtain rfl : b = s.baths.length := by omega
    have HH := Lib.hid HP.out.holds
    have HST : Hid (ag = false → ∀ b i, b < s.baths.length → i < (gBt s.baths b).reads.length → Still s O H b i) := Lib.hid (fun e b i hb hi => (HP.out.no e).2.2 b i ⟨hi, .inl hb⟩)
    have HLT : Hid (wid O + wid H + (if ag = true then 1 else 0) < n) := Lib.hid (by
      rw [HN2.out]
      cases ag
      · have h := HP.out.no rfl
        rw [h.1, h.2.1]; simp
      · have h := HP.out.yes rfl
        simp; omega)
    clear HP HN2
    go_wp2_with fail
    exact ⟨_, HLT.out, ⟨O, H, ag, HH, Lib.hid rfl, HST, hbl, hsz, q0, oO, oH, exFrame (by kernel_rfl)⟩⟩
  have HP0 := HP
  clear HP
  go_wp2_with fail
  refine wp_loop (fun a W => Rel (fun a W => ∃ i : Nat, ∃ O H ag, i ≤ (gBt s.baths b).reads.length ∧ Hid (PassAt s O0 H0 b i ag O H) ∧ Below w.heap.size w W ∧ B2 ≤ W.heap.size ∧ Blk W w.heap.size 25 #[.slice Ao s.offs.length co, .int .i64 s.err, .slice Ab s.baths.length cb] ∧ W.ownsRow (w.heap.size + 1) 46 2 (.slice (some ⟨g1, 0, none⟩) s.offs.length c1) O.length (O.flatMap cR) ∧ W.ownsRow (B2) 46 2 vH H.length (H.flatMap cR) ∧ ∃ u : Nat → Value, a = ⟨List.toArray (u 0 :: .pointer (some ⟨w.heap.size, 0, none⟩) :: u 2 :: u 3 :: u 4 :: .slice (some ⟨g1, 0, none⟩) s.offs.length c1 :: vH :: u 7 :: .bool ag :: .int .i64 (b : Int) :: .int .i64 (i : Int) :: u 11 :: u 12 :: u 13 :: u 14 :: u 15 :: u 16 :: u 17 :: u 18 :: u 19 :: u 20 :: u 21 :: u 22 :: u 23 :: u 24 :: u 25 :: u 26 :: u 27 :: u 28 :: u 29 :: u 30 :: u 31 :: u 32 :: u 33 :: u 34 :: u 35 :: u 36 :: u 37 :: u 38 :: u 39 :: u 40 :: u 41 :: u 42 :: u 43 :: u 44 :: u 45 :: u 46 :: u 47 :: u 48 :: u 49 :: u 50 :: u 51 :: u 52 :: u 53 :: u 54 :: u 55 :: u 56 :: u 57 :: u 58 :: u 59 :: u 60 :: u 61 :: u 62 :: u 63 :: u 64 :: u 65 :: u 66 :: u 67 :: u 68 :: u 69 :: u 70 :: u 71 :: u 72 :: u 73 :: u 74 :: u 75 :: u 76 :: u 77 :: u 78 :: u 79 :: u 80 :: u 81 :: u 82 :: u 83 :: u 84 :: u 85 :: u 86 :: u 87 :: u 88 :: u 89 :: u 90 :: u 91 :: u 92 :: u 93 :: u 94 :: u 95 :: u 96 :: u 97 :: u 98 :: u 99 :: u 100 :: u 101 :: u 102 :: u 103 :: u 104 :: u 105 :: u 106 :: u 107 :: u 108 :: u 109 :: u 110 :: u 111 :: u 112 :: u 113 :: u 114 :: u 115 :: u 116 :: u 117 :: u 118 :: u 119 :: u 120 :: u 121 :: u 122 :: u 123 :: u 124 :: u 125 :: u 126 :: u 127 :: u 128 :: u 129 :: u 130 :: u 131 :: u 132 :: u 133 :: u 134 :: u 135 :: u 136 :: u 137 :: u 138 :: u 139 :: u 140 :: u 141 :: u 142 :: u 143 :: u 144 :: u 145 :: u 146 :: u 147 :: u 148 :: u 149 :: u 150 :: u 151 :: u 152 :: u 153 :: []), []⟩) a W)
    (fun a _ => (gBt s.baths b).reads.length - (intOf (a.tmps.getD 10 undef)).toNat) ⟨⟨0, O, H, ag, by omega, HP0, hbl, hsz, q0, oO, oH, exFrame (by kernel_rfl)⟩⟩ ?_
  clear HP0 hbl hsz q0 oO oH l0 a2 W
  rintro a W ⟨⟨i, O, H, ag, hi, HP, hbl, hsz, q0, oO, oH, u, rfl⟩⟩
  have l0 := q0.lt
  have a2 : W.cell? ⟨w.heap.size, 2, none⟩ = some (.slice Ab s.baths.length cb) := q0.cell 2
  have a1 : W.cell? ⟨w.heap.size, 1, none⟩ = some (.int .i64 s.err) := q0.cell 1
  obtain ⟨bb, ob, rfl, hbb, g0, g1', g2'⟩ := IsBts.at_ (hs.baths.below hbl) hltb
  have lbb : bb < W.heap.size := by have := hbl.size; omega
  have hrd := (hs.reads b hltb).below hbl
  by_cases hlti : i < (gBt s.baths b).reads.length
  rotate_left
  · --BEGIN e3
    obtain rfl : i = (gBt s.baths b).reads.length := by omega
    have HP2 := Lib.hid HP.out.next
    clear HP hrd
    go_wp2_with fail
    refine ⟨⟨⟨b + 1, O, H, ag, by omega, HP2, hbl, hsz, q0, oO, oH, exFrame (by kernel_rfl)⟩⟩, ?_⟩
    show s.baths.length - (intOf (.int .i64 ((b : Int) + 1))).toNat < s.baths.length - (intOf (.int .i64 (b : Int))).toNat
    simp [intOf]
    omega
  have hrl : (gBt s.baths b).reads.length ≤ 6 := by have := reads_le HOK.out hltb; omega
  obtain ⟨br, orr, hrA, hbr, r0, r1⟩ := IsRds.at_ hrd hlti
  rw [hrA] at g2'
  have lbr : br < W.heap.size := by have := hbl.size; omega
  have hin := HOK.out.inst b hltb i hlti
  have hvl := HOK.out.val b hltb i hlti
  have her := HOK.out.err
  obtain ⟨iv, hiv⟩ : ∃ iv, (gRd (gBt s.baths b).reads i).inst = iv := ⟨_, rfl⟩
  obtain ⟨v, hv⟩ : ∃ v, (gRd (gBt s.baths b).reads i).val = v := ⟨_, rfl⟩
  rw [hiv] at r0 hin
  rw [hv] at r1 hvl
  obtain ⟨n', rfl⟩ : ∃ n' : Nat, iv = (n' : Int) := ⟨iv.toNat, by omega⟩
  have HIV := Lib.hid hiv
  have HVV := Lib.hid hv
  clear hiv hv
  have hnO : n' < O.length := by rw [HP.out.holds.lo]; omega
  have hbH : b < H.length := by rw [HP.out.holds.lh]; exact hltb
  have hlo := HP.out.holds.lo
  have hlh := HP.out.holds.lh
  obtain ⟨g1x, c1x, hv1, _, hgl, o0, o1, of⟩ := rgs_cell oO hnO
  rw [hlo] at hv1
  injection hv1 with hv11 _ hv12
  injection hv11 with hv11
  injection hv11 with hv11
  subst hv11 hv12
  obtain ⟨g2, c2, hvv, hg2, hgl2, h0, h1, hf⟩ := rgs_cell oH hbH
  rw [hlh] at hvv
  subst hvv
  have bo := HP.out.holds.no n' hnO
  have bh := HP.out.holds.nh b hbH
  have bo2 := HOK.out.offs n' (by omega)
  have bh2 := HOK.out.heats b hltb
  have hnn : n' < s.offs.length := by omega
  obtain ⟨er, herE⟩ : ∃ er, s.err = er := ⟨_, rfl⟩
  rw [herE] at a1 her
  obtain ⟨o, hoE⟩ : ∃ o, gR O n' = o := ⟨_, rfl⟩
  obtain ⟨h, hhE⟩ : ∃ h, gR H b = h := ⟨_, rfl⟩
  rw [hoE] at o0 o1 bo
  rw [hhE] at h0 h1 bh
  have HOE := Lib.hid hoE
  have HHE := Lib.hid hhE
  have HER := Lib.hid herE
  have boL : -100 ≤ o.lo ∧ o.lo ≤ 100 ∧ -100 ≤ o.hi ∧ o.hi ≤ 100 := by omega
  have bhL : 0 ≤ h.lo ∧ h.lo ≤ 1000 ∧ 0 ≤ h.hi ∧ h.hi ≤ 1000 := by omega
  clear hoE hhE herE bo bh bo2 bh2
  have HLO := Lib.hid hlo
  have HLH := Lib.hid hlh
  clear hlo hlh
  have w1 : IntKind.i64.wrap (v - er) = v - er := IntWalk.i64_in _ (by omega)
  have w2 : IntKind.i64.wrap (v + er) = v + er := IntWalk.i64_in _ (by omega)
  have hX1 := ex_alloc (Below.refl W.heap.size W) (.cells #[.int .i64 (n' : Int), .int .i64 v] 89)
  have nr : Blk (W.alloc (.cells #[.int .i64 (n' : Int), .int .i64 v] 89)) W.heap.size 89 #[.int .i64 (n' : Int), .int .i64 v] := Blk.new _ _ _
  go_wp2_with fail
  refine wp_region_ext_mix 11 [(false, 0), (false, 1), (false, 2), (false, 3), (false, 4), (false, 5), (false, 6), (false, 7), (false, 8), (false, 9), (false, 10)] (by kernel_rfl) (by kernel_rfl) (by intro d _ _ _ _ h; cases d <;> exact h) ?_
  have hX2 := (Below.refl (W.alloc (.cells #[.int .i64 (n' : Int), .int .i64 v] 89)).heap.size (W.alloc (.cells #[.int .i64 (n' : Int), .int .i64 v] 89))).drew
  repeat (refine mix_quiet rfl ?_; go_big_quiet_step (fail); refine wpQuiet_nil ?_)
  refine mix_nil rfl ?_
  go_wp2_with fail
  have hX := ex_trans hX1 hX2
  have nr2 := nr.below hX2 nr.lt
  have qS := q0.below hX l0
  have oO2 := own_below oO hX
  have oH2 := own_below oH hX
  have BU := ex_trans hbl hX
  have hsU := hX.size
  have o02 := (hX.cell (p := ⟨g1, n' * 2, none⟩) hgl).trans o0
  have o12 := (hX.cell (p := ⟨g1, n' * 2 + 1, none⟩) hgl).trans o1
  have h02 := (hX.cell (p := ⟨g2, b * 2, none⟩) hgl2).trans h0
  have h12 := (hX.cell (p := ⟨g2, b * 2 + 1, none⟩) hgl2).trans h1
  obtain ⟨pr, hpr⟩ : ∃ pr, W.heap.size = pr := ⟨_, rfl⟩
  have hgpr : g1 < pr ∧ g2 < pr := by omega
  have hBpr : w.heap.size ≤ pr ∧ B2 ≤ pr := by have := hbl.size; omega
  have hwpr : w.heap.size < pr := by omega
  rw [hpr] at nr2 ⊢
  generalize (W.alloc (.cells #[.int .i64 (n' : Int), .int .i64 v] 89)).drew = U at *
  rw [hpr] at hsU
  clear hX hX1 hX2 nr q0 oO oH hbl hsz l0 a1 a2 g0 g1' g2' r0 r1 hrd hrA lbr lbb o0 o1 h0 h1 of hf hgl hgl2 hpr hbr
  have p0 : U.cell? ⟨pr, 0, none⟩ = some (.int .i64 (n' : Int)) := nr2.cell 0
  have lpr := nr2.lt
  have lg1 : g1 < U.heap.size := by omega
  have lg2 : g2 < U.heap.size := by omega
  refine Code.wp_mono (Q := Mid2 U o h (fun u po ph => List.toArray (u 0 :: .pointer (some ⟨w.heap.size, 0, none⟩) :: u 2 :: u 3 :: u 4 :: .slice (some ⟨g1, 0, none⟩) s.offs.length c1 :: .slice (some ⟨g2, 0, none⟩) s.baths.length c2 :: u 7 :: .bool ag :: .int .i64 (b : Int) :: .int .i64 (i : Int) :: .pointer (some ⟨pr, 0, none⟩) :: .int .i64 (v - er) :: .int .i64 (v + er) :: .pointer (some ⟨po, 0, none⟩) :: .pointer (some ⟨ph, 0, none⟩) :: u 16 :: u 17 :: u 18 :: u 19 :: u 20 :: u 21 :: u 22 :: u 23 :: u 24 :: u 25 :: u 26 :: u 27 :: u 28 :: u 29 :: u 30 :: u 31 :: u 32 :: u 33 :: u 34 :: u 35 :: u 36 :: u 37 :: u 38 :: u 39 :: u 40 :: u 41 :: u 42 :: u 43 :: u 44 :: u 45 :: u 46 :: u 47 :: u 48 :: u 49 :: u 50 :: u 51 :: u 52 :: u 53 :: u 54 :: u 55 :: u 56 :: u 57 :: u 58 :: u 59 :: u 60 :: u 61 :: u 62 :: u 63 :: u 64 :: u 65 :: u 66 :: u 67 :: u 68 :: u 69 :: u 70 :: u 71 :: u 72 :: u 73 :: u 74 :: u 75 :: u 76 :: u 77 :: u 78 :: u 79 :: u 80 :: u 81 :: u 82 :: u 83 :: u 84 :: u 85 :: u 86 :: u 87 :: u 88 :: u 89 :: u 90 :: u 91 :: u 92 :: u 93 :: u 94 :: u 95 :: u 96 :: u 97 :: u 98 :: u 99 :: u 100 :: u 101 :: u 102 :: u 103 :: u 104 :: u 105 :: u 106 :: u 107 :: u 108 :: u 109 :: u 110 :: u 111 :: u 112 :: u 113 :: u 114 :: u 115 :: u 116 :: u 117 :: u 118 :: u 119 :: u 120 :: u 121 :: u 122 :: u 123 :: u 124 :: u 125 :: u 126 :: u 127 :: u 128 :: u 129 :: u 130 :: u 131 :: u 132 :: u 133 :: u 134 :: u 135 :: u 136 :: u 137 :: u 138 :: u 139 :: u 140 :: u 141 :: u 142 :: u 143 :: u 144 :: u 145 :: u 146 :: u 147 :: u 148 :: u 149 :: u 150 :: u 151 :: u 152 :: u 153 :: []))) ?_ ?_
  rotate_left
  · --BEGIN m2
    refine wp_region_ext_tree 12 (.quiet 0 (.quiet 1 (.quiet 2 (.quiet 3 (.quiet 4 (.quiet 5 (.quiet 6 (.quiet 7 (.quiet 8 (.fork 9 (.loud 10 (.loud 11 .done)) 10 (.loud 9 (.loud 11 .done))))))))))))  (by kernel_rfl) (by kernel_rfl) (by rintro d v c a w ⟨h, _⟩; cases h) ?_
    have hX0 := (Below.refl U.heap.size U).drew
    repeat (refine tree_quiet rfl ?_; go_big_quiet_step (fail); refine wpQuiet_nil ?_)
    have hA := ex_alloc hX0 (.cells #[.int .i64 0, .int .i64 0] 46)
    have hAA := ex_alloc hA (.cells #[.int .i64 0, .int .i64 0] 46)
    refine tree_fork rfl rfl ?_ ?_
    · go_wp2_with fail
      refine ⟨inEx hA, ?_⟩
      refine tree_loud rfl ?_
      go_wp2_with fail
      refine ⟨inEx hAA, ?_⟩
      refine tree_loud rfl ?_
      go_wp2_with fail
      refine ⟨inEx (ex_alloc (ex_alloc hX0 (.cells #[.int .i64 o.lo, .int .i64 o.hi] 46)) (.cells #[.int .i64 0, .int .i64 0] 46)), ?_⟩
      refine tree_done (r := [_]) rfl ?_
      go_wp2_with fail
      have hc := ex_alloc (ex_alloc hX0 (.cells #[.int .i64 o.lo, .int .i64 o.hi] 46)) (.cells #[.int .i64 h.lo, .int .i64 h.hi] 46)
      exact ⟨rfl, U.heap.size, U.heap.size + 1, hc, by omega, by omega, by omega, (Blk.new _ _ _).alloc _, Blk.new' _ _ _ (by simp), exFrame' (by kernel_rfl)⟩
    · go_wp2_with fail
      refine ⟨inEx hA, ?_⟩
      refine tree_loud rfl ?_
      go_wp2_with fail
      refine ⟨inEx hAA, ?_⟩
      refine tree_loud rfl ?_
      go_wp2_with fail
      refine ⟨inEx (ex_alloc (ex_alloc hX0 (.cells #[.int .i64 0, .int .i64 0] 46)) (.cells #[.int .i64 o.lo, .int .i64 o.hi] 46)), ?_⟩
      refine tree_done (r := [_]) rfl ?_
      go_wp2_with fail
      have hc := ex_alloc (ex_alloc hX0 (.cells #[.int .i64 h.lo, .int .i64 h.hi] 46)) (.cells #[.int .i64 o.lo, .int .i64 o.hi] 46)
      exact ⟨rfl, U.heap.size + 1, U.heap.size, hc, by omega, by omega, by omega, Blk.new' _ _ _ (by simp), (Blk.new _ _ _).alloc _, exFrame' (by kernel_rfl)⟩
  rintro e a' W' ⟨rfl, po, ph, hZ, hpo, hph, hne, qo, qh, u, rfl⟩
  have lpo := qo.lt
  have lph := qh.lt
  have qS3 := qS.below hZ qS.lt
  have nr3 := nr2.below hZ lpr
  have oO3 := own_below oO2 hZ
  have oH3 := own_below oH2 hZ
  have BZ := ex_trans BU hZ
  have hsZ := hZ.size
  have o03 := (hZ.cell (p := ⟨g1, n' * 2, none⟩) lg1).trans o02
  have o13 := (hZ.cell (p := ⟨g1, n' * 2 + 1, none⟩) lg1).trans o12
  have h03 := (hZ.cell (p := ⟨g2, b * 2, none⟩) lg2).trans h02
  have h13 := (hZ.cell (p := ⟨g2, b * 2 + 1, none⟩) lg2).trans h12
  have p03 : W'.cell? ⟨pr, 0, none⟩ = some (.int .i64 (n' : Int)) := nr3.cell 0
  have lpr3 := nr3.lt
  have x0 : W'.cell? ⟨po, 0, none⟩ = some (.int .i64 o.lo) := qo.cell 0
  have x1 : W'.cell? ⟨po, 1, none⟩ = some (.int .i64 o.hi) := qo.cell 1
  have y0 : W'.cell? ⟨ph, 0, none⟩ = some (.int .i64 h.lo) := qh.cell 0
  have y1 : W'.cell? ⟨ph, 1, none⟩ = some (.int .i64 h.hi) := qh.cell 1
  have fo := qo.frozen0
  have fh := qh.frozen0
  have k1 : IntKind.i64.wrap (v - er - h.hi) = v - er - h.hi := IntWalk.i64_in _ (by omega)
  have k2 : IntKind.i64.wrap (v + er - h.lo) = v + er - h.lo := IntWalk.i64_in _ (by omega)
  have hne2 : ph ≠ po := fun e => hne e.symm
  have HNO : Hid ((min o.hi (v + er - h.lo) < max o.lo (v - er - h.hi) ∨ min h.hi (v + er - (max o.lo (v - er - h.hi))) < max h.lo (v - er - (min o.hi (v + er - h.lo)))) → ¬ Can s) := Lib.hid (fun hh => HP.out.holds.none HOK.out hltb hlti HIV.out HVV.out (by
    rw [HOE.out, HHE.out, HER.out]
    exact hh))
  have HC : Hid (∀ x, PassAt s O0 H0 b i ag O H → x = (ag || (!(decide ((⟨max o.lo (v - er - h.hi), min o.hi (v + er - h.lo)⟩ : Rg) = o)) || !(decide ((⟨max h.lo (v - er - (min o.hi (v + er - h.lo))), min h.hi (v + er - (max o.lo (v - er - h.hi)))⟩ : Rg) = h)))) → max o.lo (v - er - h.hi) ≤ min o.hi (v + er - h.lo) → max h.lo (v - er - (min o.hi (v + er - h.lo))) ≤ min h.hi (v + er - (max o.lo (v - er - h.hi))) → PassAt s O0 H0 b (i + 1) x (O.set n' ⟨max o.lo (v - er - h.hi), min o.hi (v + er - h.lo)⟩) (H.set b ⟨max h.lo (v - er - (min o.hi (v + er - h.lo))), min h.hi (v + er - (max o.lo (v - er - h.hi)))⟩)) := Lib.hid (fun x hp hx h1 h2 => hp.step HOK.out hltb hlti HIV.out HVV.out (by rw [HOE.out, HHE.out, HER.out]; rfl) (by rw [HHE.out, HER.out]; rfl) h1 h2 (by rw [HOE.out, HHE.out]; exact hx))
  have m1 : IntKind.i64.wrap (v - er - (min o.hi (v + er - h.lo))) = v - er - (min o.hi (v + er - h.lo)) := IntWalk.i64_in _ (by omega)
  have m2 : IntKind.i64.wrap (v + er - (max o.lo (v - er - h.hi))) = v + er - (max o.lo (v - er - h.hi)) := IntWalk.i64_in _ (by omega)
  by_cases hc1 : max o.lo (v - er - h.hi) ≤ min o.hi (v + er - h.lo)
  rotate_left
  · have HF : Hid (¬ Can s) := Lib.hid (HNO.out (.inl (by omega)))
    have HC0 : Hid (canB s = false) := Lib.hid (canB_false HF.out)
    have d1 : decide (min o.hi (v + er - h.lo) < max o.lo (v - er - h.hi)) = true := decide_eq_true (by omega)
    have hV := ex_set (ex_set (ex_set (ex_set hZ (p := ⟨po, 0, none⟩) hpo (.int .i64 (max o.lo (v - er - h.hi)))) (p := ⟨po, 1, none⟩) hpo (.int .i64 (min o.hi (v + er - h.lo)))) (p := ⟨ph, 0, none⟩) hph (.int .i64 (max h.lo (v - er - (min o.hi (v + er - h.lo)))))) (p := ⟨ph, 1, none⟩) hph (.int .i64 (min h.hi (v + er - (max o.lo (v - er - h.hi)))))
    clear hc1 HNO HC
    go_wp2
    go_ret3
    refine ⟨⟨none, 0, none, 0, [], [], ?_, Lib.hid (.inr ⟨HF.out, rfl, rfl⟩), fun h => absurd h (by simp), fun h => absurd h (by simp)⟩, ex_trans BU hV⟩
    rw [HC0.out]
    rfl
  have d1 : decide (min o.hi (v + er - h.lo) < max o.lo (v - er - h.hi)) = false := decide_eq_false (by omega)
  by_cases hc2 : max h.lo (v - er - (min o.hi (v + er - h.lo))) ≤ min h.hi (v + er - (max o.lo (v - er - h.hi)))
  rotate_left
  · have HF : Hid (¬ Can s) := Lib.hid (HNO.out (.inr (by omega)))
    have HC0 : Hid (canB s = false) := Lib.hid (canB_false HF.out)
    have d2 : decide (min h.hi (v + er - (max o.lo (v - er - h.hi))) < max h.lo (v - er - (min o.hi (v + er - h.lo)))) = true := decide_eq_true (by omega)
    have hV := ex_set (ex_set (ex_set (ex_set hZ (p := ⟨po, 0, none⟩) hpo (.int .i64 (max o.lo (v - er - h.hi)))) (p := ⟨po, 1, none⟩) hpo (.int .i64 (min o.hi (v + er - h.lo)))) (p := ⟨ph, 0, none⟩) hph (.int .i64 (max h.lo (v - er - (min o.hi (v + er - h.lo)))))) (p := ⟨ph, 1, none⟩) hph (.int .i64 (min h.hi (v + er - (max o.lo (v - er - h.hi)))))
    clear hc1 hc2 HNO HC
    go_wp2
    go_ret3
    refine ⟨⟨none, 0, none, 0, [], [], ?_, Lib.hid (.inr ⟨HF.out, rfl, rfl⟩), fun h => absurd h (by simp), fun h => absurd h (by simp)⟩, ex_trans BU hV⟩
    rw [HC0.out]
    rfl
  have d2 : decide (min h.hi (v + er - (max o.lo (v - er - h.hi))) < max h.lo (v - er - (min o.hi (v + er - h.lo)))) = false := decide_eq_false (by omega)
  have HC1 := Lib.hid hc1
  have HC2 := Lib.hid hc2
  clear hc1 hc2
  go_wp2_with fail
  have hV := ex_set (ex_set (ex_set (ex_set hZ (p := ⟨po, 0, none⟩) hpo (.int .i64 (max o.lo (v - er - h.hi)))) (p := ⟨po, 1, none⟩) hpo (.int .i64 (min o.hi (v + er - h.lo)))) (p := ⟨ph, 0, none⟩) hph (.int .i64 (max h.lo (v - er - (min o.hi (v + er - h.lo)))))) (p := ⟨ph, 1, none⟩) hph (.int .i64 (min h.hi (v + er - (max o.lo (v - er - h.hi)))))
  have qo2 := (((qo.set_ 0 (.int .i64 (max o.lo (v - er - h.hi)))).set_ 1 (.int .i64 (min o.hi (v + er - h.lo)))).far (p := ⟨ph, 0, none⟩) hne (.int .i64 (max h.lo (v - er - (min o.hi (v + er - h.lo)))))).far (p := ⟨ph, 1, none⟩) hne (.int .i64 (min h.hi (v + er - (max o.lo (v - er - h.hi)))))
  have qh2 := (((qh.far (p := ⟨po, 0, none⟩) hne2 (.int .i64 (max o.lo (v - er - h.hi)))).far (p := ⟨po, 1, none⟩) hne2 (.int .i64 (min o.hi (v + er - h.lo)))).set_ 0 (.int .i64 (max h.lo (v - er - (min o.hi (v + er - h.lo)))))).set_ 1 (.int .i64 (min h.hi (v + er - (max o.lo (v - er - h.hi)))))
  simp only [List.setIfInBounds_toArray, List.set_cons_zero, List.set_cons_succ] at qo2 qh2
  obtain ⟨V, hVE⟩ : ∃ V, ((((W'.setCell ⟨po, 0, none⟩ (.int .i64 (max o.lo (v - er - h.hi)))).setCell ⟨po, 1, none⟩ (.int .i64 (min o.hi (v + er - h.lo)))).setCell ⟨ph, 0, none⟩ (.int .i64 (max h.lo (v - er - (min o.hi (v + er - h.lo)))))).setCell ⟨ph, 1, none⟩ (.int .i64 (min h.hi (v + er - (max o.lo (v - er - h.hi)))))) = V := ⟨_, rfl⟩
  rw [hVE] at hV qo2 qh2 ⊢
  clear hVE qo qh x0 x1 y0 y1 fo fh lpo lph qS3 nr3 oO3 oH3 BZ o03 o13 h03 h13 p03 lpr3 hZ hsZ d1 d2 m1 m2 k1 k2 HNO w1 w2
  obtain ⟨nl, hnl⟩ : ∃ x, max o.lo (v - er - h.hi) = x := ⟨_, rfl⟩
  obtain ⟨nh, hnh⟩ : ∃ x, min o.hi (v + er - h.lo) = x := ⟨_, rfl⟩
  rw [hnl, hnh] at qh2
  rw [hnl] at qo2 HC1 HC HC2
  rw [hnh] at qo2 HC1 HC HC2
  clear hnl hnh
  obtain ⟨ml, hml⟩ : ∃ x, max h.lo (v - er - nh) = x := ⟨_, rfl⟩
  obtain ⟨mh, hmh⟩ : ∃ x, min h.hi (v + er - nl) = x := ⟨_, rfl⟩
  rw [hml, hmh] at qh2 HC2 HC
  clear hml hmh
  -- what region 23 asks
  have qS4 := qS.below hV qS.lt
  have nr4 := nr2.below hV lpr
  have hsV := hV.size
  have o04 := (hV.cell (p := ⟨g1, n' * 2, none⟩) lg1).trans o02
  have o14 := (hV.cell (p := ⟨g1, n' * 2 + 1, none⟩) lg1).trans o12
  have h04 := (hV.cell (p := ⟨g2, b * 2, none⟩) lg2).trans h02
  have h14 := (hV.cell (p := ⟨g2, b * 2 + 1, none⟩) lg2).trans h12
  have p04 : V.cell? ⟨pr, 0, none⟩ = some (.int .i64 (n' : Int)) := nr4.cell 0
  have lpr4 := nr4.lt
  have lg14 : g1 < V.heap.size := by omega
  have lg24 : g2 < V.heap.size := by omega
  have z0 : V.cell? ⟨po, 0, none⟩ = some (.int .i64 nl) := qo2.cell 0
  have z1 : V.cell? ⟨po, 1, none⟩ = some (.int .i64 nh) := qo2.cell 1
  have t0 : V.cell? ⟨ph, 0, none⟩ = some (.int .i64 ml) := qh2.cell 0
  have t1 : V.cell? ⟨ph, 1, none⟩ = some (.int .i64 mh) := qh2.cell 1
  have lo4 := qo2.lt
  have lh4 := qh2.lt
  have HST : Hid (∀ x, x = (ag || (!(decide ((⟨nl, nh⟩ : Rg) = o)) || !(decide ((⟨ml, mh⟩ : Rg) = h)))) → PassAt s O0 H0 b (i + 1) x (O.set n' ⟨nl, nh⟩) (H.set b ⟨ml, mh⟩)) := Lib.hid (fun x hx => HC.out x HP.out hx HC1.out HC2.out)
  clear HC HC1 HC2 HP
  obtain ⟨x, hx⟩ : ∃ x, x = (ag || (!(decide ((⟨nl, nh⟩ : Rg) = o)) || !(decide ((⟨ml, mh⟩ : Rg) = h)))) := ⟨_, rfl⟩
  have HX := Lib.hid hx
  have HPN := Lib.hid (HST.out x hx)
  clear hx HST
  refine Code.wp_mono (Q := Mid23 V (fun u => List.toArray (u 0 :: .pointer (some ⟨w.heap.size, 0, none⟩) :: u 2 :: u 3 :: u 4 :: .slice (some ⟨g1, 0, none⟩) s.offs.length c1 :: .slice (some ⟨g2, 0, none⟩) s.baths.length c2 :: u 7 :: .bool x :: .int .i64 (b : Int) :: .int .i64 (i : Int) :: .pointer (some ⟨pr, 0, none⟩) :: u 12 :: u 13 :: .pointer (some ⟨po, 0, none⟩) :: .pointer (some ⟨ph, 0, none⟩) :: u 16 :: u 17 :: u 18 :: u 19 :: u 20 :: u 21 :: u 22 :: u 23 :: u 24 :: u 25 :: u 26 :: u 27 :: u 28 :: u 29 :: u 30 :: u 31 :: u 32 :: u 33 :: u 34 :: u 35 :: u 36 :: u 37 :: u 38 :: u 39 :: u 40 :: u 41 :: u 42 :: u 43 :: u 44 :: u 45 :: u 46 :: u 47 :: u 48 :: u 49 :: u 50 :: u 51 :: u 52 :: u 53 :: u 54 :: u 55 :: u 56 :: u 57 :: u 58 :: u 59 :: u 60 :: u 61 :: u 62 :: u 63 :: u 64 :: u 65 :: u 66 :: u 67 :: u 68 :: u 69 :: u 70 :: u 71 :: u 72 :: u 73 :: u 74 :: u 75 :: u 76 :: u 77 :: u 78 :: u 79 :: u 80 :: u 81 :: u 82 :: u 83 :: u 84 :: u 85 :: u 86 :: u 87 :: u 88 :: u 89 :: u 90 :: u 91 :: u 92 :: u 93 :: u 94 :: u 95 :: u 96 :: u 97 :: u 98 :: u 99 :: u 100 :: u 101 :: u 102 :: u 103 :: u 104 :: u 105 :: u 106 :: u 107 :: u 108 :: u 109 :: u 110 :: u 111 :: u 112 :: u 113 :: u 114 :: u 115 :: u 116 :: u 117 :: u 118 :: u 119 :: u 120 :: u 121 :: u 122 :: u 123 :: u 124 :: u 125 :: u 126 :: u 127 :: u 128 :: u 129 :: u 130 :: u 131 :: u 132 :: u 133 :: u 134 :: u 135 :: u 136 :: u 137 :: u 138 :: u 139 :: u 140 :: u 141 :: u 142 :: u 143 :: u 144 :: u 145 :: u 146 :: u 147 :: u 148 :: u 149 :: u 150 :: u 151 :: u 152 :: u 153 :: []))) ?_ ?_
  rotate_left
  · --BEGIN m4
    have hX0 := (Below.refl V.heap.size V).drew
    cases ag
    rotate_left
    · have hxt : x = true := HX.out
      subst hxt
      refine wp_region_ext_mix 18 [(false, 0), (false, 1), (false, 2), (false, 3), (false, 4), (false, 5), (false, 6), (false, 7), (false, 8), (false, 9), (false, 10), (false, 11), (false, 12), (false, 13), (false, 14), (false, 15), (false, 16), (false, 17)] (by kernel_rfl) (by kernel_rfl) (by rintro d v c a w ⟨h, _⟩; cases h) ?_
      repeat (refine mix_quiet rfl ?_; go_big_quiet_step (fail); refine wpQuiet_nil ?_)
      refine mix_nil rfl ?_
      go_wp2_with fail
      exact ⟨rfl, hX0, exFrame' (by kernel_rfl)⟩
    by_cases e1 : nl = o.lo
    rotate_left
    · have hxt : x = true := by rw [HX.out, decide_eq_false (fun e => e1 (congrArg Rg.lo e))]; rfl
      subst hxt
      have b1 : (nl == o.lo) = false := by simp [e1]
      have b1' : (nl != o.lo) = true := by simp [e1]
      clear e1 HX
      refine wp_region_ext_mix 18 [(false, 0), (false, 1), (false, 2), (false, 3), (false, 4), (false, 5), (false, 6), (false, 7), (false, 8), (false, 9), (false, 10), (false, 11), (false, 12), (false, 13), (false, 14), (false, 15), (false, 16), (false, 17)] (by kernel_rfl) (by kernel_rfl) (by rintro d v c a w ⟨h, _⟩; cases h) ?_
      repeat (refine mix_quiet rfl ?_; go_big_quiet_step (fail); refine wpQuiet_nil ?_)
      refine mix_nil rfl ?_
      go_wp2_with fail
      exact ⟨rfl, hX0, exFrame' (by kernel_rfl)⟩
    by_cases e2 : nh = o.hi
    rotate_left
    · have hxt : x = true := by rw [HX.out, decide_eq_false (fun e => e2 (congrArg Rg.hi e))]; rfl
      subst hxt
      have b1 : (nl == o.lo) = true := by simp [e1]
      have b2 : (nh == o.hi) = false := by simp [e2]
      have b1' : (nl != o.lo) = false := by simp [e1]
      have b2' : (nh != o.hi) = true := by simp [e2]
      clear e1 e2 HX
      refine wp_region_ext_mix 18 [(false, 0), (false, 1), (false, 2), (false, 3), (false, 4), (false, 5), (false, 6), (false, 7), (false, 8), (false, 9), (false, 10), (false, 11), (false, 12), (false, 13), (false, 14), (false, 15), (false, 16), (false, 17)] (by kernel_rfl) (by kernel_rfl) (by rintro d v c a w ⟨h, _⟩; cases h) ?_
      repeat (refine mix_quiet rfl ?_; go_big_quiet_step (fail); refine wpQuiet_nil ?_)
      refine mix_nil rfl ?_
      go_wp2_with fail
      exact ⟨rfl, hX0, exFrame' (by kernel_rfl)⟩
    have b1 : (nl == o.lo) = true := by simp [e1]
    have b2 : (nh == o.hi) = true := by simp [e2]
    have b1' : (nl != o.lo) = false := by simp [e1]
    have b2' : (nh != o.hi) = false := by simp [e2]
    have HX2 : Hid (x = !(decide ((⟨ml, mh⟩ : Rg) = h))) := Lib.hid (by rw [HX.out, decide_eq_true (rg_ext e1 e2)]; rfl)
    clear e1 e2 HX
    by_cases e3 : ml = h.lo
    rotate_left
    · have hxt : x = true := by rw [HX2.out, decide_eq_false (fun e => e3 (congrArg Rg.lo e))]; rfl
      subst hxt
      have b3 : (ml == h.lo) = false := by simp [e3]
      have b3' : (ml != h.lo) = true := by simp [e3]
      clear e3 HX2
      refine wp_region_ext_mix 18 [(false, 0), (false, 1), (false, 2), (false, 3), (false, 4), (false, 5), (false, 6), (false, 7), (false, 8), (false, 9), (false, 10), (false, 11), (false, 12), (false, 13), (false, 14), (false, 15), (false, 16), (false, 17)] (by kernel_rfl) (by kernel_rfl) (by rintro d v c a w ⟨h, _⟩; cases h) ?_
      repeat (refine mix_quiet rfl ?_; go_big_quiet_step (fail); refine wpQuiet_nil ?_)
      refine mix_nil rfl ?_
      go_wp2_with fail
      exact ⟨rfl, hX0, exFrame' (by kernel_rfl)⟩
    by_cases e4 : mh = h.hi
    rotate_left
    · have hxt : x = true := by rw [HX2.out, decide_eq_false (fun e => e4 (congrArg Rg.hi e))]; rfl
      subst hxt
      have b3 : (ml == h.lo) = true := by simp [e3]
      have b4 : (mh == h.hi) = false := by simp [e4]
      have b3' : (ml != h.lo) = false := by simp [e3]
      have b4' : (mh != h.hi) = true := by simp [e4]
      clear e3 e4 HX2
      refine wp_region_ext_mix 18 [(false, 0), (false, 1), (false, 2), (false, 3), (false, 4), (false, 5), (false, 6), (false, 7), (false, 8), (false, 9), (false, 10), (false, 11), (false, 12), (false, 13), (false, 14), (false, 15), (false, 16), (false, 17)] (by kernel_rfl) (by kernel_rfl) (by rintro d v c a w ⟨h, _⟩; cases h) ?_
      repeat (refine mix_quiet rfl ?_; go_big_quiet_step (fail); refine wpQuiet_nil ?_)
      refine mix_nil rfl ?_
      go_wp2_with fail
      exact ⟨rfl, hX0, exFrame' (by kernel_rfl)⟩
    · have hxt : x = false := by rw [HX2.out, decide_eq_true (rg_ext e3 e4)]; rfl
      subst hxt
      have b3 : (ml == h.lo) = true := by simp [e3]
      have b4 : (mh == h.hi) = true := by simp [e4]
      have b3' : (ml != h.lo) = false := by simp [e3]
      have b4' : (mh != h.hi) = false := by simp [e4]
      clear e3 e4 HX2
      refine wp_region_ext_mix 18 [(false, 0), (false, 1), (false, 2), (false, 3), (false, 4), (false, 5), (false, 6), (false, 7), (false, 8), (false, 9), (false, 10), (false, 11), (false, 12), (false, 13), (false, 14), (false, 15), (false, 16), (false, 17)] (by kernel_rfl) (by kernel_rfl) (by rintro d v c a w ⟨h, _⟩; cases h) ?_
      repeat (refine mix_quiet rfl ?_; go_big_quiet_step (fail); refine wpQuiet_nil ?_)
      refine mix_nil rfl ?_
      go_wp2_with fail
      exact ⟨rfl, hX0, exFrame' (by kernel_rfl)⟩
  rintro e a' V2 ⟨rfl, hV2, u, rfl⟩
  have hVV := ex_trans hV hV2
  have qo5 := qo2.below hV2 lo4
  have qh5 := qh2.below hV2 lh4
  have qS5 := qS.below hVV qS.lt
  have nr5 := nr2.below hVV lpr
  have oO5 := own_below oO2 hVV
  have oH5 := own_below oH2 hVV
  have B5 := ex_trans BU hVV
  have hs5 := hVV.size
  clear o04 o14 h04 h14 p04 lpr4 lg14 lg24 z0 z1 t0 t1 lo4 lh4 qo2 qh2 nr4 qS4 HX
  have o05 := (hVV.cell (p := ⟨g1, n' * 2, none⟩) lg1).trans o02
  have o15 := (hVV.cell (p := ⟨g1, n' * 2 + 1, none⟩) lg1).trans o12
  have h05 := (hVV.cell (p := ⟨g2, b * 2, none⟩) lg2).trans h02
  have h15 := (hVV.cell (p := ⟨g2, b * 2 + 1, none⟩) lg2).trans h12
  have fO : ∀ j, V2.frozen? ⟨g1, j, none⟩ = false := fun j => by
    obtain ⟨_, _, e1, _, _, _, _, hf⟩ := rgs_cell oO5 hnO
    injection e1 with e1
    injection e1 with e1
    injection e1 with e1
    subst e1
    exact hf j
  have fH : ∀ j, V2.frozen? ⟨g2, j, none⟩ = false := fun j => by
    obtain ⟨_, _, e1, _, _, _, _, hf⟩ := rgs_cell oH5 hbH
    injection e1 with e1
    injection e1 with e1
    injection e1 with e1
    subst e1
    exact hf j
  have p05 : V2.cell? ⟨pr, 0, none⟩ = some (.int .i64 (n' : Int)) := nr5.cell 0
  have z0 : V2.cell? ⟨po, 0, none⟩ = some (.int .i64 nl) := qo5.cell 0
  have z1 : V2.cell? ⟨po, 1, none⟩ = some (.int .i64 nh) := qo5.cell 1
  have t0 : V2.cell? ⟨ph, 0, none⟩ = some (.int .i64 ml) := qh5.cell 0
  have t1 : V2.cell? ⟨ph, 1, none⟩ = some (.int .i64 mh) := qh5.cell 1
  have lpr5 := nr5.lt
  have lo5 := qo5.lt
  have lh5 := qh5.lt
  have lg15 : g1 < V2.heap.size := by omega
  have lg25 : g2 < V2.heap.size := by omega
  have c1' : ¬ pr = g1 := by omega
  have c2' : ¬ po = g1 := by omega
  have c3' : ¬ ph = g1 := by omega
  have hg21 : g2 ≠ g1 := by omega
  have hg12 : g1 ≠ g2 := by omega
  have hwl := qS5.lt
  clear hV2 hVV hV nr2 qS oO2 oH2 o02 o12 h02 h12 hsV
  go_wp2_with fail
  refine wp_region_gx_mix (some g1) 10 [(false, 0), (false, 1), (false, 2), (false, 3), (false, 4), (false, 5), (false, 6), (false, 7), (true, 8), (false, 9)] (by kernel_rfl) (by kernel_rfl) (by intro d _ _ _ _ h; cases d <;> exact h) ?_
  repeat (refine mix_quiet rfl ?_; go_big_quiet_step (fail); refine wpQuiet_nil ?_)
  refine mix_loud rfl ?_
  go_wp2_with fail
  refine ⟨inGx (((grown_row (r := some g1) (Below.refl V2.heap.size V2).drew).andThen (grown_set V2.drew g1 (n' * 2) (.int .i64 nl)) (fun j hj => .inr hj)).andThen (grown_set _ g1 (n' * 2 + 1) (.int .i64 nh)) (fun j hj => .inr hj)), ?_⟩
  repeat (refine mix_quiet rfl ?_; go_big_quiet_step (fail); refine wpQuiet_nil ?_)
  refine mix_nil rfl ?_
  go_wp2_with fail
  have oO6 := rgs_set oO5 (show (Value.slice (some ⟨g1, 0, none⟩) s.offs.length c1).ownBlock = some g1 from rfl) hnO ⟨nl, nh⟩
  have oH6 := own_far (own_far oH5 (p := ⟨g1, n' * 2, none⟩) (by show g1 < B2; omega) (.int .i64 nl)) (p := ⟨g1, n' * 2 + 1, none⟩) (by show g1 < B2; omega) (.int .i64 nh)
  have qS6 := (qS5.far (p := ⟨g1, n' * 2, none⟩) (by show w.heap.size ≠ g1; omega) (.int .i64 nl)).far (p := ⟨g1, n' * 2 + 1, none⟩) (by show w.heap.size ≠ g1; omega) (.int .i64 nh)
  have B6 := ex_set (ex_set B5 (p := ⟨g1, n' * 2, none⟩) (by show w.heap.size ≤ g1; omega) (.int .i64 nl)) (p := ⟨g1, n' * 2 + 1, none⟩) (by show w.heap.size ≤ g1; omega) (.int .i64 nh)
  have hs6 : ((V2.setCell ⟨g1, n' * 2, none⟩ (.int .i64 nl)).setCell ⟨g1, n' * 2 + 1, none⟩ (.int .i64 nh)).heap.size = V2.heap.size := by simp
  generalize (V2.setCell ⟨g1, n' * 2, none⟩ (.int .i64 nl)).setCell ⟨g1, n' * 2 + 1, none⟩ (.int .i64 nh) = Y1 at *
  have oH7 := rgs_set oH6 (show (Value.slice (some ⟨g2, 0, none⟩) s.baths.length c2).ownBlock = some g2 from rfl) hbH ⟨ml, mh⟩
  have F1 := Fr.set (R := fun x => x = g2) Y1 g2 (b * 2) (.int .i64 ml) rfl
  have F2 := F1.andSet (b := g2) (i := b * 2 + 1) (v := .int .i64 mh) rfl
  have oO7 := own_fr oO6 F2 (fun j hj e => by
    have h1 : g1 = j := by simpa [Value.ownBlock] using hj
    have h2 : j = g2 := e
    omega)
  have qS7 := (qS6.far (p := ⟨g2, b * 2, none⟩) (by show w.heap.size ≠ g2; omega) (.int .i64 ml)).far (p := ⟨g2, b * 2 + 1, none⟩) (by show w.heap.size ≠ g2; omega) (.int .i64 mh)
  have B7 := ex_set (ex_set B6 (p := ⟨g2, b * 2, none⟩) (by show w.heap.size ≤ g2; omega) (.int .i64 ml)) (p := ⟨g2, b * 2 + 1, none⟩) (by show w.heap.size ≤ g2; omega) (.int .i64 mh)
  have hs7 : ((Y1.setCell ⟨g2, b * 2, none⟩ (.int .i64 ml)).setCell ⟨g2, b * 2 + 1, none⟩ (.int .i64 mh)).heap.size = V2.heap.size := by simp [hs6]
  generalize (Y1.setCell ⟨g2, b * 2, none⟩ (.int .i64 ml)).setCell ⟨g2, b * 2 + 1, none⟩ (.int .i64 mh) = Y2 at *
  have hD := (Below.refl Y2.heap.size Y2).drew
  refine ⟨⟨⟨i + 1, O.set n' ⟨nl, nh⟩, H.set b ⟨ml, mh⟩, x, by omega, HPN, ex_trans B7 hD, by have := hD.size; omega, qS7.below hD qS7.lt, own_below oO7 hD, own_below oH7 hD, exFrame (by kernel_rfl)⟩⟩, ?_⟩
  show (gBt s.baths b).reads.length - (intOf (.int .i64 ((i : Int) + 1))).toNat < (gBt s.baths b).reads.length - (intOf (.int .i64 (i : Int))).toNat
  simp [intOf]
  omega
end Go.Proofs.Ytnplefhigbkbbaa
end
