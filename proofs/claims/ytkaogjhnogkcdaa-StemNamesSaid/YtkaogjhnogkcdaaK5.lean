/- Glass: depths (walk). · Glass: the states of a day behind one (plain). -/
import Derived.Test.YtkaogjhnogkcdaaK3
import Derived.Test.YtkaogjhnogkcdaaK4
set_option linter.unusedVariables false
set_option linter.unusedSimpArgs false
set_option linter.unusedSectionVars false
section
namespace Go.Proofs.Ytkaogjhnogkcdaa
open Go.RowKit

def depTo (g : Gl) (lo hi : Int) : Nat → List Int
  | 0 => [sinks g lo]
  | k + 1 => if lo < (gD g.depths k).from_ ∧ (gD g.depths k).from_ ≤ hi then depTo g lo hi k ++ [(gD g.depths k).sink] else depTo g lo hi k
theorem depTo_len {g : Gl} {lo hi : Int} : ∀ {k : Nat}, 0 < (depTo g lo hi k).length ∧ (depTo g lo hi k).length ≤ k + 1
  | 0 => by simp [depTo]
  | k + 1 => by
    have := depTo_len (g := g) (lo := lo) (hi := hi) (k := k)
    rw [depTo]; split
    · simp only [List.length_append, List.length_singleton]; omega
    · omega
def depL (g : Gl) (h : List Rg) (d : Nat) : List Int := Lib.compact (depTo g (gR h d).lo (gR h d).hi g.depths.length)

theorem below_setCells (b : Nat) : ∀ (vs : List Value) (o : Nat) {B : Nat} {a w : World}, Below B a w → B ≤ b → Below B a (w.setCells b o vs)
  | [], _, _, _, _, h, _ => h
  | v :: vs, o, _, _, _, h, hb => below_setCells b vs (o + 1) (h.setCell (p := ⟨b, o, none⟩) hb v) hb
theorem compact_len (l : List Int) : (Lib.compact l).length ≤ l.length := by
  unfold Lib.compact Lib.compactUpTo
  rw [List.length_map]
  exact Nat.le_trans (List.length_filter_le _ _) (by simp)

theorem compact_cells {w : World} {b c n : Nat} {l : List Int} (hn : n = l.length) (hown : w.ownsRow 0 3 1 (.slice (some ⟨b, 0, none⟩) n c) n (l.map (Value.int .i64))) :
    Calls Try.prog 83 #[.slice (some ⟨b, 0, none⟩) n c] w fun e w' =>
      e = .returned (.slice (some ⟨b, 0, none⟩) (Lib.compact l).length c) ∧ SlAt w' w'.heap.size 1 (some ⟨b, 0, none⟩) (Lib.compact l).length (fI (Lib.compact l)) ∧ Below b w w' := by
  subst hn
  obtain ⟨A, c', hv, hlc, hsl⟩ := own_sl hown
  injection hv with hv1 hv2 hv3
  subst hv1 hv3
  rcases hown.2 with ⟨h0, _⟩ | ⟨g, cap, cur, hv, _, hh, hnc, hm, hsz, hcur⟩
  · cases h0
  injection hv with hv1 _ hv3
  injection hv1 with hv1
  injection hv1 with hv1
  subst hv1 hv3
  have hbw : b < w.heap.size := (Array.getElem?_eq_some_iff.1 hh).1
  have hcell : ∀ j, j < c → (w.cell? ⟨b, j, none⟩).isSome = true := fun j hj => by rw [cell_of_row w b j cur _ (0, 0) hh]; simp [hsz, hj]
  have hfr : ∀ j, w.frozen? ⟨b, j, none⟩ = false := fun j => by simp [World.frozen?, hh]
  have hc0 : ∀ j, j < l.length → w.cell? ⟨b, 0 + j, none⟩ = some (.int .i64 (l.getD j 0)) := fun j hj => by
    obtain ⟨b', off, e, _, hc⟩ := hsl (by omega)
    injection e with e; injection e with e1 e2; subst e1 e2
    simpa [fI, gI] using hc j 0 hj (by omega)
  have hmx : c ≤ maxLen := hm
  have := slices_Compact_int_cells b 0 l.length c l w (Nat.le_refl _) (by unfold maxLen at hmx; omega) hnc hc0 (fun j _ => hfr _)
  refine this.mono ?_
  rintro e w' ⟨rfl, q, rfl⟩
  rw [List.take_length]
  have hcl := compact_len l
  generalize hk : Lib.compact l = k at *
  refine ⟨by first | rfl | trivial, fun h1 => ⟨b, 0, rfl, ?_, fun j i hj hi => ?_⟩, ?_⟩
  · have := (below_setCells b ((k ++ List.replicate (l.length - k.length) 0).map (Value.int .i64)) 0 (ex_drewN (Below.refl w.heap.size w) q |>.mono (Nat.le_of_lt hbw)) (Nat.le_refl b)).size
    omega
  · obtain rfl : i = 0 := by omega
    have := World.cell?_setCells_in b ((k ++ List.replicate (l.length - k.length) 0).map (Value.int .i64)) 0 (w.drewN q) (fun j hj => by
      simp only [List.length_map, List.length_append, List.length_replicate] at hj
      have := hcell j (by omega)
      simpa using this) j (by simp; omega)
    simp only [Nat.mul_one, Nat.add_zero] at this ⊢
    rw [this]
    simp [fI, gI, List.getElem_append, hj, List.getElem?_eq_getElem hj]
  · exact below_setCells b _ 0 (ex_drewN (Below.refl w.heap.size w) q |>.mono (Nat.le_of_lt hbw)) (Nat.le_refl b)

theorem heap_alloc_at (w : World) (o : Obj) {g : Nat} (h : w.heap.size = g) : (w.alloc o).heap[g]? = some o := h ▸ heap_alloc_new w o

set_option maxRecDepth 100000 in
set_option maxHeartbeats 3200000 in
theorem depths_any (g : Gl) (Ab Ad Ah : Option Addr) (cb cd ch d : Nat) (h : List Rg) (w : World) (hg : GlIn w w.heap.size g Ab Ad) (hh : SlAt w w.heap.size 2 Ah h.length (fR h)) (hd : d < h.length) (hn5 : g.depths.length ≤ 1000) :
    Calls Try.prog 76 #[.agg #[.int .i64 g.base, .slice Ab g.bands.length cb, .slice Ad g.depths.length cd, .int .i64 g.blo, .int .i64 g.bhi, .slice Ah h.length ch], .int .i64 (d : Int)] w fun e w' =>
      (∃ A c, e = .returned (.slice A (depL g h d).length c) ∧ SlAt w' w'.heap.size 1 A (depL g h d).length (fI (depL g h d))) ∧ Below w.heap.size w w' := by
  obtain ⟨i0, hi0, hz0, hz1, hz2⟩ := info_parts int_info
  have HI := Lib.hid hi0
  clear hi0
  obtain ⟨b0, o0, rfl, hb0, p1, p2⟩ := IsRgs.at_ hh hd
  have hbd := Lib.hid (show depL g h d = Lib.compact (depTo g (gR h d).lo (gR h d).hi g.depths.length) from rfl)
  generalize gR h d = r at *
  obtain ⟨lo, hi⟩ := r
  simp only at p1 p2 hbd
  have hb1 := ex_alloc (ex_alloc (Below.refl w.heap.size w) (.cells #[.int .i64 g.base, .slice Ab g.bands.length cb, .slice Ad g.depths.length cd, .int .i64 g.blo, .int .i64 g.bhi, .slice (some ⟨b0, o0, none⟩) h.length ch] 105)) (.cells #[.int .i64 lo, .int .i64 hi] 23)
  have hB1 := hb1.size
  have hd1 := (hg.d.below hb1).up hB1
  go_enter Try.func76, Try.ntmps76
  go_wp2_with fail
  refine (sinks_any _ _ _ _ _ _ _ _ _ g.depths _ (Nat.le_refl _) (by omega) hd1).mono ?_
  rintro e w2 ⟨rfl, hb2⟩
  have hB2 := ex_trans hb1 hb2
  have q1 : Blk w2 w.heap.size 105 #[.int .i64 g.base, .slice Ab g.bands.length cb, .slice Ad g.depths.length cd, .int .i64 g.blo, .int .i64 g.bhi, .slice (some ⟨b0, o0, none⟩) h.length ch] := ((Blk.new _ _ _).alloc _).below hb2 (by first | (simp; done) | (simp; omega))
  have q2 : Blk w2 (w.heap.size + 1) 23 #[.int .i64 lo, .int .i64 hi] := (Blk.new' _ _ _ (by simp)).below hb2 (by first | (simp; done) | (simp; omega))
  have hw2 : w.heap.size + 1 + 1 ≤ w2.heap.size + 1 := by have := hb2.size; simp at this; omega
  have HS0 := Lib.hid (show depTo g lo hi 0 = [sinksTo g.depths lo g.depths.length] from rfl)
  generalize sinksTo g.depths lo g.depths.length = s0 at *
  have y4 : (w2.alloc (.cells #[.int .i64 s0] 3)).ownsRow (w.heap.size + 1 + 1) 3 1 (.slice none 0 0) 0 [] := ⟨rfl, .inl ⟨rfl, rfl⟩⟩
  have c63 : 0 + 1 ≤ maxLen := by unfold maxLen; omega
  clear hb1 hd1 hB1
  go_wp2_with (at_builtin; refine wpList_append_lies _ rfl _ _ _ rfl (w.heap.size + 1 + 1) 3 i0 _ 1 8 Try.underlying76 HI.out hz0 hz1 hz2 rfl (by omega) (.slice none 0 0) _ _ rfl y4 ⟨w2.heap.size, 0, none⟩ 1 1 [.int .i64 s0] rfl rfl (World.news_of_block (heap_alloc_at _ _ (by simp))) (by simp [Value.oneCell']) (by omega) c63 (by omega) (by simpa using hw2) (w2.heap.size + 1) (by simp) ?_; intro gg cap w1 hown' hgrow hat hlt'; have q1 := (q1.alloc (.cells #[.int .i64 s0] 3)).grown hgrow (by simp [Value.ownBlock]); have ql := q1.cell 2; simp at ql)
  clear y4
  have hb3 : Below w.heap.size w w1 := (ex_alloc hB2 _).grown hgrow (by simp; omega) (fun j hj => by cases hj)
  have q2 : Blk w1 (w.heap.size + 1) 23 #[.int .i64 lo, .int .i64 hi] := (q2.alloc _).grown hgrow (by simp [Value.ownBlock])
  have hown0 : w1.ownsRow (w.heap.size + 1 + 1) 3 1 (.slice (some ⟨gg, 0, none⟩) 1 cap) (depTo g lo hi 0).length ((depTo g lo hi 0).map (Value.int .i64)) := by rw [HS0.out]; exact hown'
  clear hown' hat hgrow
  go_loopw [4, 25] (fun v i wr => ∃ k : Nat, k ≤ g.depths.length ∧ i = .int .i64 k ∧ Below w.heap.size w wr ∧ Blk wr w.heap.size 105 #[.int .i64 g.base, .slice Ab g.bands.length cb, .slice Ad g.depths.length cd, .int .i64 g.blo, .int .i64 g.bhi, .slice (some ⟨b0, o0, none⟩) h.length ch] ∧ Blk wr (w.heap.size + 1) 23 #[.int .i64 lo, .int .i64 hi] ∧
      wr.ownsRow (w.heap.size + 1 + 1) 3 1 v (depTo g lo hi k).length ((depTo g lo hi k).map (Value.int .i64)))
    (fun _ i _ => g.depths.length - (intOf i).toNat)
  case atStart => exact ⟨0, by omega, rfl, hb3, q1, q2, hown0⟩
  case round =>
    clear hown0 q1 q2 ql hb3
    obtain ⟨k, hk, rfl, hbl, q1, q2, hown⟩ := hrel
    have hlen := depTo_len (g := g) (lo := lo) (hi := hi) (k := k)
    by_cases hlt : k < g.depths.length
    · obtain ⟨b, off, rfl, hbB, h0, h1⟩ := IsDps.at_ (hg.d.below hbl) hlt
      have r0 := q2.cell 0
      have r1 := q2.cell 1
      have l2 := q2.lt
      simp at r0 r1
      have hstep := Lib.hid (show depTo g lo hi (k + 1) = if lo < (gD g.depths k).from_ ∧ (gD g.depths k).from_ ≤ hi then depTo g lo hi k ++ [(gD g.depths k).sink] else depTo g lo hi k from rfl)
      by_cases hx : lo < (gD g.depths k).from_
      · by_cases hy : (gD g.depths k).from_ ≤ hi
        · have y4 := (hown.alloc (.cells #[.int .i64 (gD g.depths k).from_, .int .i64 (gD g.depths k).sink] 65)).alloc (.cells #[.int .i64 (gD g.depths k).sink] 3)
          have c63 : (depTo g lo hi k).length + 1 ≤ maxLen := by unfold maxLen; omega
          have hw2 : w.heap.size + 1 + 1 ≤ wr.heap.size + 1 + 1 := by omega
          replace hstep : Hid (depTo g lo hi (k + 1) = depTo g lo hi k ++ [(gD g.depths k).sink]) := by rw [hstep.out, if_pos ⟨hx, hy⟩]; exact Lib.hid rfl
          go_wp2_with (at_builtin; refine wpList_append_lies _ rfl _ _ _ rfl (w.heap.size + 1 + 1) 3 i0 _ 1 8 Try.underlying76 HI.out hz0 hz1 hz2 rfl (by omega) u4 _ _ rfl y4 ⟨wr.heap.size + 1, 0, none⟩ 1 1 [.int .i64 (gD g.depths k).sink] rfl rfl (World.news_of_block (heap_alloc_at _ _ (by simp))) (by simp [Value.oneCell']) (by omega) c63 (by omega) (by simpa using hw2) (wr.heap.size + 1 + 1) (by simp) ?_; intro gg cap w1 hown' hgrow hat hlt')
          go_roundw
          case rel =>
            refine ⟨k + 1, by omega, by go_num, (ex_alloc (ex_alloc hbl _) _).grown hgrow (by simp; omega) (fun j hj => Nat.le_trans (by omega) (own_ge hown hj)), ((q1.alloc _).alloc _).grown hgrow (own_blk hown (by omega)), ((q2.alloc _).alloc _).grown hgrow (own_blk hown (by omega)), ?_⟩
            rw [hstep.out]; exact own_snoc rfl hown'
          case measure => simp [intOf]; omega
        · replace hstep : Hid (depTo g lo hi (k + 1) = depTo g lo hi k) := by rw [hstep.out, if_neg (fun h => hy h.2)]; exact Lib.hid rfl
          have hy' : decide ((gD g.depths k).from_ ≤ hi) = false := decide_eq_false hy
          go_wp2
          go_roundw
          case rel => exact ⟨k + 1, by omega, by go_num, ex_alloc hbl _, q1.alloc _, q2.alloc _, by rw [hstep.out]; exact hown.alloc _⟩
          case measure => simp [intOf]; omega
      · replace hstep : Hid (depTo g lo hi (k + 1) = depTo g lo hi k) := by rw [hstep.out, if_neg (fun h => hx h.1)]; exact Lib.hid rfl
        have hx' : decide (lo < (gD g.depths k).from_) = false := decide_eq_false hx
        go_wp2
        go_roundw
        case rel => exact ⟨k + 1, by omega, by go_num, ex_alloc hbl _, q1.alloc _, q2.alloc _, by rw [hstep.out]; exact hown.alloc _⟩
        case measure => simp [intOf]; omega
    · obtain rfl : k = g.depths.length := by omega
      obtain ⟨A, c, hv, hlc, hsl⟩ := own_sl hown
      obtain ⟨bb, oo, rfl, hbb, _⟩ := hsl hlen.1
      rcases hown.2 with ⟨h0, _⟩ | ⟨g', cap', cur, hv', hge, _⟩
      · rw [h0] at hv; cases hv
      rw [hv] at hv'
      injection hv' with e1 _ e3
      injection e1 with e1
      injection e1 with e1 e2
      subst e1 e2 e3
      subst hv
      go_wp2_with fail
      refine (compact_cells rfl (own_base hown (by omega))).mono ?_
      rintro e w4 ⟨rfl, hs4, hb4⟩
      go_wp2
      go_ret
      exact ⟨⟨_, _, by rw [hbd.out]; rfl, by rw [hbd.out]; exact hs4⟩, hbl.trans (hb4.mono (by omega))⟩

end Go.Proofs.Ytkaogjhnogkcdaa
end

section
namespace Go.Proofs.Ytkaogjhnogkcdaa

abbrev St := Int × Int
def creeps (s : St) (k b lo : Int) : Nat → List St
 | 0 => []
 | m + 1 => creeps s k b lo m ++ [(s.1 + (lo + m), mx3 (s.2 - b) 0 k)]
def backs (s : St) (k blo lo : Int) (nC : Nat) : Nat → List St
 | 0 => []
 | m + 1 => backs s k blo lo nC m ++ creeps s k (blo + m) lo nC
def deps (s : St) (ds : List Int) (blo lo : Int) (nB nC : Nat) : Nat → List St
 | 0 => []
 | m + 1 => deps s ds blo lo nB nC m ++ backs s (gI ds m) blo lo nC nB
def nextL (g : Gl) (h : List Rg) (d : Nat) (s : St) : List St :=
 deps s (depL g h d) g.blo (creep g d).lo (g.bhi - g.blo + 1).toNat ((creep g d).hi - (creep g d).lo + 1).toNat (depL g h d).length

theorem mem_creeps {s t : St} {k b lo : Int} {n : Nat} : t ∈ creeps s k b lo n ↔ ∃ c : Int, lo ≤ c ∧ c < lo + n ∧ t = (s.1 + c, mx3 (s.2 - b) 0 k) := by
 induction n with
 | zero => simp [creeps]; intro c; omega
 | succ n ih =>
  simp only [creeps, List.mem_append, ih, List.mem_singleton]
  constructor
  ·
   rintro (⟨c, h1, h2, rfl⟩ | rfl)
   ·
    exact ⟨c, h1, by omega, rfl⟩
   ·
    exact ⟨lo + n, by omega, by omega, rfl⟩
  ·
   rintro ⟨c, h1, h2, rfl⟩
   rcases (by omega : c < lo + n ∨ c = lo + n) with h | h
   ·
    exact .inl ⟨c, h1, h, rfl⟩
   ·
    exact .inr (by rw [h])
theorem mem_backs {s t : St} {k blo lo : Int} {nC n : Nat} : t ∈ backs s k blo lo nC n ↔ ∃ b c : Int, blo ≤ b ∧ b < blo + n ∧ lo ≤ c ∧ c < lo + nC ∧ t = (s.1 + c, mx3 (s.2 - b) 0 k) := by
 induction n with
 | zero => simp [backs]; intro b; omega
 | succ n ih =>
  simp only [backs, List.mem_append, ih, mem_creeps]
  constructor
  ·
   rintro (⟨b, c, h1, h2, h3⟩ | ⟨c, h3, h4, e⟩)
   ·
    exact ⟨b, c, h1, by omega, h3⟩
   ·
    exact ⟨blo + n, c, by omega, by omega, h3, h4, e⟩
  ·
   rintro ⟨b, c, h1, h2, h3, h4, e⟩
   rcases (by omega : b < blo + n ∨ b = blo + n) with h | h
   ·
    exact .inl ⟨b, c, h1, h, h3, h4, e⟩
   ·
    subst h; exact .inr ⟨c, h3, h4, e⟩
theorem mem_deps {s t : St} {ds : List Int} {blo lo : Int} {nB nC n : Nat} : t ∈ deps s ds blo lo nB nC n ↔ ∃ m, m < n ∧ ∃ b c : Int, blo ≤ b ∧ b < blo + nB ∧ lo ≤ c ∧ c < lo + nC ∧ t = (s.1 + c, mx3 (s.2 - b) 0 (gI ds m)) := by
 induction n with
 | zero => simp [deps]
 | succ n ih =>
  simp only [deps, List.mem_append, ih, mem_backs]
  constructor
  ·
   rintro (⟨m, h1, h2⟩ | ⟨b, c, h3⟩)
   ·
    exact ⟨m, by omega, h2⟩
   ·
    exact ⟨n, by omega, b, c, h3⟩
  ·
   rintro ⟨m, h1, b, c, h3⟩
   rcases (by omega : m < n ∨ m = n) with h | h
   ·
    exact .inl ⟨m, h, b, c, h3⟩
   ·
    subst h; exact .inr ⟨b, c, h3⟩
theorem creeps_prefix (s : St) (k b lo : Int) {m n : Nat} (h : m ≤ n) : creeps s k b lo m <+: creeps s k b lo n := by
 induction n with
 | zero => rw [show m = 0 by omega]; exact List.prefix_refl _
 | succ n ih =>
  rcases (by omega : m ≤ n ∨ m = n + 1) with h | h
  ·
   exact (ih h).trans (List.prefix_append _ _)
  ·
   rw [h]; exact List.prefix_refl _
theorem backs_prefix (s : St) (k blo lo : Int) (nC : Nat) {m n : Nat} (h : m ≤ n) : backs s k blo lo nC m <+: backs s k blo lo nC n := by
 induction n with
 | zero => rw [show m = 0 by omega]; exact List.prefix_refl _
 | succ n ih =>
  rcases (by omega : m ≤ n ∨ m = n + 1) with h | h
  ·
   exact (ih h).trans (List.prefix_append _ _)
  ·
   rw [h]; exact List.prefix_refl _
theorem deps_prefix (s : St) (ds : List Int) (blo lo : Int) (nB nC : Nat) {m n : Nat} (h : m ≤ n) : deps s ds blo lo nB nC m <+: deps s ds blo lo nB nC n := by
 induction n with
 | zero => rw [show m = 0 by omega]; exact List.prefix_refl _
 | succ n ih =>
  rcases (by omega : m ≤ n ∨ m = n + 1) with h | h
  ·
   exact (ih h).trans (List.prefix_append _ _)
  ·
   rw [h]; exact List.prefix_refl _
theorem far_prefix (s : St) (ds : List Int) (blo lo : Int) {nB nC m1 m2 m3 : Nat} (h1 : m1 < ds.length) (h2 : m2 < nB) (h3 : m3 ≤ nC) :
  deps s ds blo lo nB nC m1 ++ (backs s (gI ds m1) blo lo nC m2 ++ creeps s (gI ds m1) (blo + m2) lo m3) <+: deps s ds blo lo nB nC ds.length := by
 refine List.IsPrefix.trans ?_ (deps_prefix s ds blo lo nB nC (show m1 + 1 ≤ ds.length by omega))
 rw [deps]
 refine (List.prefix_append_right_inj _).2 ?_
 refine List.IsPrefix.trans ?_ (backs_prefix s (gI ds m1) blo lo nC (show m2 + 1 ≤ nB by omega))
 rw [backs]
 exact (List.prefix_append_right_inj _).2 (creeps_prefix _ _ _ _ h3)

end Go.Proofs.Ytkaogjhnogkcdaa
end
