/- Bath: far (walk). · Bath: tried, Offsets, Heats, Difference (walks). · Bath: clashes (walk): what is known of it is kept. · Bath: knot (walk). -/
import Derived.WalkSmall
import Derived.Laws.BitsAllLaws
import Derived.Test.YtnplefhigbkbbaaQ3
set_option linter.unusedVariables false
set_option linter.unusedSimpArgs false
set_option linter.unusedSectionVars false
section
namespace Go.Proofs.Ytnplefhigbkbbaa
open Go.RowKit
attribute [local go_sem] Ex.cell? Ex.frozen?

def isZ : Value → Bool
  | .int .i64 n => n == 0
  | _ => false
theorem isZ_iff {v : Value} (h : isZ v = true) : v = .int .i64 0 := by
  unfold isZ at h
  split at h
  · rw [beq_iff_eq] at h; rw [h]
  · cases h
/-- so many, all 0. -/
def chkZ : List Value → Nat → Bool
  | [], n => n == 0
  | v :: l, n => match n with
    | 0 => false
    | n + 1 => isZ v && chkZ l n
theorem chkZ_iff : ∀ {l : List Value} {n : Nat}, chkZ l n = true → l.length = n ∧ ∀ v ∈ l, v = .int .i64 0
  | [], n, h => by
    simp [chkZ] at h
    exact ⟨by simp [h], fun v hv => by cases hv⟩
  | v :: l, 0, h => by simp [chkZ] at h
  | v :: l, n + 1, h => by
    simp only [chkZ, Bool.and_eq_true] at h
    obtain ⟨h1, h2⟩ := chkZ_iff h.2
    refine ⟨by rw [List.length_cons, h1], fun u hu => ?_⟩
    rcases List.mem_cons.1 hu with rfl | hu
    · exact isZ_iff h.1
    · exact h2 u hu
set_option maxRecDepth 100000 in
theorem far_zero_ok : chkZ Try.zeroCells187.toList 169 = true := by kernel_rfl
theorem FarAt.zero {W : World} {q : Nat} (h : Blk W q 187 Try.zeroCells187) : FarAt W q (fun _ _ => 0) := by
  obtain ⟨h1, h2⟩ := chkZ_iff far_zero_ok
  generalize Try.zeroCells187 = zc at *
  have h1' : zc.size = 169 := by rw [← Array.length_toList]; exact h1
  refine VArr.of h h1' (fun i hi => ?_)
  rw [Array.getElem?_eq_getElem (by omega), h2 zc[i] (by simp)]
  rfl
theorem FarAt.ext {W : World} {q : Nat} {f f' : Mat} (h : FarAt W q f) (he : ∀ a b, a < 13 → b < 13 → f a b = f' a b) : FarAt W q f' :=
  VArr.ext h (fun i hi => by unfold farV; rw [he (i / 13) (i % 13) (by omega) (by omega)])
theorem pigeon : ∀ (n m : Nat) (f : Nat → Nat), (∀ i, i < m → f i < n) → (∀ i j, i < j → j < m → f i ≠ f j) → m ≤ n
  | 0, 0, _, _, _ => Nat.le_refl _
  | 0, m + 1, f, h, _ => absurd (h 0 (by omega)) (by omega)
  | n + 1, 0, _, _, _ => by omega
  | n + 1, m + 1, f, h, k => by
    refine Nat.succ_le_succ (pigeon n m (fun i => if f i = n then f m else f i) (fun i hi => ?_) (fun i j hi hj => ?_))
    · have h1 := h i (by omega)
      have h2 := h m (by omega)
      have h3 := k i m hi (by omega)
      split <;> omega
    · have h1 := k i j hi (by omega)
      have h2 := k i m (by omega) (by omega)
      have h3 := k j m hj (by omega)
      split <;> split <;> omega
theorem reads_le {s : Se} (h : SeOk s) {b : Nat} (hb : b < s.baths.length) : (gBt s.baths b).reads.length ≤ s.offs.length := by
  have h1 := h.inst b hb
  refine pigeon _ _ (fun k => (gRd (gBt s.baths b).reads k).inst.toNat) (fun k hk => ?_) (fun i j hij hj e => ?_)
  · have := h1 k hk; omega
  · have h2 := h1 i (by omega)
    have h3 := h1 j hj
    exact h.once b hb j hj i hij (by omega)
theorem placeB_len {s : Se} (h : SeOk s) : ∀ {n : Nat}, n ≤ s.baths.length → (placeB s n).length ≤ 6 * n
  | 0, _ => by simp [placeB]
  | n + 1, hn => by
    have h1 := placeB_len h (n := n) (by omega)
    have h2 := reads_le h (b := n) (by omega)
    have h3 := h.no
    rw [placeB, List.length_append, List.length_map, List.length_range]
    omega
theorem placeL_len {s : Se} (h : SeOk s) : (placeL s).length ≤ 36 := by
  have h1 := placeB_len h (Nat.le_refl _)
  have h2 := h.nb
  unfold placeL
  omega
theorem bit_tst {n k : Nat} (x : Bool) (h : n < 68719476736) (ht : n.testBit k = !x) : (bits .and .u64 ((n : Int) / 2 ^ k) 1 == 0) = x := by
  have h1 : n / 2 ^ k ≤ n := Nat.div_le_self _ _
  have e : (n : Int) / 2 ^ k = ((n / 2 ^ k : Nat) : Int) := by simp
  rw [e, and_one_u64 ((n / 2 ^ k : Nat) : Int) (Int.natCast_nonneg _) (by generalize n / 2 ^ k = m at *; omega)]
  rw [Nat.testBit_eq_decide_div_mod_eq] at ht
  generalize n / 2 ^ k = m at *
  obtain rfl : x = !decide (m % 2 = 1) := by rw [ht, Bool.not_not]
  clear ht
  rcases Nat.mod_two_eq_zero_or_one m with h2 | h2
  · have h3 : (m : Int) % 2 = 0 := by omega
    rw [h3, h2]; rfl
  · have h3 : (m : Int) % 2 = 1 := by omega
    rw [h3, h2]; rfl
/-- what the walk of far knows. -/
structure FS (w : World) (bits : Nat) (f : Mat) (W : World) : Prop where
  bw : Below w.heap.size w W
  lf : Blk W w.heap.size 133 #[.int .u64 (bits : Int)]
  fr : FarAt W (w.heap.size + 1) f
theorem FS.below {w W W' : World} {bits : Nat} {f : Mat} (h : FS w bits f W) (hb : Below W.heap.size W W') : FS w bits f W' := ⟨ex_trans h.bw hb, h.lf.below hb h.lf.lt, h.fr.below hb⟩
theorem FS.of {w W W' : World} {bits : Nat} {f f' : Mat} (h : FS w bits f W) (hf : Fr (fun x => x = w.heap.size + 1) W W') (hn : FarAt W' (w.heap.size + 1) f') : FS w bits f' W' :=
  ⟨hf.toBelow h.bw h.bw.size (fun x hx => by omega), h.lf.fr hf (by omega), hn⟩
theorem FS.set {w W : World} {bits : Nat} {f : Mat} (h : FS w bits f W) {a b : Nat} (v : Int) (ha : a < 13) (hb : b < 13) : FS w bits (set2 f a b v) (W.setCell ⟨w.heap.size + 1, a * 13 + b, none⟩ (.int .i64 v)) :=
  h.of ((Fr.refl (fun x => x = w.heap.size + 1) W).andSet rfl) (h.fr.set v ha hb)
/-- the first loops: filled up to (i, j). -/
def Fill (i j : Nat) (f : Mat) : Prop := ∀ a b, a < 13 → b < 13 → f a b = if Past i j a b then farM a b else 0
theorem fill_step {i j : Nat} {f : Mat} (h : Fill i j f) (hne : i ≠ j) : Fill i (j + 1) (set2 f i j 8000) := fun a b ha hb => by
  by_cases e : a = i ∧ b = j
  · obtain ⟨rfl, rfl⟩ := e
    rw [set2_self, if_pos (by unfold Past; omega)]
    unfold farM
    rw [if_neg hne]
  · rw [set2_ne e, h a b ha hb]
    have : Past i (j + 1) a b ↔ Past i j a b := by unfold Past; omega
    simp only [this]
theorem fill_same {i j : Nat} {f : Mat} (h : Fill i j f) (he : i = j) : Fill i (j + 1) f := fun a b ha hb => by
  rw [h a b ha hb]
  by_cases e : a = i ∧ b = j
  · obtain ⟨rfl, rfl⟩ := e
    rw [if_neg (by unfold Past; omega), if_pos (by unfold Past; omega)]
    unfold farM
    rw [if_pos he]
  · have : Past i (j + 1) a b ↔ Past i j a b := by unfold Past; omega
    simp only [this]
theorem fill_row {i : Nat} {f : Mat} (h : Fill i 13 f) : Fill (i + 1) 0 f := fun a b ha hb => by
  rw [h a b ha hb]
  have : Past (i + 1) 0 a b ↔ Past i 13 a b := by unfold Past; omega
  simp only [this]

section
variable {s : Se} {out : Nat → Bool}
theorem readsTo_diag {n : Nat} : ∀ {l : List (Nat × Nat)} {k : Nat} {f : Mat}, (∀ p, p ∈ l → (rdAt s p).inst.toNat < 6) → readsTo s out l k f n n = f n n
  | [], _, _, _ => rfl
  | p :: l, k, f, h => by
    have h1 := h p (by simp)
    rw [readsTo, readsTo_diag (fun p hp => h p (by simp [hp]))]
    split
    · rfl
    · exact spanM_diag (by omega)
theorem spanM_le {f : Mat} {a b : Nat} {lo hi c : Int} (h : ∀ i j, i < 13 → j < 13 → f i j ≤ c) (ha : a < 13) (hb : b < 13) : ∀ i j, i < 13 → j < 13 → spanM f a b lo hi i j ≤ c := by
  have step : ∀ {g : Mat} {a b : Nat} {v : Int}, (∀ i j, i < 13 → j < 13 → g i j ≤ c) → a < 13 → b < 13 → ∀ i j, i < 13 → j < 13 → set2 g a b (min (g a b) v) i j ≤ c := fun {g a b v} hg ha hb i j hi hj => by
    by_cases e : i = a ∧ j = b
    · obtain ⟨rfl, rfl⟩ := e
      have := hg i j hi hj
      rw [set2_self]; omega
    · rw [set2_ne e]; exact hg i j hi hj
  exact step (step h ha hb) hb ha
theorem readsTo_bd (he : 0 ≤ s.err ∧ s.err ≤ 20) : ∀ {l : List (Nat × Nat)} {k : Nat} {f : Mat}, (∀ p, p ∈ l → p.1 < 6 ∧ (rdAt s p).inst.toNat < 6 ∧ -1000 ≤ (rdAt s p).val ∧ (rdAt s p).val ≤ 2000) → (∀ i j, i < 13 → j < 13 → -8000 ≤ f i j) → (∀ i j, i < 13 → j < 13 → f i j ≤ 8000) →
    (∀ i j, i < 13 → j < 13 → -8000 ≤ readsTo s out l k f i j) ∧ ∀ i j, i < 13 → j < 13 → readsTo s out l k f i j ≤ 8000
  | [], _, _, _, h1, h2 => ⟨h1, h2⟩
  | p :: l, k, f, h, h1, h2 => by
    have hp := h p (by simp)
    rw [readsTo]
    refine readsTo_bd he (fun p hp => h p (by simp [hp])) ?_ ?_
    · split
      · exact h1
      · exact spanM_lo h1 (by omega) (by omega) (by omega) (by omega)
    · split
      · exact h2
      · exact spanM_le h2 (by omega) (by omega)
theorem seM_start (hok : SeOk s) : FW (seM s out) 0 (seM s out) ∧ ∀ i j, i < 13 → j < 13 → seM s out i j ≤ 8000 := by
  have h1 := hok.no
  have h2 := hok.nb
  have hpl : ∀ p, p ∈ placeL s → p.1 < 6 ∧ (rdAt s p).inst.toNat < 6 ∧ -1000 ≤ (rdAt s p).val ∧ (rdAt s p).val ≤ 2000 := fun p hp => by
    obtain ⟨h3, h4⟩ := mem_placeL.1 hp
    have h5 := hok.inst p.1 h3 p.2 h4
    have h6 := hok.val p.1 h3 p.2 h4
    unfold rdAt
    omega
  have ho : ∀ k, k ≤ s.offs.length → (∀ n, offsTo s k n n = 0) ∧ (∀ i j, i < 13 → j < 13 → -8000 ≤ offsTo s k i j) ∧ ∀ i j, i < 13 → j < 13 → offsTo s k i j ≤ 8000 := fun k => by
    induction k with
    | zero =>
      intro _
      refine ⟨fun n => ?_, fun i j _ _ => ?_, fun i j _ _ => ?_⟩
      · show farM n n = 0
        unfold farM; rw [if_pos rfl]
      · show -8000 ≤ farM i j
        unfold farM; split <;> omega
      · show farM i j ≤ 8000
        unfold farM; split <;> omega
    | succ k ih =>
      intro hk
      obtain ⟨i1, i2, i3⟩ := ih (by omega)
      have hv := hok.offs k (by omega)
      refine ⟨fun n => ?_, ?_, ?_⟩
      · rw [offsTo, spanM_diag (by omega)]; exact i1 n
      · exact spanM_lo i2 (by omega) (by omega) (by omega) (by omega)
      · exact spanM_le i3 (by omega) (by omega)
  have hh : ∀ k, k ≤ s.baths.length → (∀ n, heatsTo s k n n = 0) ∧ (∀ i j, i < 13 → j < 13 → -8000 ≤ heatsTo s k i j) ∧ ∀ i j, i < 13 → j < 13 → heatsTo s k i j ≤ 8000 := fun k => by
    induction k with
    | zero => intro _; exact ho _ (Nat.le_refl _)
    | succ k ih =>
      intro hk
      obtain ⟨i1, i2, i3⟩ := ih (by omega)
      have hv := hok.heats k (by omega)
      refine ⟨fun n => ?_, ?_, ?_⟩
      · rw [heatsTo, spanM_diag (by omega)]; exact i1 n
      · exact spanM_lo i2 (by omega) (by omega) (by omega) (by omega)
      · exact spanM_le i3 (by omega) (by omega)
  obtain ⟨k1, k2, k3⟩ := hh _ (Nat.le_refl _)
  obtain ⟨k4, k5⟩ := readsTo_bd (s := s) (out := out) hok.err (l := placeL s) (k := 0) hpl k2 k3
  exact ⟨FW.start (fun n _ => by unfold seM; rw [readsTo_diag (fun p hp => (hpl p hp).2.1)]; exact k1 n) k4, k5⟩
theorem readN_all : readN s out (placeL s).length = seM s out := by unfold readN seM; rw [List.take_length]
end
theorem Ph.bd {A f : Mat} {k i j : Nat} {m : Int} (p : Ph A k m i j f) (hm : m ≤ 104485552128000) (hA : ∀ a b, a < 13 → b < 13 → A a b ≤ 8000) (hk : k < 13) (hi : i < 13) (hj : j < 13) : IntKind.i64.wrap (f i k + f k j) = f i k + f k j := by
  have h1 := p.ck i hi
  have h2 := p.rk j hj
  have h3 := p.le i k hi hk
  have h4 := p.le k j hk hj
  have h5 := hA i k hi hk
  have h6 := hA k j hk hj
  exact IntWalk.i64_in _ (by omega)
/-- what far tells. -/
def FarPost (s : Se) (bits : Nat) (w : World) (e : Ending) (w' : World) : Prop := Below w.heap.size w w' ∧ ((∃ b f, e = .returned (.tuple #[.pointer (some ⟨b, 0, none⟩), .bool true]) ∧ FarAt w' b f ∧ FarIs s (fun i => bits.testBit i) f) ∨ (e = .returned (.tuple #[.pointer none, .bool false]) ∧ ¬ ∃ o h, Tru s (fun i => bits.testBit i) o h))

set_option maxRecDepth 100000 in
set_option maxHeartbeats 6400000 in
theorem far_any (s : Se) (Ao Ab A : Option Addr) (co cb c q m : Nat) (rA : Nat → Option Addr) (rc : Nat → Nat) (L : List (Nat × Bool)) (bits : Nat) (w : World) (hs : SeIn w w.heap.size s Ao Ab rA rc) (hw : WorkAt w q m s Ao Ab co cb A c L) (hok : SeOk s) (hbt : bits < 68719476736) :
    Calls Try.prog 103 #[.pointer (some ⟨q, 0, none⟩), .agg #[.int .u64 (bits : Int)]] w (FarPost s bits w) := by
  have hb1 := ex_alloc (ex_alloc (Below.refl w.heap.size w) (.cells #[.int .u64 (bits : Int)] 133)) (.cells Try.zeroCells187 187)
  have S0 : FS w bits (fun _ _ => 0) ((w.alloc (.cells #[.int .u64 (bits : Int)] 133)).alloc (.cells Try.zeroCells187 187)) := ⟨hb1, (Blk.new _ _ _).alloc _, FarAt.zero (Blk.new' _ _ _ (by simp))⟩
  have F0 : Hid (Fill 0 0 (fun _ _ => 0)) := Lib.hid (fun a b _ _ => by rw [if_neg (by unfold Past; omega)])
  have HK := Lib.hid hok
  have hpl := placeL_len hok
  go_enter Try.func103, Try.ntmps103
  go_wp2_with fail
  clear hb1
  generalize (w.alloc (.cells #[.int .u64 (bits : Int)] 133)).alloc (.cells Try.zeroCells187 187) = V at *
  generalize (fun (_ _ : Nat) => (0 : Int)) = f0 at *
  refine wp_loop (fun a W => Rel (fun a W => ∃ i : Nat, i ≤ 13 ∧ ∃ f : Mat, FS w bits f W ∧ Hid (Fill i 0 f) ∧ ∃ u : Nat → Value, a = ⟨List.toArray (.pointer (some ⟨q, 0, none⟩) :: u 1 :: u 2 :: .pointer (some ⟨w.heap.size, 0, none⟩) :: u 4 :: u 5 :: .pointer (some ⟨w.heap.size + 1, 0, none⟩) :: u 7 :: u 8 :: u 9 :: u 10 :: u 11 :: u 12 :: u 13 :: u 14 :: u 15 :: u 16 :: u 17 :: u 18 :: u 19 :: u 20 :: u 21 :: .int .i64 (i : Int) :: u 23 :: u 24 :: u 25 :: u 26 :: u 27 :: u 28 :: u 29 :: u 30 :: u 31 :: u 32 :: u 33 :: u 34 :: u 35 :: u 36 :: u 37 :: u 38 :: u 39 :: u 40 :: u 41 :: u 42 :: u 43 :: u 44 :: u 45 :: u 46 :: u 47 :: u 48 :: u 49 :: u 50 :: u 51 :: u 52 :: u 53 :: u 54 :: u 55 :: u 56 :: u 57 :: u 58 :: u 59 :: u 60 :: u 61 :: u 62 :: u 63 :: u 64 :: u 65 :: u 66 :: u 67 :: u 68 :: u 69 :: u 70 :: u 71 :: u 72 :: u 73 :: u 74 :: u 75 :: u 76 :: u 77 :: u 78 :: u 79 :: u 80 :: u 81 :: u 82 :: u 83 :: u 84 :: u 85 :: u 86 :: u 87 :: u 88 :: u 89 :: u 90 :: u 91 :: u 92 :: u 93 :: u 94 :: u 95 :: u 96 :: u 97 :: u 98 :: u 99 :: u 100 :: u 101 :: u 102 :: u 103 :: u 104 :: u 105 :: u 106 :: u 107 :: u 108 :: u 109 :: u 110 :: u 111 :: u 112 :: u 113 :: u 114 :: u 115 :: u 116 :: u 117 :: u 118 :: u 119 :: u 120 :: u 121 :: u 122 :: u 123 :: u 124 :: u 125 :: u 126 :: u 127 :: u 128 :: u 129 :: u 130 :: u 131 :: u 132 :: u 133 :: u 134 :: u 135 :: u 136 :: u 137 :: u 138 :: u 139 :: u 140 :: u 141 :: u 142 :: u 143 :: u 144 :: u 145 :: u 146 :: u 147 :: u 148 :: u 149 :: u 150 :: u 151 :: u 152 :: u 153 :: u 154 :: u 155 :: u 156 :: u 157 :: u 158 :: u 159 :: u 160 :: u 161 :: u 162 :: u 163 :: u 164 :: u 165 :: u 166 :: u 167 :: u 168 :: u 169 :: u 170 :: u 171 :: u 172 :: u 173 :: u 174 :: u 175 :: u 176 :: u 177 :: u 178 :: u 179 :: u 180 :: u 181 :: u 182 :: u 183 :: u 184 :: u 185 :: u 186 :: u 187 :: u 188 :: u 189 :: u 190 :: []), []⟩) a W)
    (fun a _ => 13 - (intOf (a.tmps.getD 22 undef)).toNat) ⟨⟨0, by omega, f0, S0, F0, exFrame (by kernel_rfl)⟩⟩ ?_
  clear S0 F0
  rintro a W ⟨⟨i, hi, f, S1, F1, u, rfl⟩⟩
  by_cases hi13 : i < 13
  ·
    go_wp2_with fail
    refine wp_loop (fun a W => Rel (fun a W => ∃ j : Nat, j ≤ 13 ∧ ∃ f : Mat, FS w bits f W ∧ Hid (Fill i j f) ∧ ∃ u : Nat → Value, a = ⟨List.toArray (.pointer (some ⟨q, 0, none⟩) :: u 1 :: u 2 :: .pointer (some ⟨w.heap.size, 0, none⟩) :: u 4 :: u 5 :: .pointer (some ⟨w.heap.size + 1, 0, none⟩) :: .int .i64 (i : Int) :: u 8 :: u 9 :: u 10 :: u 11 :: u 12 :: u 13 :: u 14 :: u 15 :: u 16 :: u 17 :: u 18 :: u 19 :: u 20 :: u 21 :: .int .i64 (i : Int) :: u 23 :: u 24 :: .int .i64 (j : Int) :: u 26 :: u 27 :: u 28 :: u 29 :: u 30 :: u 31 :: u 32 :: u 33 :: u 34 :: u 35 :: u 36 :: u 37 :: u 38 :: u 39 :: u 40 :: u 41 :: u 42 :: u 43 :: u 44 :: u 45 :: u 46 :: u 47 :: u 48 :: u 49 :: u 50 :: u 51 :: u 52 :: u 53 :: u 54 :: u 55 :: u 56 :: u 57 :: u 58 :: u 59 :: u 60 :: u 61 :: u 62 :: u 63 :: u 64 :: u 65 :: u 66 :: u 67 :: u 68 :: u 69 :: u 70 :: u 71 :: u 72 :: u 73 :: u 74 :: u 75 :: u 76 :: u 77 :: u 78 :: u 79 :: u 80 :: u 81 :: u 82 :: u 83 :: u 84 :: u 85 :: u 86 :: u 87 :: u 88 :: u 89 :: u 90 :: u 91 :: u 92 :: u 93 :: u 94 :: u 95 :: u 96 :: u 97 :: u 98 :: u 99 :: u 100 :: u 101 :: u 102 :: u 103 :: u 104 :: u 105 :: u 106 :: u 107 :: u 108 :: u 109 :: u 110 :: u 111 :: u 112 :: u 113 :: u 114 :: u 115 :: u 116 :: u 117 :: u 118 :: u 119 :: u 120 :: u 121 :: u 122 :: u 123 :: u 124 :: u 125 :: u 126 :: u 127 :: u 128 :: u 129 :: u 130 :: u 131 :: u 132 :: u 133 :: u 134 :: u 135 :: u 136 :: u 137 :: u 138 :: u 139 :: u 140 :: u 141 :: u 142 :: u 143 :: u 144 :: u 145 :: u 146 :: u 147 :: u 148 :: u 149 :: u 150 :: u 151 :: u 152 :: u 153 :: u 154 :: u 155 :: u 156 :: u 157 :: u 158 :: u 159 :: u 160 :: u 161 :: u 162 :: u 163 :: u 164 :: u 165 :: u 166 :: u 167 :: u 168 :: u 169 :: u 170 :: u 171 :: u 172 :: u 173 :: u 174 :: u 175 :: u 176 :: u 177 :: u 178 :: u 179 :: u 180 :: u 181 :: u 182 :: u 183 :: u 184 :: u 185 :: u 186 :: u 187 :: u 188 :: u 189 :: u 190 :: []), []⟩) a W)
      (fun a _ => 13 - (intOf (a.tmps.getD 25 undef)).toNat) ⟨⟨0, by omega, f, S1, F1, exFrame (by kernel_rfl)⟩⟩ ?_
    clear S1 F1
    rintro a W2 ⟨⟨j, hj, f, S1, F1, u, rfl⟩⟩
    by_cases hj13 : j < 13
    · by_cases hij : i = j
      · have F2 := Lib.hid (fill_same F1.out hij)
        have e1 : ((i : Int) != (j : Int)) = false := by simp [hij]
        have e2 : (i != j) = false := by simp [hij]
        clear hij F1
        go_wp2_with fail
        refine ⟨⟨⟨j + 1, by omega, f, S1, F2, exFrame (by kernel_rfl)⟩⟩, ?_⟩
        show 13 - (intOf (.int .i64 ((j : Int) + 1))).toNat < 13 - (intOf (.int .i64 (j : Int))).toNat
        simp [intOf]
        omega
      · have F2 := Lib.hid (fill_step F1.out hij)
        have e1 : ((i : Int) != (j : Int)) = true := by simp; omega
        have e2 : (i != j) = true := by simp [hij]
        have S2 := S1.set 8000 hi13 hj13
        have c1 := S1.fr.cell hi13 hj13
        have fz := S1.fr.frozen (i * 13 + j)
        have lq := S1.fr.lt
        clear hij F1
        go_wp2_with fail
        refine ⟨⟨⟨j + 1, by omega, _, S2, F2, exFrame (by kernel_rfl)⟩⟩, ?_⟩
        show 13 - (intOf (.int .i64 ((j : Int) + 1))).toNat < 13 - (intOf (.int .i64 (j : Int))).toNat
        simp [intOf]
        omega
    · have hjE : j = 13 := by omega
      subst hjE
      have F2 := Lib.hid (fill_row F1.out)
      go_wp2_with fail
      refine ⟨⟨⟨i + 1, by omega, f, S1, F2, exFrame (by kernel_rfl)⟩⟩, ?_⟩
      show 13 - (intOf (.int .i64 ((i : Int) + 1))).toNat < 13 - (intOf (.int .i64 (i : Int))).toNat
      simp [intOf]
      omega
  have hiE : i = 13 := by omega
  subst hiE
  have hfm : Hid (∀ a b, a < 13 → b < 13 → f a b = farM a b) := Lib.hid (fun a b ha hb => by rw [F1.out a b ha hb, if_pos (by unfold Past; omega)])
  have S2 : FS w bits (offsTo s 0) W := ⟨S1.bw, S1.lf, S1.fr.ext hfm.out⟩
  clear S1 F1 hfm
  have wk := hw.wk.below S2.bw hw.wk.lt
  have k0 : W.cell? ⟨q, 0, none⟩ = some (.slice Ao s.offs.length co) := wk.cell 0
  have lk := wk.lt
  go_wp2_with fail
  clear wk k0 lk
  refine wp_loop (fun a W => Rel (fun a W => ∃ n : Nat, n ≤ s.offs.length ∧ FS w bits (offsTo s n) W ∧ ∃ u : Nat → Value, a = ⟨List.toArray (.pointer (some ⟨q, 0, none⟩) :: u 1 :: u 2 :: .pointer (some ⟨w.heap.size, 0, none⟩) :: u 4 :: u 5 :: .pointer (some ⟨w.heap.size + 1, 0, none⟩) :: u 7 :: u 8 :: u 9 :: u 10 :: u 11 :: u 12 :: u 13 :: u 14 :: u 15 :: u 16 :: u 17 :: u 18 :: u 19 :: u 20 :: u 21 :: u 22 :: u 23 :: u 24 :: u 25 :: u 26 :: u 27 :: u 28 :: u 29 :: u 30 :: u 31 :: u 32 :: u 33 :: u 34 :: u 35 :: u 36 :: u 37 :: u 38 :: u 39 :: u 40 :: u 41 :: u 42 :: .slice Ao s.offs.length co :: .int .i64 (s.offs.length : Int) :: .int .i64 (n : Int) :: u 46 :: u 47 :: u 48 :: u 49 :: u 50 :: u 51 :: u 52 :: u 53 :: u 54 :: u 55 :: u 56 :: u 57 :: u 58 :: u 59 :: u 60 :: u 61 :: u 62 :: u 63 :: u 64 :: u 65 :: u 66 :: u 67 :: u 68 :: u 69 :: u 70 :: u 71 :: u 72 :: u 73 :: u 74 :: u 75 :: u 76 :: u 77 :: u 78 :: u 79 :: u 80 :: u 81 :: u 82 :: u 83 :: u 84 :: u 85 :: u 86 :: u 87 :: u 88 :: u 89 :: u 90 :: u 91 :: u 92 :: u 93 :: u 94 :: u 95 :: u 96 :: u 97 :: u 98 :: u 99 :: u 100 :: u 101 :: u 102 :: u 103 :: u 104 :: u 105 :: u 106 :: u 107 :: u 108 :: u 109 :: u 110 :: u 111 :: u 112 :: u 113 :: u 114 :: u 115 :: u 116 :: u 117 :: u 118 :: u 119 :: u 120 :: u 121 :: u 122 :: u 123 :: u 124 :: u 125 :: u 126 :: u 127 :: u 128 :: u 129 :: u 130 :: u 131 :: u 132 :: u 133 :: u 134 :: u 135 :: u 136 :: u 137 :: u 138 :: u 139 :: u 140 :: u 141 :: u 142 :: u 143 :: u 144 :: u 145 :: u 146 :: u 147 :: u 148 :: u 149 :: u 150 :: u 151 :: u 152 :: u 153 :: u 154 :: u 155 :: u 156 :: u 157 :: u 158 :: u 159 :: u 160 :: u 161 :: u 162 :: u 163 :: u 164 :: u 165 :: u 166 :: u 167 :: u 168 :: u 169 :: u 170 :: u 171 :: u 172 :: u 173 :: u 174 :: u 175 :: u 176 :: u 177 :: u 178 :: u 179 :: u 180 :: u 181 :: u 182 :: u 183 :: u 184 :: u 185 :: u 186 :: u 187 :: u 188 :: u 189 :: u 190 :: []), []⟩) a W)
    (fun a _ => s.offs.length - (intOf (a.tmps.getD 45 undef)).toNat) ⟨⟨0, by omega, S2, exFrame (by kernel_rfl)⟩⟩ ?_
  clear S2
  rintro a W3 ⟨⟨n, hn, S1, u, rfl⟩⟩
  by_cases hno : n < s.offs.length
  ·
    have ho := HK.out.offs n hno
    have h6 := HK.out.no
    obtain ⟨bo, oo, hAo, hbo, g0, g1⟩ := IsRgs.at_ (hs.below S1.bw).offs hno
    rw [hAo]
    have hbs := S1.bw.size
    have hbw : bo < W3.heap.size := by omega
    obtain ⟨lo, hlo⟩ : ∃ lo, (gR s.offs n).lo = lo := ⟨_, rfl⟩
    obtain ⟨hi', hhi⟩ : ∃ hi', (gR s.offs n).hi = hi' := ⟨_, rfl⟩
    obtain ⟨f, hf⟩ : ∃ f, offsTo s n = f := ⟨_, rfl⟩
    have HL : Hid (offsTo s (n + 1) = spanM f 0 (1 + n) (-hi') (-lo)) := Lib.hid (by rw [← hf, ← hlo, ← hhi]; rfl)
    rw [hlo] at g0 ho
    rw [hhi] at g1 ho
    rw [hf] at S1
    clear hlo hhi hf
    have w1 : IntKind.i64.wrap (-lo) = -lo := IntWalk.i64_in _ (by omega)
    have w2 : IntKind.i64.wrap (-hi') = -hi' := IntWalk.i64_in _ (by omega)
    have qr : Blk (W3.alloc (.cells #[.int .i64 lo, .int .i64 hi'] 41)) W3.heap.size 41 #[.int .i64 lo, .int .i64 hi'] := Blk.new _ _ _
    have hX := ex_alloc (Below.refl W3.heap.size W3) (.cells #[.int .i64 lo, .int .i64 hi'] 41)
    have S3 := S1.below hX
    go_wp2_with fail
    generalize W3.alloc (.cells #[.int .i64 lo, .int .i64 hi'] 41) = U at *
    have r0 : U.cell? ⟨W3.heap.size, 0, none⟩ = some (.int .i64 lo) := qr.cell 0
    have r1 : U.cell? ⟨W3.heap.size, 1, none⟩ = some (.int .i64 hi') := qr.cell 1
    have lr := qr.lt
    refine wp_region_ext_mix 10 [(false, 0), (false, 1), (false, 3), (false, 4), (false, 5), (false, 6), (false, 7), (false, 8), (false, 9), (true, 2)] (by kernel_rfl) (by kernel_rfl) (by intro d _ _ _ _ h; cases d <;> exact h) ?_
    have hX0 := (Below.refl U.heap.size U).drew
    repeat (refine mix_quiet rfl ?_; go_big_quiet_step (fail); refine wpQuiet_nil ?_)
    refine mix_loud rfl ?_
    go_wp2_with fail
    refine (tool_any (n : Int) _ (by omega)).mono ?_
    rintro e w' ⟨rfl, rfl⟩
    go_wp2_with fail
    refine ⟨inEx hX0, ?_⟩
    refine mix_nil (r := [_]) rfl ?_
    have S4 := S3.below hX0
    go_wp2_with fail
    rw [show (1 : Int) + (n : Int) = ((1 + n : Nat) : Int) by omega]
    refine (span_any (w.heap.size + 1) 0 (1 + n) f (-hi') (-lo) _ S4.fr (by omega) (by omega) (by omega)).mono ?_
    rintro e W7 ⟨rfl, hF, hFar⟩
    have S5 := S4.of hF hFar
    rw [← HL.out] at S5
    go_wp2_with fail
    refine ⟨⟨⟨n + 1, by omega, S5, exFrame (by kernel_rfl)⟩⟩, ?_⟩
    show s.offs.length - (intOf (.int .i64 ((n : Int) + 1))).toNat < s.offs.length - (intOf (.int .i64 (n : Int))).toNat
    simp [intOf]
    omega
  have hnE : n = s.offs.length := by omega
  subst hnE
  have wk := hw.wk.below S1.bw hw.wk.lt
  have k2 : W3.cell? ⟨q, 2, none⟩ = some (.slice Ab s.baths.length cb) := wk.cell 2
  have lk := wk.lt
  go_wp2_with fail
  clear wk k2 lk
  have S2 : FS w bits (heatsTo s 0) W3 := S1
  clear S1
  refine wp_loop (fun a W => Rel (fun a W => ∃ n : Nat, n ≤ s.baths.length ∧ FS w bits (heatsTo s n) W ∧ ∃ u : Nat → Value, a = ⟨List.toArray (.pointer (some ⟨q, 0, none⟩) :: u 1 :: u 2 :: .pointer (some ⟨w.heap.size, 0, none⟩) :: u 4 :: u 5 :: .pointer (some ⟨w.heap.size + 1, 0, none⟩) :: u 7 :: u 8 :: u 9 :: u 10 :: u 11 :: u 12 :: u 13 :: u 14 :: u 15 :: u 16 :: u 17 :: u 18 :: u 19 :: u 20 :: u 21 :: u 22 :: u 23 :: u 24 :: u 25 :: u 26 :: u 27 :: u 28 :: u 29 :: u 30 :: u 31 :: u 32 :: u 33 :: u 34 :: u 35 :: u 36 :: u 37 :: u 38 :: u 39 :: u 40 :: u 41 :: u 42 :: u 43 :: u 44 :: u 45 :: u 46 :: u 47 :: u 48 :: u 49 :: u 50 :: u 51 :: u 52 :: u 53 :: u 54 :: u 55 :: u 56 :: u 57 :: u 58 :: u 59 :: u 60 :: u 61 :: u 62 :: u 63 :: u 64 :: u 65 :: .slice Ab s.baths.length cb :: .int .i64 (s.baths.length : Int) :: .int .i64 (n : Int) :: u 69 :: u 70 :: u 71 :: u 72 :: u 73 :: u 74 :: u 75 :: u 76 :: u 77 :: u 78 :: u 79 :: u 80 :: u 81 :: u 82 :: u 83 :: u 84 :: u 85 :: u 86 :: u 87 :: u 88 :: u 89 :: u 90 :: u 91 :: u 92 :: u 93 :: u 94 :: u 95 :: u 96 :: u 97 :: u 98 :: u 99 :: u 100 :: u 101 :: u 102 :: u 103 :: u 104 :: u 105 :: u 106 :: u 107 :: u 108 :: u 109 :: u 110 :: u 111 :: u 112 :: u 113 :: u 114 :: u 115 :: u 116 :: u 117 :: u 118 :: u 119 :: u 120 :: u 121 :: u 122 :: u 123 :: u 124 :: u 125 :: u 126 :: u 127 :: u 128 :: u 129 :: u 130 :: u 131 :: u 132 :: u 133 :: u 134 :: u 135 :: u 136 :: u 137 :: u 138 :: u 139 :: u 140 :: u 141 :: u 142 :: u 143 :: u 144 :: u 145 :: u 146 :: u 147 :: u 148 :: u 149 :: u 150 :: u 151 :: u 152 :: u 153 :: u 154 :: u 155 :: u 156 :: u 157 :: u 158 :: u 159 :: u 160 :: u 161 :: u 162 :: u 163 :: u 164 :: u 165 :: u 166 :: u 167 :: u 168 :: u 169 :: u 170 :: u 171 :: u 172 :: u 173 :: u 174 :: u 175 :: u 176 :: u 177 :: u 178 :: u 179 :: u 180 :: u 181 :: u 182 :: u 183 :: u 184 :: u 185 :: u 186 :: u 187 :: u 188 :: u 189 :: u 190 :: []), []⟩) a W)
    (fun a _ => s.baths.length - (intOf (a.tmps.getD 68 undef)).toNat) ⟨⟨0, by omega, S2, exFrame (by kernel_rfl)⟩⟩ ?_
  clear S2
  rintro a W4 ⟨⟨n, hn, S1, u, rfl⟩⟩
  by_cases hno : n < s.baths.length
  ·
    have ho := HK.out.heats n hno
    have h6 := HK.out.nb
    obtain ⟨bo, oo, hAo, hbo, g0, g1, g2⟩ := IsBts.at_ (hs.below S1.bw).baths hno
    rw [hAo]
    have hbs := S1.bw.size
    have hbw : bo < W4.heap.size := by omega
    obtain ⟨lo, hlo⟩ : ∃ lo, (gBt s.baths n).heat.lo = lo := ⟨_, rfl⟩
    obtain ⟨hi', hhi⟩ : ∃ hi', (gBt s.baths n).heat.hi = hi' := ⟨_, rfl⟩
    obtain ⟨rl, hrl⟩ : ∃ rl, (gBt s.baths n).reads.length = rl := ⟨_, rfl⟩
    obtain ⟨f, hf⟩ : ∃ f, heatsTo s n = f := ⟨_, rfl⟩
    have HL : Hid (heatsTo s (n + 1) = spanM f 0 (7 + n) lo hi') := Lib.hid (by rw [← hf, ← hlo, ← hhi]; rfl)
    rw [hlo] at g0 ho
    rw [hhi] at g1 ho
    rw [hrl] at g2
    rw [hf] at S1
    clear hlo hhi hf hrl
    have qr : Blk (W4.alloc (.cells #[.int .i64 lo, .int .i64 hi', .slice (rA n) rl (rc n)] 116)) W4.heap.size 116 #[.int .i64 lo, .int .i64 hi', .slice (rA n) rl (rc n)] := Blk.new _ _ _
    have hX := ex_alloc (Below.refl W4.heap.size W4) (.cells #[.int .i64 lo, .int .i64 hi', .slice (rA n) rl (rc n)] 116)
    have S3 := S1.below hX
    go_wp2_with fail
    generalize W4.alloc (.cells #[.int .i64 lo, .int .i64 hi', .slice (rA n) rl (rc n)] 116) = U at *
    have r0 : U.cell? ⟨W4.heap.size, 0, none⟩ = some (.int .i64 lo) := qr.cell 0
    have r1 : U.cell? ⟨W4.heap.size, 1, none⟩ = some (.int .i64 hi') := qr.cell 1
    have lr := qr.lt
    refine wp_region_ext_mix 5 [(false, 0), (false, 1), (false, 3), (false, 4), (true, 2)] (by kernel_rfl) (by kernel_rfl) (by intro d _ _ _ _ h; cases d <;> exact h) ?_
    have hX0 := (Below.refl U.heap.size U).drew
    repeat (refine mix_quiet rfl ?_; go_big_quiet_step (fail); refine wpQuiet_nil ?_)
    refine mix_loud rfl ?_
    go_wp2_with fail
    refine (pool_any (n : Int) _ (by omega)).mono ?_
    rintro e w' ⟨rfl, rfl⟩
    go_wp2_with fail
    refine ⟨inEx hX0, ?_⟩
    refine mix_nil (r := [_]) rfl ?_
    have S4 := S3.below hX0
    go_wp2_with fail
    rw [show (7 : Int) + (n : Int) = ((7 + n : Nat) : Int) by omega]
    refine (span_any (w.heap.size + 1) 0 (7 + n) f lo hi' _ S4.fr (by omega) (by omega) (by omega)).mono ?_
    rintro e W7 ⟨rfl, hF, hFar⟩
    have S5 := S4.of hF hFar
    rw [← HL.out] at S5
    go_wp2_with fail
    refine ⟨⟨⟨n + 1, by omega, S5, exFrame (by kernel_rfl)⟩⟩, ?_⟩
    show s.baths.length - (intOf (.int .i64 ((n : Int) + 1))).toNat < s.baths.length - (intOf (.int .i64 (n : Int))).toNat
    simp [intOf]
    omega
  have hnE : n = s.baths.length := by omega
  subst hnE
  have wk := hw.wk.below S1.bw hw.wk.lt
  have k3 : W4.cell? ⟨q, 3, none⟩ = some (.slice A (placeL s).length c) := wk.cell 3
  have lk := wk.lt
  go_wp2_with fail
  clear wk k3 lk
  have S2 : FS w bits (readN s (bits.testBit ·) 0) W4 := S1
  clear S1
  refine wp_loop (fun a W => Rel (fun a W => ∃ k : Nat, k ≤ (placeL s).length ∧ FS w bits (readN s (bits.testBit ·) k) W ∧ ∃ u : Nat → Value, a = ⟨List.toArray (.pointer (some ⟨q, 0, none⟩) :: u 1 :: u 2 :: .pointer (some ⟨w.heap.size, 0, none⟩) :: u 4 :: u 5 :: .pointer (some ⟨w.heap.size + 1, 0, none⟩) :: u 7 :: u 8 :: u 9 :: u 10 :: u 11 :: u 12 :: u 13 :: u 14 :: u 15 :: u 16 :: u 17 :: u 18 :: u 19 :: u 20 :: u 21 :: u 22 :: u 23 :: u 24 :: u 25 :: u 26 :: u 27 :: u 28 :: u 29 :: u 30 :: u 31 :: u 32 :: u 33 :: u 34 :: u 35 :: u 36 :: u 37 :: u 38 :: u 39 :: u 40 :: u 41 :: u 42 :: u 43 :: u 44 :: u 45 :: u 46 :: u 47 :: u 48 :: u 49 :: u 50 :: u 51 :: u 52 :: u 53 :: u 54 :: u 55 :: u 56 :: u 57 :: u 58 :: u 59 :: u 60 :: u 61 :: u 62 :: u 63 :: u 64 :: u 65 :: u 66 :: u 67 :: u 68 :: u 69 :: u 70 :: u 71 :: u 72 :: u 73 :: u 74 :: u 75 :: u 76 :: u 77 :: u 78 :: u 79 :: u 80 :: u 81 :: u 82 :: .slice A (placeL s).length c :: .int .i64 ((placeL s).length : Int) :: .int .i64 (k : Int) :: u 86 :: u 87 :: u 88 :: u 89 :: u 90 :: u 91 :: u 92 :: u 93 :: u 94 :: u 95 :: u 96 :: u 97 :: u 98 :: u 99 :: u 100 :: u 101 :: u 102 :: u 103 :: u 104 :: u 105 :: u 106 :: u 107 :: u 108 :: u 109 :: u 110 :: u 111 :: u 112 :: u 113 :: u 114 :: u 115 :: u 116 :: u 117 :: u 118 :: u 119 :: u 120 :: u 121 :: u 122 :: u 123 :: u 124 :: u 125 :: u 126 :: u 127 :: u 128 :: u 129 :: u 130 :: u 131 :: u 132 :: u 133 :: u 134 :: u 135 :: u 136 :: u 137 :: u 138 :: u 139 :: u 140 :: u 141 :: u 142 :: u 143 :: u 144 :: u 145 :: u 146 :: u 147 :: u 148 :: u 149 :: u 150 :: u 151 :: u 152 :: u 153 :: u 154 :: u 155 :: u 156 :: u 157 :: u 158 :: u 159 :: u 160 :: u 161 :: u 162 :: u 163 :: u 164 :: u 165 :: u 166 :: u 167 :: u 168 :: u 169 :: u 170 :: u 171 :: u 172 :: u 173 :: u 174 :: u 175 :: u 176 :: u 177 :: u 178 :: u 179 :: u 180 :: u 181 :: u 182 :: u 183 :: u 184 :: u 185 :: u 186 :: u 187 :: u 188 :: u 189 :: u 190 :: []), []⟩) a W)
    (fun a _ => (placeL s).length - (intOf (a.tmps.getD 85 undef)).toNat) ⟨⟨0, by omega, S2, exFrame (by kernel_rfl)⟩⟩ ?_
  clear S2
  rintro a W5 ⟨⟨k, hk, S1, u, rfl⟩⟩
  by_cases hkl : k < (placeL s).length
  ·
    obtain ⟨bo, oo, hAo, hbo, gc⟩ := hw.pl (by omega)
    rw [hAo]
    have g0 := (S1.bw.cell (p := ⟨bo, oo + (k * 2 + 0), none⟩) hbo).trans (gc k 0 hkl (by omega))
    have g1 := (S1.bw.cell (p := ⟨bo, oo + (k * 2 + 1), none⟩) hbo).trans (gc k 1 hkl (by omega))
    clear gc
    obtain ⟨hp1, hp2⟩ := pAt_mem hkl
    have HSTEP := Lib.hid (readN_step (s := s) (out := (bits.testBit ·)) hkl)
    have hinst := HK.out.inst _ hp1 _ hp2
    have hval := HK.out.val _ hp1 _ hp2
    have HRA : Hid (rdAt s (pAt s k) = gRd (gBt s.baths (pAt s k).1).reads (pAt s k).2) := Lib.hid rfl
    have hg0 : fPl (placeL s) k 0 = .int .i64 ((pAt s k).1 : Int) := rfl
    have hg1 : fPl (placeL s) k 1 = .int .i64 ((pAt s k).2 : Int) := rfl
    rw [hg0] at g0
    rw [hg1] at g1
    clear hg0 hg1
    have hbs := S1.bw.size
    have hbw : bo < W5.heap.size := by omega
    generalize pAt s k = p at *
    obtain ⟨pb, pr⟩ := p
    simp only [Nat.add_zero] at hp1 hp2 hinst hval HSTEP HRA g0 g1
    rw [← Nat.add_assoc] at g1
    have qp : Blk (W5.alloc (.cells #[.int .i64 (pb : Int), .int .i64 (pr : Int)] 137)) W5.heap.size 137 #[.int .i64 (pb : Int), .int .i64 (pr : Int)] := Blk.new _ _ _
    have hX := ex_alloc (Below.refl W5.heap.size W5) (.cells #[.int .i64 (pb : Int), .int .i64 (pr : Int)] 137)
    have S3 := S1.below hX
    have b0 : W5.cell? ⟨w.heap.size, 0, none⟩ = some (.int .u64 (bits : Int)) := S1.lf.cell 0
    have bl := S1.lf.lt
    cases htb : bits.testBit k
    rotate_left
    · have e1 := bit_tst false hbt htb
      have HS : Hid (readN s (fun x => bits.testBit x) (k + 1) = readN s (fun x => bits.testBit x) k) := Lib.hid (by rw [HSTEP.out, htb]; rfl)
      clear htb HSTEP
      rw [← HS.out] at S3
      go_wp2_with fail
      refine ⟨⟨⟨k + 1, by omega, S3, exFrame (by kernel_rfl)⟩⟩, ?_⟩
      show (placeL s).length - (intOf (.int .i64 ((k : Int) + 1))).toNat < (placeL s).length - (intOf (.int .i64 (k : Int))).toNat
      simp [intOf]
      omega
    have e1 := bit_tst true hbt htb
    obtain ⟨iv, hiv⟩ : ∃ iv, (rdAt s (pb, pr)).inst = iv := ⟨_, rfl⟩
    obtain ⟨vv, hvv⟩ : ∃ vv, (rdAt s (pb, pr)).val = vv := ⟨_, rfl⟩
    obtain ⟨f, hf⟩ : ∃ f, readN s (fun x => bits.testBit x) k = f := ⟨_, rfl⟩
    have HS : Hid (readN s (fun x => bits.testBit x) (k + 1) = spanM f (1 + iv.toNat) (7 + pb) (vv - s.err) (vv + s.err)) := Lib.hid (by rw [HSTEP.out, htb, hf, hiv, hvv]; rfl)
    rw [hf] at S1 S3
    rw [← HRA.out, hiv] at hinst
    rw [← HRA.out, hvv] at hval
    have hse := HK.out.err
    have hno := HK.out.no
    have hnb := HK.out.nb
    obtain ⟨bb, ob, hAb, hbb, _, _, c2⟩ := IsBts.at_ (hs.below S3.bw).baths hp1
    obtain ⟨br, obr, hAr, hbr, r0, r1⟩ := IsRds.at_ ((hs.below S3.bw).reads pb hp1) hp2
    rw [hAr] at c2
    rw [← HRA.out] at r0 r1
    rw [hiv] at r0
    rw [hvv] at r1
    obtain ⟨i, rfl⟩ : ∃ i : Nat, iv = (i : Int) := ⟨iv.toNat, by omega⟩
    rw [Int.toNat_natCast] at HS
    have hi6 : i < 6 := by omega
    have wk := hw.wk.below S3.bw hw.wk.lt
    rw [hAb] at wk
    clear htb HSTEP hiv hvv hf HRA
    go_wp2_with fail
    generalize W5.alloc (.cells #[.int .i64 (pb : Int), .int .i64 (pr : Int)] 137) = U at *
    have k2 : U.cell? ⟨q, 2, none⟩ = some (.slice (some ⟨bb, ob, none⟩) s.baths.length cb) := wk.cell 2
    have p0 : U.cell? ⟨W5.heap.size, 0, none⟩ = some (.int .i64 (pb : Int)) := qp.cell 0
    have p1 : U.cell? ⟨W5.heap.size, 1, none⟩ = some (.int .i64 (pr : Int)) := qp.cell 1
    have lp := qp.lt
    have lk := wk.lt
    have hbU := S3.bw.size
    have m1 : bb < U.heap.size := by omega
    have m2 : br < U.heap.size := by omega
    refine wp_region_ext_mix 15 [(false, 0), (false, 1), (false, 2), (false, 3), (false, 4), (false, 5), (false, 6), (false, 7), (false, 8), (false, 9), (false, 10), (false, 11), (false, 12), (false, 13), (true, 14)] (by kernel_rfl) (by kernel_rfl) (by intro d _ _ _ _ h; cases d <;> exact h) ?_
    have hX0 := (Below.refl U.heap.size U).drew
    repeat (refine mix_quiet rfl ?_; go_big_quiet_step (fail); refine wpQuiet_nil ?_)
    refine mix_loud rfl ?_
    go_wp2_with fail
    have hX1 : Below U.heap.size U (U.alloc (.cells #[.int .i64 0, .int .i64 0] 118)).drew := (ex_alloc (Below.refl _ _) _).drew
    refine ⟨inEx hX1, ?_⟩
    refine mix_nil (r := [_]) rfl ?_
    go_wp2_with fail
    clear hX1 hX0 p0 p1 k2
    have hX2 : Below U.heap.size U (U.alloc (.cells #[.int .i64 (i : Int), .int .i64 vv] 118)).drew := (ex_alloc (Below.refl _ _) _).drew
    have S4 := S3.below hX2
    have qz : Blk (U.alloc (.cells #[.int .i64 (i : Int), .int .i64 vv] 118)).drew U.heap.size 118 #[.int .i64 (i : Int), .int .i64 vv] := Blk.new _ _ _
    have wk2 := wk.below hX2 lk
    have qp2 := qp.below hX2 lp
    clear S3 wk qp
    generalize (U.alloc (.cells #[.int .i64 (i : Int), .int .i64 vv] 118)).drew = V2 at *
    have k1 : V2.cell? ⟨q, 1, none⟩ = some (.int .i64 s.err) := wk2.cell 1
    have p0 : V2.cell? ⟨W5.heap.size, 0, none⟩ = some (.int .i64 (pb : Int)) := qp2.cell 0
    have z0 : V2.cell? ⟨U.heap.size, 0, none⟩ = some (.int .i64 (i : Int)) := qz.cell 0
    have z1 : V2.cell? ⟨U.heap.size, 1, none⟩ = some (.int .i64 vv) := qz.cell 1
    have lz := qz.lt
    have lk2 := wk2.lt
    have lp2 := qp2.lt
    have w1 : IntKind.i64.wrap (vv - s.err) = vv - s.err := IntWalk.i64_in _ (by omega)
    have w2 : IntKind.i64.wrap (vv + s.err) = vv + s.err := IntWalk.i64_in _ (by omega)
    refine wp_region_ext_mix 24 [(false, 0), (false, 1), (false, 2), (false, 4), (false, 5), (false, 7), (false, 8), (false, 9), (false, 10), (false, 11), (false, 12), (false, 13), (false, 14), (false, 15), (false, 16), (false, 17), (false, 18), (false, 19), (false, 20), (false, 21), (false, 22), (false, 23), (true, 3), (true, 6)] (by kernel_rfl) (by kernel_rfl) (by intro d _ _ _ _ h; cases d <;> exact h) ?_
    have hX0 := (Below.refl V2.heap.size V2).drew
    repeat (refine mix_quiet rfl ?_; go_big_quiet_step (fail); refine wpQuiet_nil ?_)
    refine mix_loud rfl ?_
    go_wp2_with fail
    refine (tool_any (i : Int) _ (by omega)).mono ?_
    rintro e w' ⟨rfl, rfl⟩
    go_wp2_with fail
    refine ⟨inEx hX0, ?_⟩
    refine mix_loud rfl ?_
    go_wp2_with fail
    refine (pool_any (pb : Int) _ (by omega)).mono ?_
    rintro e w' ⟨rfl, rfl⟩
    go_wp2_with fail
    refine ⟨inEx hX0, ?_⟩
    refine mix_nil (r := [_]) rfl ?_
    have S5 := S4.below hX0
    go_wp2_with fail
    rw [show (7 : Int) + (pb : Int) = ((7 + pb : Nat) : Int) by omega, show (1 : Int) + (i : Int) = ((1 + i : Nat) : Int) by omega]
    refine (span_any (w.heap.size + 1) (1 + i) (7 + pb) f (vv - s.err) (vv + s.err) _ S5.fr (by omega) (by omega) (by omega)).mono ?_
    rintro e W7 ⟨rfl, hF, hFar⟩
    have S6 := S5.of hF hFar
    rw [← HS.out] at S6
    go_wp2_with fail
    refine ⟨⟨⟨k + 1, by omega, S6, exFrame (by kernel_rfl)⟩⟩, ?_⟩
    show (placeL s).length - (intOf (.int .i64 ((k : Int) + 1))).toNat < (placeL s).length - (intOf (.int .i64 (k : Int))).toNat
    simp [intOf]
    omega
  have hkE : k = (placeL s).length := by omega
  subst hkE
  rw [readN_all] at S1
  obtain ⟨h0, h8⟩ := seM_start (out := fun x => bits.testBit x) hok
  have HF0 := Lib.hid h0
  have HC := Lib.hid h8
  clear h0 h8
  obtain ⟨C, hC⟩ : ∃ C, seM s (fun x => bits.testBit x) = C := ⟨_, rfl⟩
  have HCE := Lib.hid hC
  rw [hC] at S1 HF0 HC
  clear hC
  go_wp2_with fail
  refine wp_loop (fun a W => Rel (fun a W => ∃ t : Nat, t ≤ 13 ∧ ∃ f : Mat, FS w bits f W ∧ Hid (FW C t f) ∧ ∃ u : Nat → Value, a = ⟨List.toArray (.pointer (some ⟨q, 0, none⟩) :: u 1 :: u 2 :: .pointer (some ⟨w.heap.size, 0, none⟩) :: u 4 :: u 5 :: .pointer (some ⟨w.heap.size + 1, 0, none⟩) :: u 7 :: u 8 :: u 9 :: u 10 :: u 11 :: u 12 :: u 13 :: u 14 :: u 15 :: u 16 :: u 17 :: u 18 :: u 19 :: u 20 :: u 21 :: u 22 :: u 23 :: u 24 :: u 25 :: u 26 :: u 27 :: u 28 :: u 29 :: u 30 :: u 31 :: u 32 :: u 33 :: u 34 :: u 35 :: u 36 :: u 37 :: u 38 :: u 39 :: u 40 :: u 41 :: u 42 :: u 43 :: u 44 :: u 45 :: u 46 :: u 47 :: u 48 :: u 49 :: u 50 :: u 51 :: u 52 :: u 53 :: u 54 :: u 55 :: u 56 :: u 57 :: u 58 :: u 59 :: u 60 :: u 61 :: u 62 :: u 63 :: u 64 :: u 65 :: u 66 :: u 67 :: u 68 :: u 69 :: u 70 :: u 71 :: u 72 :: u 73 :: u 74 :: u 75 :: u 76 :: u 77 :: u 78 :: u 79 :: u 80 :: u 81 :: u 82 :: u 83 :: u 84 :: u 85 :: u 86 :: u 87 :: u 88 :: u 89 :: u 90 :: u 91 :: u 92 :: u 93 :: u 94 :: u 95 :: u 96 :: u 97 :: u 98 :: u 99 :: u 100 :: u 101 :: u 102 :: u 103 :: u 104 :: u 105 :: u 106 :: u 107 :: u 108 :: u 109 :: u 110 :: u 111 :: u 112 :: u 113 :: u 114 :: u 115 :: u 116 :: u 117 :: u 118 :: u 119 :: u 120 :: u 121 :: u 122 :: u 123 :: u 124 :: u 125 :: u 126 :: u 127 :: u 128 :: u 129 :: u 130 :: u 131 :: u 132 :: u 133 :: u 134 :: u 135 :: .int .i64 (t : Int) :: u 137 :: u 138 :: u 139 :: u 140 :: u 141 :: u 142 :: u 143 :: u 144 :: u 145 :: u 146 :: u 147 :: u 148 :: u 149 :: u 150 :: u 151 :: u 152 :: u 153 :: u 154 :: u 155 :: u 156 :: u 157 :: u 158 :: u 159 :: u 160 :: u 161 :: u 162 :: u 163 :: u 164 :: u 165 :: u 166 :: u 167 :: u 168 :: u 169 :: u 170 :: u 171 :: u 172 :: u 173 :: u 174 :: u 175 :: u 176 :: u 177 :: u 178 :: u 179 :: u 180 :: u 181 :: u 182 :: u 183 :: u 184 :: u 185 :: u 186 :: u 187 :: u 188 :: u 189 :: u 190 :: []), []⟩) a W)
    (fun a _ => 13 - (intOf (a.tmps.getD 136 undef)).toNat) ⟨⟨0, by omega, C, S1, HF0, exFrame (by kernel_rfl)⟩⟩ ?_
  clear S1 HF0
  rintro a W6 ⟨⟨t, ht, A1, S1, F1, u, rfl⟩⟩
  by_cases ht13 : t < 13
  ·
    have HA : Hid (∀ a b, a < 13 → b < 13 → A1 a b ≤ 8000) := Lib.hid (fun a b ha hb => Int.le_trans (F1.out.le a b ha hb) (HC.out a b ha hb))
    have P0 := Lib.hid (Ph.start (A := A1) (m := 8000 * 6 ^ t) ht13 (six_pos t) (fun a b ha hb => F1.out.lo a b ha hb))
    have HM := Lib.hid (six_le ht)
    go_wp2_with fail
    refine wp_loop (fun a W => Rel (fun a W => ∃ i : Nat, i ≤ 13 ∧ ∃ f : Mat, FS w bits f W ∧ Hid (Ph A1 t (8000 * 6 ^ t) i 0 f) ∧ ∃ u : Nat → Value, a = ⟨List.toArray (.pointer (some ⟨q, 0, none⟩) :: u 1 :: u 2 :: .pointer (some ⟨w.heap.size, 0, none⟩) :: u 4 :: u 5 :: .pointer (some ⟨w.heap.size + 1, 0, none⟩) :: u 7 :: u 8 :: u 9 :: u 10 :: u 11 :: u 12 :: u 13 :: u 14 :: u 15 :: .int .i64 (t : Int) :: u 17 :: u 18 :: u 19 :: u 20 :: u 21 :: u 22 :: u 23 :: u 24 :: u 25 :: u 26 :: u 27 :: u 28 :: u 29 :: u 30 :: u 31 :: u 32 :: u 33 :: u 34 :: u 35 :: u 36 :: u 37 :: u 38 :: u 39 :: u 40 :: u 41 :: u 42 :: u 43 :: u 44 :: u 45 :: u 46 :: u 47 :: u 48 :: u 49 :: u 50 :: u 51 :: u 52 :: u 53 :: u 54 :: u 55 :: u 56 :: u 57 :: u 58 :: u 59 :: u 60 :: u 61 :: u 62 :: u 63 :: u 64 :: u 65 :: u 66 :: u 67 :: u 68 :: u 69 :: u 70 :: u 71 :: u 72 :: u 73 :: u 74 :: u 75 :: u 76 :: u 77 :: u 78 :: u 79 :: u 80 :: u 81 :: u 82 :: u 83 :: u 84 :: u 85 :: u 86 :: u 87 :: u 88 :: u 89 :: u 90 :: u 91 :: u 92 :: u 93 :: u 94 :: u 95 :: u 96 :: u 97 :: u 98 :: u 99 :: u 100 :: u 101 :: u 102 :: u 103 :: u 104 :: u 105 :: u 106 :: u 107 :: u 108 :: u 109 :: u 110 :: u 111 :: u 112 :: u 113 :: u 114 :: u 115 :: u 116 :: u 117 :: u 118 :: u 119 :: u 120 :: u 121 :: u 122 :: u 123 :: u 124 :: u 125 :: u 126 :: u 127 :: u 128 :: u 129 :: u 130 :: u 131 :: u 132 :: u 133 :: u 134 :: u 135 :: .int .i64 (t : Int) :: u 137 :: u 138 :: .int .i64 (i : Int) :: u 140 :: u 141 :: u 142 :: u 143 :: u 144 :: u 145 :: u 146 :: u 147 :: u 148 :: u 149 :: u 150 :: u 151 :: u 152 :: u 153 :: u 154 :: u 155 :: u 156 :: u 157 :: u 158 :: u 159 :: u 160 :: u 161 :: u 162 :: u 163 :: u 164 :: u 165 :: u 166 :: u 167 :: u 168 :: u 169 :: u 170 :: u 171 :: u 172 :: u 173 :: u 174 :: u 175 :: u 176 :: u 177 :: u 178 :: u 179 :: u 180 :: u 181 :: u 182 :: u 183 :: u 184 :: u 185 :: u 186 :: u 187 :: u 188 :: u 189 :: u 190 :: []), []⟩) a W)
      (fun a _ => 13 - (intOf (a.tmps.getD 139 undef)).toNat) ⟨⟨0, by omega, A1, S1, P0, exFrame (by kernel_rfl)⟩⟩ ?_
    clear S1 P0
    rintro a W7 ⟨⟨i, hi', f, S1, P1, u, rfl⟩⟩
    by_cases hi13' : i < 13
    · go_wp2_with fail
      refine wp_loop (fun a W => Rel (fun a W => ∃ j : Nat, j ≤ 13 ∧ ∃ f : Mat, FS w bits f W ∧ Hid (Ph A1 t (8000 * 6 ^ t) i j f) ∧ ∃ u : Nat → Value, a = ⟨List.toArray (.pointer (some ⟨q, 0, none⟩) :: u 1 :: u 2 :: .pointer (some ⟨w.heap.size, 0, none⟩) :: u 4 :: u 5 :: .pointer (some ⟨w.heap.size + 1, 0, none⟩) :: u 7 :: u 8 :: u 9 :: u 10 :: u 11 :: u 12 :: u 13 :: u 14 :: u 15 :: .int .i64 (t : Int) :: .int .i64 (i : Int) :: u 18 :: u 19 :: u 20 :: u 21 :: u 22 :: u 23 :: u 24 :: u 25 :: u 26 :: u 27 :: u 28 :: u 29 :: u 30 :: u 31 :: u 32 :: u 33 :: u 34 :: u 35 :: u 36 :: u 37 :: u 38 :: u 39 :: u 40 :: u 41 :: u 42 :: u 43 :: u 44 :: u 45 :: u 46 :: u 47 :: u 48 :: u 49 :: u 50 :: u 51 :: u 52 :: u 53 :: u 54 :: u 55 :: u 56 :: u 57 :: u 58 :: u 59 :: u 60 :: u 61 :: u 62 :: u 63 :: u 64 :: u 65 :: u 66 :: u 67 :: u 68 :: u 69 :: u 70 :: u 71 :: u 72 :: u 73 :: u 74 :: u 75 :: u 76 :: u 77 :: u 78 :: u 79 :: u 80 :: u 81 :: u 82 :: u 83 :: u 84 :: u 85 :: u 86 :: u 87 :: u 88 :: u 89 :: u 90 :: u 91 :: u 92 :: u 93 :: u 94 :: u 95 :: u 96 :: u 97 :: u 98 :: u 99 :: u 100 :: u 101 :: u 102 :: u 103 :: u 104 :: u 105 :: u 106 :: u 107 :: u 108 :: u 109 :: u 110 :: u 111 :: u 112 :: u 113 :: u 114 :: u 115 :: u 116 :: u 117 :: u 118 :: u 119 :: u 120 :: u 121 :: u 122 :: u 123 :: u 124 :: u 125 :: u 126 :: u 127 :: u 128 :: u 129 :: u 130 :: u 131 :: u 132 :: u 133 :: u 134 :: u 135 :: .int .i64 (t : Int) :: u 137 :: u 138 :: .int .i64 (i : Int) :: u 140 :: u 141 :: .int .i64 (j : Int) :: u 143 :: u 144 :: u 145 :: u 146 :: u 147 :: u 148 :: u 149 :: u 150 :: u 151 :: u 152 :: u 153 :: u 154 :: u 155 :: u 156 :: u 157 :: u 158 :: u 159 :: u 160 :: u 161 :: u 162 :: u 163 :: u 164 :: u 165 :: u 166 :: u 167 :: u 168 :: u 169 :: u 170 :: u 171 :: u 172 :: u 173 :: u 174 :: u 175 :: u 176 :: u 177 :: u 178 :: u 179 :: u 180 :: u 181 :: u 182 :: u 183 :: u 184 :: u 185 :: u 186 :: u 187 :: u 188 :: u 189 :: u 190 :: []), []⟩) a W)
        (fun a _ => 13 - (intOf (a.tmps.getD 142 undef)).toNat) ⟨⟨0, by omega, f, S1, P1, exFrame (by kernel_rfl)⟩⟩ ?_
      clear S1 P1
      rintro a W8 ⟨⟨j, hj, f, S1, P1, u, rfl⟩⟩
      by_cases hj13 : j < 13
      · have P2 := Lib.hid (P1.out.step ht13 hi13' hj13 (six_pos t))
        have w1 := P1.out.bd HM.out HA.out ht13 hi13' hj13
        have d1 := S1.fr.cell hi13' hj13
        have d2 := S1.fr.cell hi13' ht13
        have d3 := S1.fr.cell ht13 hj13
        have lq := S1.fr.lt
        clear P1
        go_wp2_with fail
        refine wp_region_ext_mix 30 [(false, 0), (false, 1), (false, 2), (false, 3), (false, 4), (false, 5), (false, 6), (false, 7), (false, 8), (false, 9), (false, 10), (false, 11), (false, 12), (false, 13), (false, 14), (false, 15), (false, 16), (false, 17), (false, 18), (false, 19), (false, 20), (false, 21), (false, 22), (false, 23), (false, 24), (false, 27), (false, 28), (true, 25), (true, 26), (false, 29)] (by kernel_rfl) (by kernel_rfl) (by intro d _ _ _ _ h; cases d <;> exact h) ?_
        have hX0 := (Below.refl W8.heap.size W8).drew
        repeat (refine mix_quiet rfl ?_; go_big_quiet_step (fail); refine wpQuiet_nil ?_)
        refine mix_loud rfl ?_
        go_wp2_with fail
        have hX1 : Below W8.heap.size W8 (W8.alloc (.cells #[.int .i64 (f i j), .int .i64 (f i t + f t j)] 3)).drew := (ex_alloc (Below.refl _ _) _).drew
        refine ⟨inEx hX1, ?_⟩
        refine mix_loud rfl ?_
        go_wp2_with fail
        refine (least2 W8.heap.size 2 (f i j) (f i t + f t j) _ (by simp [go_sem]) (by simp [go_sem])).mono ?_
        rintro e w' ⟨rfl, rfl⟩
        go_wp2_with fail
        refine ⟨inEx hX1, ?_⟩
        repeat (refine mix_quiet rfl ?_; go_big_quiet_step (fail); refine wpQuiet_nil ?_)
        refine mix_nil (r := [_]) rfl ?_
        have S2 := (S1.below hX1).set (min (f i j) (f i t + f t j)) hi13' hj13
        have fz := S1.fr.frozen (i * 13 + j)
        go_wp2_with fail
        have hU : (W8.alloc (.cells #[.int .i64 (f i j), .int .i64 (f i t + f t j)] 3)).drew.setCell ⟨w.heap.size + 1, i * 13 + j, none⟩ (.int .i64 (min (f i j) (f i t + f t j))) = ((W8.setCell ⟨w.heap.size + 1, i * 13 + j, none⟩ (.int .i64 (min (f i j) (f i t + f t j)))).alloc (.cells #[.int .i64 (f i j), .int .i64 (f i t + f t j)] 3)).drew := by
          simp [go_sem, lq]
        rw [hU] at S2
        refine ⟨⟨⟨j + 1, by omega, _, S2, P2, exFrame (by kernel_rfl)⟩⟩, ?_⟩
        show 13 - (intOf (.int .i64 ((j : Int) + 1))).toNat < 13 - (intOf (.int .i64 (j : Int))).toNat
        simp [intOf]
        omega
      · have hjE : j = 13 := by omega
        subst hjE
        have P2 := Lib.hid P1.out.row
        go_wp2_with fail
        refine ⟨⟨⟨i + 1, by omega, f, S1, P2, exFrame (by kernel_rfl)⟩⟩, ?_⟩
        show 13 - (intOf (.int .i64 ((i : Int) + 1))).toNat < 13 - (intOf (.int .i64 (i : Int))).toNat
        simp [intOf]
        omega
    · have hiE : i = 13 := by omega
      subst hiE
      have F2 := Lib.hid (F1.out.step ht13 P1.out)
      go_wp2_with fail
      refine ⟨⟨⟨t + 1, by omega, f, S1, F2, exFrame (by kernel_rfl)⟩⟩, ?_⟩
      show 13 - (intOf (.int .i64 ((t : Int) + 1))).toNat < 13 - (intOf (.int .i64 (t : Int))).toNat
      simp [intOf]
      omega
  have htE : t = 13 := by omega
  subst htE
  go_wp2_with fail
  refine wp_loop (fun a W => Rel (fun a W => ∃ n : Nat, n ≤ 13 ∧ FS w bits A1 W ∧ Hid (∀ k, k < n → 0 ≤ A1 k k) ∧ ∃ u : Nat → Value, a = ⟨List.toArray (.pointer (some ⟨q, 0, none⟩) :: u 1 :: u 2 :: .pointer (some ⟨w.heap.size, 0, none⟩) :: u 4 :: u 5 :: .pointer (some ⟨w.heap.size + 1, 0, none⟩) :: u 7 :: u 8 :: u 9 :: u 10 :: u 11 :: u 12 :: u 13 :: u 14 :: u 15 :: u 16 :: u 17 :: u 18 :: u 19 :: u 20 :: u 21 :: u 22 :: u 23 :: u 24 :: u 25 :: u 26 :: u 27 :: u 28 :: u 29 :: u 30 :: u 31 :: u 32 :: u 33 :: u 34 :: u 35 :: u 36 :: u 37 :: u 38 :: u 39 :: u 40 :: u 41 :: u 42 :: u 43 :: u 44 :: u 45 :: u 46 :: u 47 :: u 48 :: u 49 :: u 50 :: u 51 :: u 52 :: u 53 :: u 54 :: u 55 :: u 56 :: u 57 :: u 58 :: u 59 :: u 60 :: u 61 :: u 62 :: u 63 :: u 64 :: u 65 :: u 66 :: u 67 :: u 68 :: u 69 :: u 70 :: u 71 :: u 72 :: u 73 :: u 74 :: u 75 :: u 76 :: u 77 :: u 78 :: u 79 :: u 80 :: u 81 :: u 82 :: u 83 :: u 84 :: u 85 :: u 86 :: u 87 :: u 88 :: u 89 :: u 90 :: u 91 :: u 92 :: u 93 :: u 94 :: u 95 :: u 96 :: u 97 :: u 98 :: u 99 :: u 100 :: u 101 :: u 102 :: u 103 :: u 104 :: u 105 :: u 106 :: u 107 :: u 108 :: u 109 :: u 110 :: u 111 :: u 112 :: u 113 :: u 114 :: u 115 :: u 116 :: u 117 :: u 118 :: u 119 :: u 120 :: u 121 :: u 122 :: u 123 :: u 124 :: u 125 :: u 126 :: u 127 :: u 128 :: u 129 :: u 130 :: u 131 :: u 132 :: u 133 :: u 134 :: u 135 :: u 136 :: u 137 :: u 138 :: u 139 :: u 140 :: u 141 :: u 142 :: u 143 :: u 144 :: u 145 :: u 146 :: u 147 :: u 148 :: u 149 :: u 150 :: u 151 :: u 152 :: u 153 :: u 154 :: u 155 :: u 156 :: u 157 :: u 158 :: u 159 :: u 160 :: u 161 :: u 162 :: u 163 :: u 164 :: u 165 :: u 166 :: u 167 :: u 168 :: u 169 :: u 170 :: u 171 :: u 172 :: u 173 :: u 174 :: u 175 :: u 176 :: u 177 :: .int .i64 (n : Int) :: u 179 :: u 180 :: u 181 :: u 182 :: u 183 :: u 184 :: u 185 :: u 186 :: u 187 :: u 188 :: u 189 :: u 190 :: []), []⟩) a W)
    (fun a _ => 13 - (intOf (a.tmps.getD 178 undef)).toNat) ⟨⟨0, by omega, S1, Lib.hid (fun k hk => by omega), exFrame (by kernel_rfl)⟩⟩ ?_
  clear S1
  rintro a W9 ⟨⟨n, hn, S1, D1, u, rfl⟩⟩
  by_cases hn13 : n < 13
  ·
    have d1 := S1.fr.cell hn13 hn13
    have lq := S1.fr.lt
    by_cases hneg : A1 n n < 0
    · have hno : ¬ ∃ o h, Tru s (fun i => bits.testBit i) o h := by
        refine far_none hok (f := A1) ?_ hn13 hneg
        rw [HCE.out]; exact F1.out
      have HNO := Lib.hid hno
      have e1 : decide (A1 n n < 0) = true := decide_eq_true hneg
      clear hno hneg
      go_wp2_with fail
      go_ret2
      exact ⟨S1.bw, .inr ⟨rfl, HNO.out⟩⟩
    · have e1 : decide (A1 n n < 0) = false := decide_eq_false hneg
      have D2 : Hid (∀ k, k < n + 1 → 0 ≤ A1 k k) := Lib.hid (fun k hk => by
        rcases Nat.lt_succ_iff_lt_or_eq.1 hk with h | h
        · exact D1.out k h
        · subst h; omega)
      clear hneg
      go_wp2_with fail
      refine ⟨⟨⟨n + 1, by omega, S1, D2, exFrame (by kernel_rfl)⟩⟩, ?_⟩
      show 13 - (intOf (.int .i64 ((n : Int) + 1))).toNat < 13 - (intOf (.int .i64 (n : Int))).toNat
      simp [intOf]
      omega
  have hnE : n = 13 := by omega
  subst hnE
  have hsome : FarIs s (fun i => bits.testBit i) A1 := far_some hok (by rw [HCE.out]; exact F1.out) D1.out
  have HSM := Lib.hid hsome
  clear hsome
  go_wp2_with fail
  go_ret2
  exact ⟨S1.bw, .inl ⟨_, _, rfl, S1.fr, HSM.out⟩⟩
end Go.Proofs.Ytnplefhigbkbbaa
end

section
namespace Go.Proofs.Ytnplefhigbkbbaa
open Go.RowKit
attribute [local go_sem] Ex.cell? Ex.frozen?

/-- no list is too long. -/
structure Sm (s : Se) : Prop where
  offs : s.offs.length ≤ 1000000
  baths : s.baths.length ≤ 1000000
  reads : ∀ k, k < s.baths.length → (gBt s.baths k).reads.length ≤ 1000000
theorem SeOk.sm {s : Se} (h : SeOk s) : Sm s := ⟨by have := h.no; omega, by have := h.nb; omega, fun k hk => by have := reads_le h hk; have := h.no; omega⟩
/-- is there a truth? -/
def Can (s : Se) : Prop := ∃ o h, Tru s (fun _ => false) o h
theorem far_post0 {s : Se} {w w' : World} {e : Ending} (h : FarPost s 0 w e w') : Below w.heap.size w w' ∧ ((∃ b f, e = .returned (.tuple #[.pointer (some ⟨b, 0, none⟩), .bool true]) ∧ FarAt w' b f ∧ FarIs s (fun _ => false) f) ∨ (e = .returned (.tuple #[.pointer none, .bool false]) ∧ ¬ Can s)) := by
  have e0 : (fun i => Nat.testBit 0 i) = fun _ => false := by funext i; simp
  unfold FarPost at h
  rw [e0] at h
  exact h
def TriedPost (s : Se) (r : Bool) (w : World) (e : Ending) (w' : World) : Prop := Below w.heap.size w w' ∧ ((ckSe s ≠ 0 ∧ e = .returned (.tuple #[.pointer none, .int .i64 (ckSe s)])) ∨ (ckSe s = 0 ∧ r = false ∧ e = .returned (.tuple #[.pointer none, .int .i64 2])) ∨
  (ckSe s = 0 ∧ r = true ∧ ((∃ b f, e = .returned (.tuple #[.pointer (some ⟨b, 0, none⟩), .int .i64 0]) ∧ FarAt w' b f ∧ FarIs s (fun _ => false) f) ∨ (e = .returned (.tuple #[.pointer none, .int .i64 9]) ∧ ¬ Can s))))
set_option maxRecDepth 100000 in
set_option maxHeartbeats 3200000 in
theorem tried_any (s : Se) (Ao Ab : Option Addr) (co cb : Nat) (rA : Nat → Option Addr) (rc : Nat → Nat) (w : World) (hs : SeIn w w.heap.size s Ao Ab rA rc) (hsm : Sm s) (r : Bool) :
    Calls Try.prog 69 #[.agg #[.slice Ao s.offs.length co, .int .i64 s.err, .slice Ab s.baths.length cb], .bool r] w (TriedPost s r w) := by
  have hb1 := ex_alloc (Below.refl w.heap.size w) (.cells #[.slice Ao s.offs.length co, .int .i64 s.err, .slice Ab s.baths.length cb] 34)
  have q1 : Blk (w.alloc (.cells #[.slice Ao s.offs.length co, .int .i64 s.err, .slice Ab s.baths.length cb] 34)) w.heap.size 34 #[.slice Ao s.offs.length co, .int .i64 s.err, .slice Ab s.baths.length cb] := Blk.new _ _ _
  go_enter Try.func69, Try.ntmps69
  go_wp2_with fail
  refine (check_any s Ao Ab co cb rA rc _ (hs.go hb1) hsm.reads hsm.baths hsm.offs).mono ?_
  rintro e w2 ⟨rfl, hb2⟩
  have B2 := ex_trans hb1 hb2
  by_cases hck : ckSe s = 0
  rotate_left
  · have HCK := Lib.hid hck
    have e1 : (ckSe s != 0) = true := by simp [hck]
    have e2 : (ckSe s == 0) = false := by simp [hck]
    clear hck
    go_wp2
    go_ret2
    exact ⟨B2, .inl ⟨HCK.out, rfl⟩⟩
  have HCK := Lib.hid hck
  have p1 := q1.below hb2 q1.lt
  rw [hck]
  clear hck
  have a0 : w2.cell? ⟨w.heap.size, 0, none⟩ = some (.slice Ao s.offs.length co) := p1.cell 0
  have a1 : w2.cell? ⟨w.heap.size, 1, none⟩ = some (.int .i64 s.err) := p1.cell 1
  have a2 : w2.cell? ⟨w.heap.size, 2, none⟩ = some (.slice Ab s.baths.length cb) := p1.cell 2
  have l1 := p1.lt
  cases r
  · go_wp2
    go_ret2
    exact ⟨B2, .inr (.inl ⟨HCK.out, rfl, rfl⟩)⟩
  have HOK := Lib.hid (seOk_iff.1 HCK.out)
  have hpl := placeL_len HOK.out
  go_wp2_with fail
  refine (work_any s Ao Ab co cb rA rc w2 (hs.go B2) hsm.baths hsm.reads (by omega)).mono ?_
  rintro e w3 ⟨q, m, A, c, rfl, hw, hq, hqm, hb3⟩
  have B3 := ex_trans B2 hb3
  go_wp2_with fail
  rw [show (0 : Int) = ((0 : Nat) : Int) from rfl]
  refine (far_any s Ao Ab A co cb c q m rA rc [] 0 w3 (hs.go B3) hw HOK.out (by omega)).mono ?_
  intro e w4 h4
  obtain ⟨hb4, ⟨b, f, rfl, hF, hI⟩ | ⟨rfl, hN⟩⟩ := far_post0 h4
  · have HI := Lib.hid hI
    clear hI
    go_wp2
    go_ret2
    exact ⟨ex_trans B3 hb4, .inr (.inr ⟨HCK.out, rfl, .inl ⟨b, f, rfl, hF, HI.out⟩⟩)⟩
  · have HN := Lib.hid hN
    clear hN
    go_wp2
    go_ret2
    exact ⟨ex_trans B3 hb4, .inr (.inr ⟨HCK.out, rfl, .inr ⟨rfl, HN.out⟩⟩)⟩
theorem range_info : (Try.prog.info? 41).map (fun i => (i.zero, i.size, i.bytes)) = some (some (.agg #[.int .i64 0, .int .i64 0]), 2, 16) := by kernel_rfl
/-- what Offsets, and Heats, tell. -/
def RngV (s : Se) (n : Nat) (Z : Nat → Int → Prop) (l : List Rg) (ev : Int) : Prop :=
  (ckSe s ≠ 0 ∧ ev = ckSe s ∧ l = []) ∨ (ckSe s = 0 ∧ ¬ Can s ∧ ev = 9 ∧ l = []) ∨ (ckSe s = 0 ∧ Can s ∧ ev = 0 ∧ l.length = n ∧ ∀ k, k < n → EndsOf (Z k) (gR l k).lo (gR l k).hi)
def OffZ (s : Se) (k : Nat) (z : Int) : Prop := ∃ o h, Tru s (fun _ => false) o h ∧ z = o k
def HeatZ (s : Se) (b : Nat) (z : Int) : Prop := ∃ o h, Tru s (fun _ => false) o h ∧ z = h b
def DiffZ (s : Se) (n k : Nat) (z : Int) : Prop := ∃ o h, Tru s (fun _ => false) o h ∧ z = o n - o k
theorem RngV.len {s : Se} {n : Nat} {Z : Nat → Int → Prop} {l : List Rg} {ev : Int} (h : RngV s n Z l ev) : l.length ≤ n := by
  rcases h with ⟨_, _, rfl⟩ | ⟨_, _, _, rfl⟩ | ⟨_, _, _, h, _⟩
  · simp
  · simp
  · omega
/-- a list that is told by a function. -/
def mkR (g : Nat → Rg) (n : Nat) : List Rg := (List.range n).map g
theorem mkR_len {g : Nat → Rg} {n : Nat} : (mkR g n).length = n := by simp [mkR]
theorem mkR_at {g : Nat → Rg} {n k : Nat} (h : k < n) : gR (mkR g n) k = g k := by simp [mkR, gR, h]
theorem mkR_succ {g : Nat → Rg} {n : Nat} : mkR g (n + 1) = mkR g n ++ [g n] := by simp [mkR, List.range_succ]
set_option maxRecDepth 100000 in
set_option maxHeartbeats 3200000 in
theorem Offsets_any (s : Se) (Ao Ab : Option Addr) (co cb : Nat) (rA : Nat → Option Addr) (rc : Nat → Nat) (w : World) (hs : SeIn w w.heap.size s Ao Ab rA rc) (hsm : Sm s) :
    Calls Try.prog 21 #[.agg #[.slice Ao s.offs.length co, .int .i64 s.err, .slice Ab s.baths.length cb]] w fun e w' => (∃ A c l ev, e = .returned (.tuple #[.slice A (l : List Rg).length c, .int .i64 ev]) ∧ Hid (RngV s s.offs.length (OffZ s) l ev) ∧ SlAt w' w'.heap.size 2 A l.length (fR l)) ∧ Below w.heap.size w w' := by
  obtain ⟨i0, hi0, hz0, hz1, hz2⟩ := info_parts range_info
  have HI := Lib.hid hi0
  have hsl := hsm.offs
  clear hi0
  have hb1 := ex_alloc (Below.refl w.heap.size w) (.cells #[.slice Ao s.offs.length co, .int .i64 s.err, .slice Ab s.baths.length cb] 34)
  have q1 : Blk (w.alloc (.cells #[.slice Ao s.offs.length co, .int .i64 s.err, .slice Ab s.baths.length cb] 34)) w.heap.size 34 #[.slice Ao s.offs.length co, .int .i64 s.err, .slice Ab s.baths.length cb] := Blk.new _ _ _
  go_enter Try.func21, Try.ntmps21
  go_wp2_with fail
  refine (tried_any s Ao Ab co cb rA rc _ (hs.go hb1) hsm true).mono ?_
  rintro e W1 ⟨hb2, h2⟩
  have B2 := ex_trans hb1 hb2
  rcases h2 with ⟨hck, rfl⟩ | ⟨_, h3, _⟩ | ⟨hck, _, h2⟩
  · have HCK := Lib.hid hck
    have e1 : (ckSe s != 0) = true := by simp [hck]
    have e2 : (ckSe s == 0) = false := by simp [hck]
    clear hck
    go_wp2
    go_ret2
    exact ⟨⟨none, 0, [], _, rfl, Lib.hid (.inl ⟨HCK.out, rfl, rfl⟩), fun h => absurd h (by simp)⟩, B2⟩
  · cases h3
  have HCK := Lib.hid hck
  have HOK := Lib.hid (seOk_iff.1 hck)
  clear hck
  rcases h2 with ⟨b, f, rfl, hF, hI⟩ | ⟨rfl, hN⟩
  rotate_left
  · have HN := Lib.hid hN
    clear hN
    go_wp2
    go_ret2
    exact ⟨⟨none, 0, [], _, rfl, Lib.hid (.inr (.inl ⟨HCK.out, HN.out, rfl, rfl⟩)), fun h => absurd h (by simp)⟩, B2⟩
  have HF := Lib.hid hI
  clear hI
  have p1 := q1.below hb2 q1.lt
  have a0 : W1.cell? ⟨w.heap.size, 0, none⟩ = some (.slice Ao s.offs.length co) := p1.cell 0
  have l1 := p1.lt
  have h6 := HOK.out.no
  have h7 := HOK.out.nb
  go_wp2_with fail
  refine wp_loop (fun a W => Rel (fun a W => ∃ k : Nat, k ≤ s.offs.length ∧ Below w.heap.size w W ∧ W1.heap.size ≤ W.heap.size ∧ FarAt W b f ∧ ∃ v, W.ownsRow W1.heap.size 41 2 v (mkR (fun k => ⟨(-(f 0 (1 + k))), (f (1 + k) 0)⟩) k).length ((mkR (fun k => ⟨(-(f 0 (1 + k))), (f (1 + k) 0)⟩) k).flatMap cR) ∧ ∃ u : Nat → Value, a = ⟨List.toArray (u 0 :: .pointer (some ⟨w.heap.size, 0, none⟩) :: u 2 :: u 3 :: .pointer (some ⟨b, 0, none⟩) :: u 5 :: v :: u 7 :: u 8 :: u 9 :: u 10 :: u 11 :: u 12 :: u 13 :: u 14 :: u 15 :: u 16 :: .slice Ao s.offs.length co :: .int .i64 (s.offs.length : Int) :: .int .i64 (k : Int) :: u 20 :: u 21 :: u 22 :: u 23 :: u 24 :: u 25 :: u 26 :: u 27 :: u 28 :: u 29 :: u 30 :: []), []⟩) a W)
    (fun a _ => s.offs.length - (intOf (a.tmps.getD 19 undef)).toNat) ⟨⟨0, by omega, B2, Nat.le_refl _, hF, .slice none 0 0, ⟨rfl, .inl ⟨rfl, rfl⟩⟩, exFrame (by kernel_rfl)⟩⟩ ?_
  have hbF := hF.lt
  clear hF p1 a0 l1
  rintro a W ⟨⟨k, hk, hbl, hsz, hF, v, hown, u, rfl⟩⟩
  by_cases hlt : k < s.offs.length
  · have bd1 := HF.out.bd (1 + k) 0 (by omega) (by omega)
    have bd2 := HF.out.bd 0 (1 + k) (by omega) (by omega)
    go_wp2_with fail
    refine (tool_any (k : Int) _ (by omega)).mono ?_
    rintro e w' ⟨rfl, rfl⟩
    go_wp2_with fail
    rw [show (1 : Int) + (k : Int) = ((1 + k : Nat) : Int) by omega]
    refine (between_any b (1 + k) 0 f _ hF (by omega) (by omega) (by omega)).mono ?_
    rintro e W2 ⟨rfl, hb3⟩
    have B3 := ex_trans hbl hb3
    have hF2 := hF.below hb3
    have hown2 := own_below hown hb3
    have hs2 := hb3.size
    have c63 : (mkR (fun k => ⟨(-(f 0 (1 + k))), (f (1 + k) 0)⟩) k).length + 1 ≤ maxLen := by rw [mkR_len]; unfold maxLen; omega
    have cby : ((mkR (fun k => ⟨(-(f 0 (1 + k))), (f (1 + k) 0)⟩) k).length + 1) * 16 ≤ 140737488355328 := by rw [mkR_len]; omega
    obtain ⟨lo, hlo⟩ : ∃ lo, (-(f 0 (1 + k))) = lo := ⟨_, rfl⟩
    obtain ⟨hi, hhi⟩ : ∃ hi, (f (1 + k) 0) = hi := ⟨_, rfl⟩
    have HLO := Lib.hid hlo
    have HHI := Lib.hid hhi
    rw [hlo, hhi]
    clear hlo hhi bd1 bd2
    have y4 := hown2.alloc (.cells #[.int .i64 lo, .int .i64 hi] 41)
    have hF3 := hF2.below (ex_alloc (Below.refl W2.heap.size W2) (.cells #[.int .i64 lo, .int .i64 hi] 41))
    have B4 := ex_alloc B3 (.cells #[.int .i64 lo, .int .i64 hi] 41)
    have hbase : W1.heap.size ≤ (W2.alloc (.cells #[.int .i64 lo, .int .i64 hi] 41)).heap.size := by simp; omega
    have hB1 := B2.size
    go_wp2_with (at_builtin; refine wpList_append_lies _ rfl _ _ _ rfl W1.heap.size 41 i0 _ 2 16 Try.underlying28 HI.out hz0 hz1 hz2 rfl (by omega) v _ _ rfl y4 ⟨W2.heap.size, 0, none⟩ 1 1 [.int .i64 lo, .int .i64 hi] rfl rfl (World.news_of_block (heap_alloc_new W2 _)) (by simp [Value.oneCell']) (by omega) c63 cby hbase (W2.heap.size + 1) (by simp) ?_; intro gg cap w1 hown' hgrow hat hlt')
    have hge := fun (j : Nat) (hj : v.ownBlock = some j) => own_ge hown hj
    have hF4 : FarAt w1 b f := by
      obtain ⟨cs, c1, c2⟩ := hF3
      exact ⟨cs, c1.grown hgrow (fun e => by have := hge _ e.symm; omega), c2⟩
    have B5 := B4.grown hgrow (by simp; omega) (fun j hj => by have := hge j hj; omega)
    have hown5 : w1.ownsRow W1.heap.size 41 2 (.slice (some ⟨gg, 0, none⟩) ((mkR (fun k => ⟨(-(f 0 (1 + k))), (f (1 + k) 0)⟩) k).length + 1) cap) (mkR (fun k => ⟨(-(f 0 (1 + k))), (f (1 + k) 0)⟩) (k + 1)).length ((mkR (fun k => ⟨(-(f 0 (1 + k))), (f (1 + k) 0)⟩) (k + 1)).flatMap cR) := by
      rw [mkR_succ, List.flatMap_append, List.length_append, HLO.out, HHI.out]
      simpa [cR] using hown'
    refine ⟨⟨k + 1, by omega, B5, by have := hgrow.size; simp at this; omega, hF4, _, hown5, exFrame (by kernel_rfl)⟩, ?_⟩
    show s.offs.length - (intOf (.int .i64 ((k : Int) + 1))).toNat < s.offs.length - (intOf (.int .i64 (k : Int))).toNat
    simp [intOf]
    omega
  · have hkE : k = s.offs.length := by omega
    subst hkE
    obtain ⟨A', c', rfl, _, _, hsl'⟩ := own_R hown
    have HV : Hid (RngV s s.offs.length (OffZ s) (mkR (fun k => ⟨(-(f 0 (1 + k))), (f (1 + k) 0)⟩) s.offs.length) 0) := Lib.hid (.inr (.inr ⟨HCK.out, HF.out.some, rfl, mkR_len, fun k hk => by rw [mkR_at hk]; exact HF.out.offs k hk⟩))
    go_wp2
    go_ret2
    exact ⟨⟨A', c', _, 0, rfl, HV, hsl'⟩, hbl⟩
set_option maxRecDepth 100000 in
set_option maxHeartbeats 3200000 in
theorem Heats_any (s : Se) (Ao Ab : Option Addr) (co cb : Nat) (rA : Nat → Option Addr) (rc : Nat → Nat) (w : World) (hs : SeIn w w.heap.size s Ao Ab rA rc) (hsm : Sm s) :
    Calls Try.prog 23 #[.agg #[.slice Ao s.offs.length co, .int .i64 s.err, .slice Ab s.baths.length cb]] w fun e w' => (∃ A c l ev, e = .returned (.tuple #[.slice A (l : List Rg).length c, .int .i64 ev]) ∧ Hid (RngV s s.baths.length (HeatZ s) l ev) ∧ SlAt w' w'.heap.size 2 A l.length (fR l)) ∧ Below w.heap.size w w' := by
  obtain ⟨i0, hi0, hz0, hz1, hz2⟩ := info_parts range_info
  have HI := Lib.hid hi0
  have hsl := hsm.baths
  clear hi0
  have hb1 := ex_alloc (Below.refl w.heap.size w) (.cells #[.slice Ao s.offs.length co, .int .i64 s.err, .slice Ab s.baths.length cb] 34)
  have q1 : Blk (w.alloc (.cells #[.slice Ao s.offs.length co, .int .i64 s.err, .slice Ab s.baths.length cb] 34)) w.heap.size 34 #[.slice Ao s.offs.length co, .int .i64 s.err, .slice Ab s.baths.length cb] := Blk.new _ _ _
  go_enter Try.func23, Try.ntmps23
  go_wp2_with fail
  refine (tried_any s Ao Ab co cb rA rc _ (hs.go hb1) hsm true).mono ?_
  rintro e W1 ⟨hb2, h2⟩
  have B2 := ex_trans hb1 hb2
  rcases h2 with ⟨hck, rfl⟩ | ⟨_, h3, _⟩ | ⟨hck, _, h2⟩
  · have HCK := Lib.hid hck
    have e1 : (ckSe s != 0) = true := by simp [hck]
    have e2 : (ckSe s == 0) = false := by simp [hck]
    clear hck
    go_wp2
    go_ret2
    exact ⟨⟨none, 0, [], _, rfl, Lib.hid (.inl ⟨HCK.out, rfl, rfl⟩), fun h => absurd h (by simp)⟩, B2⟩
  · cases h3
  have HCK := Lib.hid hck
  have HOK := Lib.hid (seOk_iff.1 hck)
  clear hck
  rcases h2 with ⟨b, f, rfl, hF, hI⟩ | ⟨rfl, hN⟩
  rotate_left
  · have HN := Lib.hid hN
    clear hN
    go_wp2
    go_ret2
    exact ⟨⟨none, 0, [], _, rfl, Lib.hid (.inr (.inl ⟨HCK.out, HN.out, rfl, rfl⟩)), fun h => absurd h (by simp)⟩, B2⟩
  have HF := Lib.hid hI
  clear hI
  have p1 := q1.below hb2 q1.lt
  have a0 : W1.cell? ⟨w.heap.size, 2, none⟩ = some (.slice Ab s.baths.length cb) := p1.cell 2
  have l1 := p1.lt
  have h6 := HOK.out.no
  have h7 := HOK.out.nb
  go_wp2_with fail
  refine wp_loop (fun a W => Rel (fun a W => ∃ k : Nat, k ≤ s.baths.length ∧ Below w.heap.size w W ∧ W1.heap.size ≤ W.heap.size ∧ FarAt W b f ∧ ∃ v, W.ownsRow W1.heap.size 41 2 v (mkR (fun k => ⟨(-(f (7 + k) 0)), (f 0 (7 + k))⟩) k).length ((mkR (fun k => ⟨(-(f (7 + k) 0)), (f 0 (7 + k))⟩) k).flatMap cR) ∧ ∃ u : Nat → Value, a = ⟨List.toArray (u 0 :: .pointer (some ⟨w.heap.size, 0, none⟩) :: u 2 :: u 3 :: .pointer (some ⟨b, 0, none⟩) :: u 5 :: v :: u 7 :: u 8 :: u 9 :: u 10 :: u 11 :: u 12 :: u 13 :: u 14 :: u 15 :: u 16 :: .slice Ab s.baths.length cb :: .int .i64 (s.baths.length : Int) :: .int .i64 (k : Int) :: u 20 :: u 21 :: u 22 :: u 23 :: u 24 :: u 25 :: u 26 :: u 27 :: u 28 :: u 29 :: u 30 :: []), []⟩) a W)
    (fun a _ => s.baths.length - (intOf (a.tmps.getD 19 undef)).toNat) ⟨⟨0, by omega, B2, Nat.le_refl _, hF, .slice none 0 0, ⟨rfl, .inl ⟨rfl, rfl⟩⟩, exFrame (by kernel_rfl)⟩⟩ ?_
  have hbF := hF.lt
  clear hF p1 a0 l1
  rintro a W ⟨⟨k, hk, hbl, hsz, hF, v, hown, u, rfl⟩⟩
  by_cases hlt : k < s.baths.length
  · have bd1 := HF.out.bd 0 (7 + k) (by omega) (by omega)
    have bd2 := HF.out.bd (7 + k) 0 (by omega) (by omega)
    go_wp2_with fail
    refine (pool_any (k : Int) _ (by omega)).mono ?_
    rintro e w' ⟨rfl, rfl⟩
    go_wp2_with fail
    rw [show (7 : Int) + (k : Int) = ((7 + k : Nat) : Int) by omega]
    refine (between_any b 0 (7 + k) f _ hF (by omega) (by omega) (by omega)).mono ?_
    rintro e W2 ⟨rfl, hb3⟩
    have B3 := ex_trans hbl hb3
    have hF2 := hF.below hb3
    have hown2 := own_below hown hb3
    have hs2 := hb3.size
    have c63 : (mkR (fun k => ⟨(-(f (7 + k) 0)), (f 0 (7 + k))⟩) k).length + 1 ≤ maxLen := by rw [mkR_len]; unfold maxLen; omega
    have cby : ((mkR (fun k => ⟨(-(f (7 + k) 0)), (f 0 (7 + k))⟩) k).length + 1) * 16 ≤ 140737488355328 := by rw [mkR_len]; omega
    obtain ⟨lo, hlo⟩ : ∃ lo, (-(f (7 + k) 0)) = lo := ⟨_, rfl⟩
    obtain ⟨hi, hhi⟩ : ∃ hi, (f 0 (7 + k)) = hi := ⟨_, rfl⟩
    have HLO := Lib.hid hlo
    have HHI := Lib.hid hhi
    rw [hlo, hhi]
    clear hlo hhi bd1 bd2
    have y4 := hown2.alloc (.cells #[.int .i64 lo, .int .i64 hi] 41)
    have hF3 := hF2.below (ex_alloc (Below.refl W2.heap.size W2) (.cells #[.int .i64 lo, .int .i64 hi] 41))
    have B4 := ex_alloc B3 (.cells #[.int .i64 lo, .int .i64 hi] 41)
    have hbase : W1.heap.size ≤ (W2.alloc (.cells #[.int .i64 lo, .int .i64 hi] 41)).heap.size := by simp; omega
    have hB1 := B2.size
    go_wp2_with (at_builtin; refine wpList_append_lies _ rfl _ _ _ rfl W1.heap.size 41 i0 _ 2 16 Try.underlying28 HI.out hz0 hz1 hz2 rfl (by omega) v _ _ rfl y4 ⟨W2.heap.size, 0, none⟩ 1 1 [.int .i64 lo, .int .i64 hi] rfl rfl (World.news_of_block (heap_alloc_new W2 _)) (by simp [Value.oneCell']) (by omega) c63 cby hbase (W2.heap.size + 1) (by simp) ?_; intro gg cap w1 hown' hgrow hat hlt')
    have hge := fun (j : Nat) (hj : v.ownBlock = some j) => own_ge hown hj
    have hF4 : FarAt w1 b f := by
      obtain ⟨cs, c1, c2⟩ := hF3
      exact ⟨cs, c1.grown hgrow (fun e => by have := hge _ e.symm; omega), c2⟩
    have B5 := B4.grown hgrow (by simp; omega) (fun j hj => by have := hge j hj; omega)
    have hown5 : w1.ownsRow W1.heap.size 41 2 (.slice (some ⟨gg, 0, none⟩) ((mkR (fun k => ⟨(-(f (7 + k) 0)), (f 0 (7 + k))⟩) k).length + 1) cap) (mkR (fun k => ⟨(-(f (7 + k) 0)), (f 0 (7 + k))⟩) (k + 1)).length ((mkR (fun k => ⟨(-(f (7 + k) 0)), (f 0 (7 + k))⟩) (k + 1)).flatMap cR) := by
      rw [mkR_succ, List.flatMap_append, List.length_append, HLO.out, HHI.out]
      simpa [cR] using hown'
    refine ⟨⟨k + 1, by omega, B5, by have := hgrow.size; simp at this; omega, hF4, _, hown5, exFrame (by kernel_rfl)⟩, ?_⟩
    show s.baths.length - (intOf (.int .i64 ((k : Int) + 1))).toNat < s.baths.length - (intOf (.int .i64 (k : Int))).toNat
    simp [intOf]
    omega
  · have hkE : k = s.baths.length := by omega
    subst hkE
    obtain ⟨A', c', rfl, _, _, hsl'⟩ := own_R hown
    have HV : Hid (RngV s s.baths.length (HeatZ s) (mkR (fun k => ⟨(-(f (7 + k) 0)), (f 0 (7 + k))⟩) s.baths.length) 0) := Lib.hid (.inr (.inr ⟨HCK.out, HF.out.some, rfl, mkR_len, fun k hk => by rw [mkR_at hk]; exact HF.out.heats k hk⟩))
    go_wp2
    go_ret2
    exact ⟨⟨A', c', _, 0, rfl, HV, hsl'⟩, hbl⟩
/-- what Difference tells. -/
def DiffV (s : Se) (a b lo hi ev : Int) : Prop :=
  (ckSe s ≠ 0 ∧ ev = ckSe s ∧ lo = 0 ∧ hi = 0) ∨ (ckSe s = 0 ∧ (inB a 0 ((s.offs.length : Int) - 1) && inB b 0 ((s.offs.length : Int) - 1)) = false ∧ ev = 2 ∧ lo = 0 ∧ hi = 0) ∨
  (ckSe s = 0 ∧ inB a 0 ((s.offs.length : Int) - 1) = true ∧ inB b 0 ((s.offs.length : Int) - 1) = true ∧ ¬ Can s ∧ ev = 9 ∧ lo = 0 ∧ hi = 0) ∨
  (ckSe s = 0 ∧ inB a 0 ((s.offs.length : Int) - 1) = true ∧ inB b 0 ((s.offs.length : Int) - 1) = true ∧ Can s ∧ ev = 0 ∧ EndsOf (DiffZ s a.toNat b.toNat) lo hi)
set_option maxRecDepth 100000 in
set_option maxHeartbeats 3200000 in
theorem Diff_any (s : Se) (Ao Ab : Option Addr) (co cb : Nat) (rA : Nat → Option Addr) (rc : Nat → Nat) (w : World) (hs : SeIn w w.heap.size s Ao Ab rA rc) (hsm : Sm s) (a b : Int) :
    Calls Try.prog 27 #[.agg #[.slice Ao s.offs.length co, .int .i64 s.err, .slice Ab s.baths.length cb], .int .i64 a, .int .i64 b] w fun e w' => (∃ lo hi ev, e = .returned (.tuple #[.agg #[.int .i64 lo, .int .i64 hi], .int .i64 ev]) ∧ Hid (DiffV s a b lo hi ev)) ∧ Below w.heap.size w w' := by
  have hsl := hsm.offs
  have hb1 := ex_alloc (ex_alloc (Below.refl w.heap.size w) (.cells #[.slice Ao s.offs.length co, .int .i64 s.err, .slice Ab s.baths.length cb] 34)) (.cells #[.int .i64 0, .int .i64 0] 41)
  have q1 : Blk ((w.alloc (.cells #[.slice Ao s.offs.length co, .int .i64 s.err, .slice Ab s.baths.length cb] 34)).alloc (.cells #[.int .i64 0, .int .i64 0] 41)) w.heap.size 34 #[.slice Ao s.offs.length co, .int .i64 s.err, .slice Ab s.baths.length cb] := (Blk.new _ _ _).alloc _
  have q2 : Blk ((w.alloc (.cells #[.slice Ao s.offs.length co, .int .i64 s.err, .slice Ab s.baths.length cb] 34)).alloc (.cells #[.int .i64 0, .int .i64 0] 41)) (w.heap.size + 1) 41 #[.int .i64 0, .int .i64 0] := Blk.new' _ _ _ (by simp)
  obtain ⟨r1, hr1⟩ : ∃ r1, inB a 0 ((s.offs.length : Int) - 1) = r1 := ⟨_, rfl⟩
  obtain ⟨r2, hr2⟩ : ∃ r2, inB b 0 ((s.offs.length : Int) - 1) = r2 := ⟨_, rfl⟩
  have HR1 := Lib.hid hr1
  have HR2 := Lib.hid hr2
  clear hr1 hr2
  go_enter Try.func27, Try.ntmps27
  go_wp2_with fail
  generalize (w.alloc (.cells #[.slice Ao s.offs.length co, .int .i64 s.err, .slice Ab s.baths.length cb] 34)).alloc (.cells #[.int .i64 0, .int .i64 0] 41) = V at *
  have a0 : V.cell? ⟨w.heap.size, 0, none⟩ = some (.slice Ao s.offs.length co) := q1.cell 0
  have a1 : V.cell? ⟨w.heap.size, 1, none⟩ = some (.int .i64 s.err) := q1.cell 1
  have a2 : V.cell? ⟨w.heap.size, 2, none⟩ = some (.slice Ab s.baths.length cb) := q1.cell 2
  have l1 := q1.lt
  refine wp_region_ext_mix 14 [(false, 0), (false, 1), (false, 2), (true, 3), (false, 4), (false, 5), (false, 6), (true, 7), (false, 8), (true, 9), (false, 10), (false, 11), (false, 12), (false, 13)] (by kernel_rfl) (by kernel_rfl) (by intro d _ _ _ _ h; cases d <;> exact h) ?_
  have hX0 := (Below.refl V.heap.size V).drew
  repeat (refine mix_quiet rfl ?_; go_big_quiet_step (fail); refine wpQuiet_nil ?_)
  refine mix_loud rfl ?_
  go_wp2_with fail
  refine (instrument_any s.offs.length 0 s.baths.length co cb Ao Ab s.err a _ hsl).mono ?_
  rintro e w2 ⟨rfl, hb2⟩
  have X2 := ex_trans hX0 hb2
  rw [HR1.out]
  go_wp2_with fail
  refine ⟨inEx X2, ?_⟩
  cases r1
  · have HS2 := hs.go (ex_trans hb1 X2)
    repeat (refine mix_quiet rfl ?_; go_big_quiet_step (fail); refine wpQuiet_nil ?_)
    refine mix_loud rfl ?_
    go_wp2_with fail
    refine ⟨inEx X2, ?_⟩
    repeat (refine mix_quiet rfl ?_; go_big_quiet_step (fail); refine wpQuiet_nil ?_)
    refine mix_loud rfl ?_
    go_wp2_with fail
    refine (tried_any s Ao Ab co cb rA rc w2 HS2 hsm false).mono ?_
    rintro e w3 ⟨hb3, h3⟩
    have X3 := ex_trans X2 hb3
    rcases h3 with ⟨hck, rfl⟩ | ⟨hck, hr, rfl⟩ | ⟨hck, hr, h4⟩
    · have HCK := Lib.hid hck
      have e1 : (ckSe s != 0) = true := by simp [hck]
      have e2 : (ckSe s == 0) = false := by simp [hck]
      clear hck
      go_wp2_with fail
      refine ⟨inEx X3, ?_⟩
      repeat (refine mix_quiet rfl ?_; go_big_quiet_step (fail); refine wpQuiet_nil ?_)
      refine mix_nil rfl ?_
      have Q := q2.below X3 q2.lt
      have f0 := Q.frozen 0
      have f1 := Q.frozen 1
      have z0 : w3.cell? ⟨w.heap.size + 1, 0, none⟩ = some (.int .i64 0) := Q.cell 0
      have z1 : w3.cell? ⟨w.heap.size + 1, 1, none⟩ = some (.int .i64 0) := Q.cell 1
      have lz := Q.lt
      go_wp2
      have r5 := (Q.set_ 0 (.int .i64 0)).set_ 1 (.int .i64 0)
      simp only [List.setIfInBounds_toArray, List.set_cons_zero, List.set_cons_succ] at r5
      have c0 := r5.cell 0
      have c1 := r5.cell 1
      have lr := r5.lt
      simp at c0 c1 lr
      refine bodyPost_ret (v := .tuple #[.agg #[.int .i64 0, .int .i64 0], .int .i64 (ckSe s)]) (by simp [results, Try.results27, go_sem, c0, c1, lr]) rfl ?_
      exact ⟨⟨0, 0, _, rfl, Lib.hid (.inl ⟨HCK.out, rfl, rfl, rfl⟩)⟩, ex_set (ex_set (ex_trans hb1 X3) (Nat.le_succ _) _) (Nat.le_succ _) _⟩
    · have HCK := Lib.hid hck
      have HR := Lib.hid hr
      clear hck hr
      go_wp2_with fail
      refine ⟨inEx X3, ?_⟩
      repeat (refine mix_quiet rfl ?_; go_big_quiet_step (fail); refine wpQuiet_nil ?_)
      refine mix_nil rfl ?_
      have Q := q2.below X3 q2.lt
      have f0 := Q.frozen 0
      have f1 := Q.frozen 1
      have z0 : w3.cell? ⟨w.heap.size + 1, 0, none⟩ = some (.int .i64 0) := Q.cell 0
      have z1 : w3.cell? ⟨w.heap.size + 1, 1, none⟩ = some (.int .i64 0) := Q.cell 1
      have lz := Q.lt
      go_wp2
      have r5 := (Q.set_ 0 (.int .i64 0)).set_ 1 (.int .i64 0)
      simp only [List.setIfInBounds_toArray, List.set_cons_zero, List.set_cons_succ] at r5
      have c0 := r5.cell 0
      have c1 := r5.cell 1
      have lr := r5.lt
      simp at c0 c1 lr
      refine bodyPost_ret (v := .tuple #[.agg #[.int .i64 0, .int .i64 0], .int .i64 2]) (by simp [results, Try.results27, go_sem, c0, c1, lr]) rfl ?_
      exact ⟨⟨0, 0, _, rfl, Lib.hid (.inr (.inl ⟨HCK.out, (by rw [HR1.out]; rfl), rfl, rfl, rfl⟩))⟩, ex_set (ex_set (ex_trans hb1 X3) (Nat.le_succ _) _) (Nat.le_succ _) _⟩
    · cases hr
  · repeat (refine mix_quiet rfl ?_; go_big_quiet_step (fail); refine wpQuiet_nil ?_)
    refine mix_loud rfl ?_
    go_wp2_with fail
    refine (instrument_any s.offs.length 0 s.baths.length co cb Ao Ab s.err b w2 hsl).mono ?_
    rintro e w4 ⟨rfl, hb4⟩
    have X4 := ex_trans X2 hb4
    rw [HR2.out]
    go_wp2_with fail
    refine ⟨inEx X4, ?_⟩
    repeat (refine mix_quiet rfl ?_; go_big_quiet_step (fail); refine wpQuiet_nil ?_)
    have HS2 := hs.go (ex_trans hb1 X4)
    refine mix_loud rfl ?_
    go_wp2_with fail
    refine (tried_any s Ao Ab co cb rA rc w4 HS2 hsm r2).mono ?_
    rintro e w3 ⟨hb3, h3⟩
    have X3 := ex_trans X4 hb3
    rcases h3 with ⟨hck, rfl⟩ | ⟨hck, hr, rfl⟩ | ⟨hck, hr, h4⟩
    · have HCK := Lib.hid hck
      have e1 : (ckSe s != 0) = true := by simp [hck]
      have e2 : (ckSe s == 0) = false := by simp [hck]
      clear hck
      go_wp2_with fail
      refine ⟨inEx X3, ?_⟩
      repeat (refine mix_quiet rfl ?_; go_big_quiet_step (fail); refine wpQuiet_nil ?_)
      refine mix_nil rfl ?_
      have Q := q2.below X3 q2.lt
      have f0 := Q.frozen 0
      have f1 := Q.frozen 1
      have z0 : w3.cell? ⟨w.heap.size + 1, 0, none⟩ = some (.int .i64 0) := Q.cell 0
      have z1 : w3.cell? ⟨w.heap.size + 1, 1, none⟩ = some (.int .i64 0) := Q.cell 1
      have lz := Q.lt
      go_wp2
      have r5 := (Q.set_ 0 (.int .i64 0)).set_ 1 (.int .i64 0)
      simp only [List.setIfInBounds_toArray, List.set_cons_zero, List.set_cons_succ] at r5
      have c0 := r5.cell 0
      have c1 := r5.cell 1
      have lr := r5.lt
      simp at c0 c1 lr
      refine bodyPost_ret (v := .tuple #[.agg #[.int .i64 0, .int .i64 0], .int .i64 (ckSe s)]) (by simp [results, Try.results27, go_sem, c0, c1, lr]) rfl ?_
      exact ⟨⟨0, 0, _, rfl, Lib.hid (.inl ⟨HCK.out, rfl, rfl, rfl⟩)⟩, ex_set (ex_set (ex_trans hb1 X3) (Nat.le_succ _) _) (Nat.le_succ _) _⟩
    · have HCK := Lib.hid hck
      have HR := Lib.hid hr
      clear hck hr
      go_wp2_with fail
      refine ⟨inEx X3, ?_⟩
      repeat (refine mix_quiet rfl ?_; go_big_quiet_step (fail); refine wpQuiet_nil ?_)
      refine mix_nil rfl ?_
      have Q := q2.below X3 q2.lt
      have f0 := Q.frozen 0
      have f1 := Q.frozen 1
      have z0 : w3.cell? ⟨w.heap.size + 1, 0, none⟩ = some (.int .i64 0) := Q.cell 0
      have z1 : w3.cell? ⟨w.heap.size + 1, 1, none⟩ = some (.int .i64 0) := Q.cell 1
      have lz := Q.lt
      go_wp2
      have r5 := (Q.set_ 0 (.int .i64 0)).set_ 1 (.int .i64 0)
      simp only [List.setIfInBounds_toArray, List.set_cons_zero, List.set_cons_succ] at r5
      have c0 := r5.cell 0
      have c1 := r5.cell 1
      have lr := r5.lt
      simp at c0 c1 lr
      refine bodyPost_ret (v := .tuple #[.agg #[.int .i64 0, .int .i64 0], .int .i64 2]) (by simp [results, Try.results27, go_sem, c0, c1, lr]) rfl ?_
      exact ⟨⟨0, 0, _, rfl, Lib.hid (.inr (.inl ⟨HCK.out, (by rw [HR1.out, HR2.out]; exact HR.out), rfl, rfl, rfl⟩))⟩, ex_set (ex_set (ex_trans hb1 X3) (Nat.le_succ _) _) (Nat.le_succ _) _⟩
    · have HCK := Lib.hid hck
      have HOK := Lib.hid (seOk_iff.1 hck)
      subst hr
      clear hck
      rcases h4 with ⟨b', f, rfl, hF, hI⟩ | ⟨rfl, hN⟩
      rotate_left
      · have HN := Lib.hid hN
        clear hN
        go_wp2_with fail
        refine ⟨inEx X3, ?_⟩
        repeat (refine mix_quiet rfl ?_; go_big_quiet_step (fail); refine wpQuiet_nil ?_)
        refine mix_nil rfl ?_
        have Q := q2.below X3 q2.lt
        have f0 := Q.frozen 0
        have f1 := Q.frozen 1
        have z0 : w3.cell? ⟨w.heap.size + 1, 0, none⟩ = some (.int .i64 0) := Q.cell 0
        have z1 : w3.cell? ⟨w.heap.size + 1, 1, none⟩ = some (.int .i64 0) := Q.cell 1
        have lz := Q.lt
        go_wp2
        have r5 := (Q.set_ 0 (.int .i64 0)).set_ 1 (.int .i64 0)
        simp only [List.setIfInBounds_toArray, List.set_cons_zero, List.set_cons_succ] at r5
        have c0 := r5.cell 0
        have c1 := r5.cell 1
        have lr := r5.lt
        simp at c0 c1 lr
        refine bodyPost_ret (v := .tuple #[.agg #[.int .i64 0, .int .i64 0], .int .i64 9]) (by simp [results, Try.results27, go_sem, c0, c1, lr]) rfl ?_
        exact ⟨⟨0, 0, _, rfl, Lib.hid (.inr (.inr (.inl ⟨HCK.out, HR1.out, HR2.out, HN.out, rfl, rfl, rfl⟩)))⟩, ex_set (ex_set (ex_trans hb1 X3) (Nat.le_succ _) _) (Nat.le_succ _) _⟩
      have HF := Lib.hid hI
      clear hI
      have h6 := HOK.out.no
      obtain ⟨a0', a1'⟩ := inB_iff.1 HR1.out
      obtain ⟨b0', b1'⟩ := inB_iff.1 HR2.out
      obtain ⟨i, rfl⟩ : ∃ i : Nat, a = (i : Int) := ⟨a.toNat, by omega⟩
      obtain ⟨j, rfl⟩ : ∃ j : Nat, b = (j : Int) := ⟨b.toNat, by omega⟩
      have hi6 : i < s.offs.length := by omega
      have hj6 : j < s.offs.length := by omega
      clear a0' a1' b0' b1'
      go_wp2_with fail
      refine ⟨inEx X3, ?_⟩
      repeat (refine mix_quiet rfl ?_; go_big_quiet_step (fail); refine wpQuiet_nil ?_)
      refine mix_nil rfl ?_
      have Q := q2.below X3 q2.lt
      have bd := HF.out.bd (1 + j) (1 + i) (by omega) (by omega)
      go_wp2_with fail
      refine (tool_any (i : Int) _ (by omega)).mono ?_
      rintro e w' ⟨rfl, rfl⟩
      go_wp2_with fail
      refine (tool_any (j : Int) _ (by omega)).mono ?_
      rintro e w' ⟨rfl, rfl⟩
      go_wp2_with fail
      rw [show (1 : Int) + (i : Int) = ((1 + i : Nat) : Int) by omega, show (1 : Int) + (j : Int) = ((1 + j : Nat) : Int) by omega]
      refine (between_any b' (1 + i) (1 + j) f w3 hF (by omega) (by omega) (by omega)).mono ?_
      rintro e w5 ⟨rfl, hb5⟩
      have X5 := ex_trans X3 hb5
      have HV : Hid (DiffV s (i : Int) (j : Int) (-(f (1 + j) (1 + i))) (f (1 + i) (1 + j)) 0) := Lib.hid (.inr (.inr (.inr ⟨HCK.out, HR1.out, HR2.out, HF.out.some, rfl, by rw [Int.toNat_natCast, Int.toNat_natCast]; exact HF.out.diff i j hi6 hj6⟩)))
      generalize -(f (1 + j) (1 + i)) = lo at *
      generalize f (1 + i) (1 + j) = hi at *
      replace Q := Q.below hb5 Q.lt
      have f0 := Q.frozen 0
      have f1 := Q.frozen 1
      have z0 : w5.cell? ⟨w.heap.size + 1, 0, none⟩ = some (.int .i64 0) := Q.cell 0
      have z1 : w5.cell? ⟨w.heap.size + 1, 1, none⟩ = some (.int .i64 0) := Q.cell 1
      have lz := Q.lt
      go_wp2
      have r5 := (Q.set_ 0 (.int .i64 lo)).set_ 1 (.int .i64 hi)
      simp only [List.setIfInBounds_toArray, List.set_cons_zero, List.set_cons_succ] at r5
      have c0 := r5.cell 0
      have c1 := r5.cell 1
      have lr := r5.lt
      simp at c0 c1 lr
      refine bodyPost_ret (v := .tuple #[.agg #[.int .i64 lo, .int .i64 hi], .int .i64 0]) (by simp [results, Try.results27, go_sem, c0, c1, lr]) rfl ?_
      exact ⟨⟨lo, hi, _, rfl, HV⟩, ex_set (ex_set (ex_trans hb1 X5) (Nat.le_succ _) _) (Nat.le_succ _) _⟩
end Go.Proofs.Ytnplefhigbkbbaa
end

section
namespace Go.Proofs.Ytnplefhigbkbbaa
open Go.RowKit
attribute [local go_sem] Ex.cell? Ex.frozen?

theorem keyL_ok : KeyOk 133 keyL where
  eq := fun s u w => by
    unfold keyL
    simp [Op.equal, Op.maxDepth, go_sem]
    by_cases h : s = u
    · simp [h]
    · have h2 : ¬ (s : Int) = (u : Int) := by omega
      simp [h, h2]
  check := fun em s w => by kernel_rfl
  und := ⟨_, Try.underlying133, fun s e es i => by simp [Instr.findNow, Instr.sameNow, keyL]⟩

/-- without these readings a series contradicts itself. -/
def Clash (s : Se) (b : Nat) : Prop := ¬ ∃ o h, Tru s (fun i => b.testBit i) o h
/-- what is known is right. -/
def MapOk (s : Se) (L : List (Nat × Bool)) : Prop := ∀ p, p ∈ L → (p.2 = true ↔ Clash s p.1)
theorem MapOk.nil {s : Se} : MapOk s [] := fun p hp => by cases hp
theorem MapOk.snoc {s : Se} {L : List (Nat × Bool)} {b : Nat} {x : Bool} (h : MapOk s L) (hx : x = true ↔ Clash s b) : MapOk s (L ++ [(b, x)]) := fun p hp => by
  rcases List.mem_append.1 hp with h1 | h1
  · exact h p h1
  · rw [List.mem_singleton.1 h1]; exact hx
/-- but for a map's block all cells lie as they lay. -/
theorem keeps_of_fr {W W' : World} {m : Nat} {L : List (Nat × Bool)} (hf : Fr (fun b => b = m) W W') (hm : IsMp keyL vBool W m L) : KeepsCells W W' :=
  ⟨hf.size, fun k o hk ho => (hf.block k (Array.getElem?_eq_some_iff.1 hk).1 (fun e => by subst e; rw [hm] at hk; cases hk; cases ho)).trans hk⟩
theorem SeIn.cells {W W' : World} {s : Se} {Ao Ab : Option Addr} {rA : Nat → Option Addr} {rc : Nat → Nat} {B : Nat} (h : SeIn W B s Ao Ab rA rc) (hk : KeepsCells W W') : SeIn W' B s Ao Ab rA rc :=
  ⟨h.offs.cells hk, h.baths.cells hk, fun b hb => (h.reads b hb).cells hk⟩
theorem SeIn.keeps {W W' : World} {s : Se} {Ao Ab : Option Addr} {rA : Nat → Option Addr} {rc : Nat → Nat} (h : SeIn W W.heap.size s Ao Ab rA rc) (hk : KeepsCells W W') : SeIn W' W'.heap.size s Ao Ab rA rc := (h.cells hk).up hk.size
section
variable {W W' : World} {q m co cb c : Nat} {s : Se} {Ao Ab A : Option Addr} {L : List (Nat × Bool)}
theorem WorkAt.below (h : WorkAt W q m s Ao Ab co cb A c L) (hb : Below W.heap.size W W') : WorkAt W' q m s Ao Ab co cb A c L :=
  ⟨h.wk.below hb h.wk.lt, (h.pl.below hb).up hb.size, h.mp.below hb⟩
theorem WorkAt.turn {L' : List (Nat × Bool)} (h : WorkAt W q m s Ao Ab co cb A c L) (hk : KeepsCells W W') (hm : IsMp keyL vBool W' m L') : WorkAt W' q m s Ao Ab co cb A c L' :=
  ⟨hk.blk h.wk, (h.pl.cells hk).up hk.size, hm⟩
end
theorem fr_put (R : Nat → Prop) (W : World) (b : Nat) (o : Obj) (h : R b) : Fr R W (W.putObj b o) :=
  ⟨rfl, rfl, rfl, by simp, fun k _ hn => World.putObj_heap_other (fun e => hn (e ▸ h))⟩

def ClashPost (s : Se) (bits q m : Nat) (Ao Ab : Option Addr) (co cb : Nat) (A : Option Addr) (c : Nat) (w : World) (e : Ending) (w' : World) : Prop :=
  ∃ (x : Bool) (L' : List (Nat × Bool)), e = .returned (.bool x) ∧ (x = true ↔ Clash s bits) ∧ WorkAt w' q m s Ao Ab co cb A c L' ∧ MapOk s L' ∧ Fr (fun b => b = m) w w'

set_option maxRecDepth 100000 in
set_option maxHeartbeats 3200000 in
theorem clashes_any (s : Se) (Ao Ab A : Option Addr) (co cb c q m : Nat) (rA : Nat → Option Addr) (rc : Nat → Nat) (L : List (Nat × Bool)) (bits : Nat) (w : World) (hs : SeIn w w.heap.size s Ao Ab rA rc) (hw : WorkAt w q m s Ao Ab co cb A c L) (hL : MapOk s L) (hok : SeOk s) (hbt : bits < 68719476736) :
    Calls Try.prog 77 #[.pointer (some ⟨q, 0, none⟩), .agg #[.int .u64 (bits : Int)]] w (ClashPost s bits q m Ao Ab co cb A c w) := by
  have hb1 := ex_alloc (Below.refl w.heap.size w) (.cells #[.int .u64 (bits : Int)] 133)
  have q1 : Blk (w.alloc (.cells #[.int .u64 (bits : Int)] 133)) w.heap.size 133 #[.int .u64 (bits : Int)] := Blk.new _ _ _
  have hw1 := hw.below hb1
  go_enter Try.func77, Try.ntmps77
  go_wp2_with fail
  generalize w.alloc (.cells #[.int .u64 (bits : Int)] 133) = V at *
  have a0 : V.cell? ⟨q, 4, none⟩ = some (.map (some m)) := hw1.wk.cell 4
  have la := hw1.wk.lt
  have b0 : V.cell? ⟨w.heap.size, 0, none⟩ = some (.int .u64 (bits : Int)) := q1.cell 0
  have lb := q1.lt
  cases hg : mpGet bits L with
  | some x =>
    have hlk : ∀ X : Ex V, (Instr.lookup 134 (.map (some m)) (.agg #[.int .u64 (bits : Int)]) true).run Try.prog X.W = .ok (.tuple #[.bool x, .bool true]) X.W := fun X => by
      have := mp_lookup2 Try.underlying134 (et := 4) (i0 := (Try.prog.info? 4).get (by kernel_rfl)) (by kernel_rfl) (z := .bool false) (by kernel_rfl) keyL_ok (hw1.mp.below X.h) bits
      rw [hg] at this
      exact this
    have HX := Lib.hid (hL _ (mpGet_mem hg))
    clear hg
    refine wp_region_ext_mix 10 [(false, 0), (false, 1), (false, 2), (false, 3), (false, 4), (false, 5), (false, 6), (false, 7), (false, 8), (false, 9)] (by kernel_rfl) (by kernel_rfl) (by intro d _ _ _ _ h; cases d <;> exact h) ?_
    have hX0 := (Below.refl V.heap.size V).drew
    repeat (refine mix_quiet rfl ?_; go_big_quiet_step (fail); refine wpQuiet_nil ?_)
    refine mix_nil rfl ?_
    go_wp2
    go_ret
    have hb2 := ex_trans hb1 hX0
    exact ⟨x, L, rfl, HX.out, hw1.below hX0, hL, Fr.below hb2⟩
  | none =>
    have hlk : ∀ X : Ex V, (Instr.lookup 134 (.map (some m)) (.agg #[.int .u64 (bits : Int)]) true).run Try.prog X.W = .ok (.tuple #[.bool false, .bool false]) X.W := fun X => by
      have := mp_lookup2 Try.underlying134 (et := 4) (i0 := (Try.prog.info? 4).get (by kernel_rfl)) (by kernel_rfl) (z := .bool false) (by kernel_rfl) keyL_ok (hw1.mp.below X.h) bits
      rw [hg] at this
      exact this
    have HG := Lib.hid hg
    clear hg
    refine wp_region_ext_mix 10 [(false, 0), (false, 1), (false, 2), (false, 3), (false, 4), (false, 5), (false, 6), (false, 7), (false, 8), (false, 9)] (by kernel_rfl) (by kernel_rfl) (by intro d _ _ _ _ h; cases d <;> exact h) ?_
    have hX0 := (Below.refl V.heap.size V).drew
    repeat (refine mix_quiet rfl ?_; go_big_quiet_step (fail); refine wpQuiet_nil ?_)
    refine mix_nil rfl ?_
    have hb2 := ex_trans hb1 hX0
    go_wp2_with fail
    refine (far_any s Ao Ab A co cb c q m rA rc L bits _ (hs.go hb2) (hw1.below hX0) hok hbt).mono ?_
    intro e w2 h3
    obtain ⟨hb3, h3⟩ := h3
    have hX3 := ex_trans hX0 hb3
    have hw3 := hw1.below hX3
    have q3 := q1.below hX3 lb
    obtain ⟨x, hx, hxe⟩ : ∃ x : Bool, (x = true ↔ Clash s bits) ∧ ∃ p, e = .returned (.tuple #[.pointer p, .bool (!x)]) := by
      rcases h3 with ⟨b, f, rfl, _, hI⟩ | ⟨rfl, hN⟩
      · exact ⟨false, ⟨fun h => (by cases h), fun h => absurd hI.some h⟩, _, rfl⟩
      · exact ⟨true, ⟨fun _ => hN, fun _ => rfl⟩, _, rfl⟩
    obtain ⟨p, rfl⟩ := hxe
    have HX := Lib.hid hx
    clear h3 hx a0 b0 la lb hlk
    have a0 : w2.cell? ⟨q, 4, none⟩ = some (.map (some m)) := hw3.wk.cell 4
    have la := hw3.wk.lt
    have b0 : w2.cell? ⟨w.heap.size, 0, none⟩ = some (.int .u64 (bits : Int)) := q3.cell 0
    have lb := q3.lt
    go_wp2_with fail
    refine wp_region_ext_mix 6 [(false, 0), (false, 1), (false, 2), (false, 3), (false, 4), (false, 5)] (by kernel_rfl) (by kernel_rfl) (by intro d _ _ _ _ h; cases d <;> exact h) ?_
    have hX4 := (Below.refl w2.heap.size w2).drew
    repeat (refine mix_quiet rfl ?_; go_big_quiet_step (fail); refine wpQuiet_nil ?_)
    refine mix_nil rfl ?_
    have hw4 := hw3.below hX4
    obtain ⟨MO, hMO⟩ : ∃ MO, MO = Obj.map (mkE keyL vBool (L ++ [(bits, x)])) (L ++ [(bits, x)]).length := ⟨_, rfl⟩
    have hup : (Instr.mapUpdate 134 (.map (some m)) (.agg #[.int .u64 (bits : Int)]) (.bool x)).run Try.prog w2.drew = .ok () (w2.drew.putObj m MO) := by
      rw [hMO]
      exact mp_update Try.underlying134 (et := 4) keyL_ok hw4.mp bits x HG.out
    have HMO := Lib.hid hMO
    clear hMO
    go_wp2
    go_ret
    have hf : Fr (fun b => b = m) w2.drew (w2.drew.putObj m MO) := fr_put _ _ _ _ rfl
    have hm4 := hw4.mp
    have hk := keeps_of_fr hf hm4
    refine ⟨x, L ++ [(bits, x)], by simp, HX.out, hw4.turn hk ?_, hL.snoc HX.out, (Fr.below (ex_trans (ex_trans hb1 hX3) hX4)).trans hf (fun _ _ h => h)⟩
    rw [HMO.out]
    exact World.putObj_heap_same hm4.lt
end Go.Proofs.Ytnplefhigbkbbaa
end

section
namespace Go.Proofs.Ytnplefhigbkbbaa
open Go.RowKit
attribute [local go_sem] Ex.cell? Ex.frozen?

/-- a list of numbers, in the program. -/
def natI (l : List Nat) : List Int := l.map fun (n : Nat) => (n : Int)
theorem natI_len {l : List Nat} : (natI l).length = l.length := by simp [natI]
/-- readings of which one must be left out. -/
def KnotIs (s : Se) (out : Nat) (l : List Nat) : Prop := (∀ i, i ∈ l → i < (placeL s).length ∧ out.testBit i = false) ∧ ∀ b, ¬ Clash s b → ∃ i, i ∈ l ∧ b.testBit i = true
/-- up to a reading: o is left out, l is not. -/
structure KnotTo (s : Se) (out k o : Nat) (l : List Nat) : Prop where
  cl : Clash s o
  lt : o < 68719476736
  ge : ∀ i, out.testBit i = true → o.testBit i = true
  nw : ∀ i, k ≤ i → o.testBit i = out.testBit i
  mem : ∀ i, i ∈ l → i < k ∧ out.testBit i = false
  all : ∀ i, i < k → o.testBit i = false → i ∈ l
theorem KnotTo.start {s : Se} {out : Nat} (hc : Clash s out) (hl : out < 68719476736) : KnotTo s out 0 out [] := ⟨hc, hl, fun _ h => h, fun _ _ => rfl, fun i h => (by cases h), fun i h => by omega⟩
theorem or_bit {o k i : Nat} : (o ||| 2 ^ k).testBit i = (o.testBit i || decide (k = i)) := by
  rw [Nat.testBit_or, Nat.testBit_two_pow]
theorem or_lt {o k : Nat} (h : o < 68719476736) (hk : k < 36) : o ||| 2 ^ k < 68719476736 := by
  have h2 : 2 ^ k < 2 ^ 36 := Nat.pow_lt_pow_right (by omega) hk
  exact Nat.or_lt_two_pow (n := 36) h h2
theorem KnotTo.skip {s : Se} {out k o : Nat} {l : List Nat} (h : KnotTo s out k o l) (hb : o.testBit k = true) : KnotTo s out (k + 1) o l :=
  ⟨h.cl, h.lt, h.ge, fun i hi => h.nw i (by omega), fun i hi => ⟨by have := h.mem i hi; omega, (h.mem i hi).2⟩, fun i hi hn => by
    rcases Nat.lt_succ_iff_lt_or_eq.1 hi with h1 | h1
    · exact h.all i h1 hn
    · subst h1; rw [hb] at hn; cases hn⟩
theorem KnotTo.less {s : Se} {out k o : Nat} {l : List Nat} (h : KnotTo s out k o l) (hk : k < 36) (hc : Clash s (o ||| 2 ^ k)) : KnotTo s out (k + 1) (o ||| 2 ^ k) l :=
  ⟨hc, or_lt h.lt hk, fun i hi => by rw [or_bit, h.ge i hi]; rfl, fun i hi => by rw [or_bit, h.nw i (by omega), decide_eq_false (by omega), Bool.or_false], fun i hi => ⟨by have := h.mem i hi; omega, (h.mem i hi).2⟩, fun i hi hn => by
    rw [or_bit, Bool.or_eq_false_iff, decide_eq_false_iff_not] at hn
    exact h.all i (by omega) hn.1⟩
theorem KnotTo.keep {s : Se} {out k o : Nat} {l : List Nat} (h : KnotTo s out k o l) (hb : o.testBit k = false) : KnotTo s out (k + 1) o (l ++ [k]) :=
  ⟨h.cl, h.lt, h.ge, fun i hi => h.nw i (by omega), fun i hi => by
    rcases List.mem_append.1 hi with h1 | h1
    · exact ⟨by have := h.mem i h1; omega, (h.mem i h1).2⟩
    · rw [List.mem_singleton.1 h1]; exact ⟨by omega, by rw [← h.nw k (Nat.le_refl _)]; exact hb⟩, fun i hi hn => by
    rcases Nat.lt_succ_iff_lt_or_eq.1 hi with h1 | h1
    · exact List.mem_append.2 (.inl (h.all i h1 hn))
    · rw [h1]; simp⟩
theorem KnotTo.len {s : Se} {out k o : Nat} {l : List Nat} (h : KnotTo s out k o l) : True := trivial
/-- a reading less to agree with. -/
theorem Tru.mono {s : Se} {out out' : Nat → Bool} {o h : Nat → Int} (ht : Tru s out o h) (hm : ∀ i, i < (placeL s).length → out i = true → out' i = true) : Tru s out' o h :=
  ⟨ht.offs, ht.heats, fun i hi ho => ht.reads i hi (by
    cases hx : out i
    · rfl
    · rw [hm i hi hx] at ho; cases ho)⟩
theorem KnotTo.done {s : Se} {out o : Nat} {l : List Nat} (h : KnotTo s out (placeL s).length o l) : KnotIs s out l :=
  ⟨h.mem, fun b hb => by
    refine Classical.byContradiction fun hn => hb ?_
    rintro ⟨x, y, ht⟩
    refine h.cl ⟨x, y, ht.mono fun i hi hbi => ?_⟩
    cases hx : o.testBit i
    · exact absurd ⟨i, h.all i hi hx, hbi⟩ hn
    · rfl⟩
theorem or_val {o k : Nat} (h : o < 68719476736) (hk : k < 36) : bits .or .u64 (o : Int) (IntKind.u64.wrap (2 ^ k)) = ((o ||| 2 ^ k : Nat) : Int) := by
  have h2 : 2 ^ k < 2 ^ 36 := Nat.pow_lt_pow_right (by omega) hk
  have e : ((2 : Int) ^ k) = ((2 ^ k : Nat) : Int) := by simp
  have e2 : IntKind.u64.wrap ((2 ^ k : Nat) : Int) = ((2 ^ k : Nat) : Int) := IntWalk.u64_in _ (by generalize 2 ^ k = z at *; omega)
  rw [e, e2, u64_or_nat _ _ (by omega) (by generalize 2 ^ k = z at *; omega)]
theorem WorkAt.of {W W' : World} {q m co cb c : Nat} {s : Se} {Ao Ab A : Option Addr} {L L' : List (Nat × Bool)} (h : WorkAt W q m s Ao Ab co cb A c L) (hf : Fr (fun b => b = m) W W') (hm : IsMp keyL vBool W' m L') : WorkAt W' q m s Ao Ab co cb A c L' := h.turn (keeps_of_fr hf h.mp) hm
theorem bit_tst1 {n k : Nat} (x : Bool) (h : n < 68719476736) (ht : n.testBit k = x) : (bits .and .u64 ((n : Int) / 2 ^ k) 1 == 1) = x := by
  have h1 : n / 2 ^ k ≤ n := Nat.div_le_self _ _
  have e : (n : Int) / 2 ^ k = ((n / 2 ^ k : Nat) : Int) := by simp
  rw [e, and_one_u64 ((n / 2 ^ k : Nat) : Int) (Int.natCast_nonneg _) (by generalize n / 2 ^ k = m at *; omega)]
  rw [Nat.testBit_eq_decide_div_mod_eq] at ht
  generalize n / 2 ^ k = m at *
  subst ht
  rcases Nat.mod_two_eq_zero_or_one m with h2 | h2
  · have h3 : (m : Int) % 2 = 0 := by omega
    rw [h3, h2]; rfl
  · have h3 : (m : Int) % 2 = 1 := by omega
    rw [h3, h2]; rfl
def KnotPost (s : Se) (bits q m : Nat) (Ao Ab : Option Addr) (co cb : Nat) (A : Option Addr) (c : Nat) (w : World) (e : Ending) (w' : World) : Prop :=
  ∃ (v : Value) (l : List Nat) (L' : List (Nat × Bool)), e = .returned v ∧ KnotIs s bits l ∧ l.length ≤ (placeL s).length ∧ w'.ownsRow w.heap.size 3 1 v (natI l).length ((natI l).map (Value.int .i64)) ∧ WorkAt w' q m s Ao Ab co cb A c L' ∧ MapOk s L' ∧ Fr (fun b => b = m) w w'

set_option maxRecDepth 100000 in
set_option maxHeartbeats 3200000 in
theorem knot_any (s : Se) (Ao Ab A : Option Addr) (co cb c q m : Nat) (rA : Nat → Option Addr) (rc : Nat → Nat) (L : List (Nat × Bool)) (bits : Nat) (w : World) (hs : SeIn w w.heap.size s Ao Ab rA rc) (hw : WorkAt w q m s Ao Ab co cb A c L) (hL : MapOk s L) (hok : SeOk s) (hbt : bits < 68719476736) (hcl : Clash s bits) :
    Calls Try.prog 109 #[.pointer (some ⟨q, 0, none⟩), .agg #[.int .u64 (bits : Int)]] w (KnotPost s bits q m Ao Ab co cb A c w) := by
  obtain ⟨i0, hi0, hz0, hz1, hz2⟩ := info_parts int_info
  have HI := Lib.hid hi0
  clear hi0
  have hpl := placeL_len hok
  have hb1 := ex_alloc (Below.refl w.heap.size w) (.cells #[.int .u64 (bits : Int)] 133)
  have q1 : Blk (w.alloc (.cells #[.int .u64 (bits : Int)] 133)) w.heap.size 133 #[.int .u64 (bits : Int)] := Blk.new _ _ _
  have hw1 := hw.below hb1
  have hmw := hw.mp.lt
  have KT := Lib.hid (KnotTo.start hcl hbt)
  clear hcl
  have a3 : w.cell? ⟨q, 3, none⟩ = some (.slice A (placeL s).length c) := hw.wk.cell 3
  have la := hw.wk.lt
  go_enter Try.func109, Try.ntmps109
  go_wp2_with fail
  have F1 : Fr (fun b => b = m) w (w.alloc (.cells #[.int .u64 (bits : Int)] 133)) := Fr.below hb1
  have SZ : w.heap.size + 1 ≤ (w.alloc (.cells #[.int .u64 (bits : Int)] 133)).heap.size := by simp
  generalize w.alloc (.cells #[.int .u64 (bits : Int)] 133) = V at *
  clear hb1 a3 la
  refine wp_loop (fun a W => Rel (fun a W => ∃ k : Nat, k ≤ (placeL s).length ∧ ∃ o l L, Hid (KnotTo s bits k o l) ∧ l.length ≤ k ∧ Fr (fun b => b = m) w W ∧ w.heap.size + 1 ≤ W.heap.size ∧ IsMp keyL vBool W m L ∧ Hid (MapOk s L) ∧ Blk W w.heap.size 133 #[.int .u64 (o : Int)] ∧
      ∃ v, W.ownsRow (w.heap.size + 1) 3 1 v (natI l).length ((natI l).map (Value.int .i64)) ∧ ∃ u : Nat → Value, a = ⟨List.toArray (.pointer (some ⟨q, 0, none⟩) :: u 1 :: u 2 :: .pointer (some ⟨w.heap.size, 0, none⟩) :: v :: u 5 :: u 6 :: u 7 :: u 8 :: u 9 :: .slice A (placeL s).length c :: .int .i64 ((placeL s).length : Int) :: .int .i64 (k : Int) :: u 13 :: u 14 :: u 15 :: u 16 :: u 17 :: u 18 :: u 19 :: u 20 :: u 21 :: u 22 :: u 23 :: u 24 :: u 25 :: u 26 :: u 27 :: u 28 :: u 29 :: u 30 :: u 31 :: u 32 :: u 33 :: u 34 :: u 35 :: u 36 :: []), []⟩) a W)
    (fun a _ => (placeL s).length - (intOf (a.tmps.getD 12 undef)).toNat) ⟨⟨0, by omega, bits, [], L, KT, by simp, F1, SZ, hw1.mp, Lib.hid hL, q1, .slice none 0 0, ⟨by simp [natI], .inl ⟨rfl, by simp [natI]⟩⟩, exFrame (by kernel_rfl)⟩⟩ ?_
  clear F1 SZ hw1 q1 KT
  rintro a W ⟨⟨k, hk, o, l, L1, KT, hlk, F1, SZ, mp1, HL1, q1, v, hown, u, rfl⟩⟩
  by_cases hlt : k < (placeL s).length
  rotate_left
  · have hkE : k = (placeL s).length := by omega
    subst hkE
    have KD := Lib.hid KT.out.done
    go_wp2
    go_ret
    exact ⟨v, l, L1, rfl, KD.out, hlk, own_base hown (by omega), hw.of F1 mp1, HL1.out, F1⟩
  have k36 : k < 36 := by omega
  have hol := KT.out.lt
  have b0 : W.cell? ⟨w.heap.size, 0, none⟩ = some (.int .u64 (o : Int)) := q1.cell 0
  have bl := q1.lt
  have q2 := q1
  cases htb : o.testBit k
  rotate_left
  · have KT2 := Lib.hid (KT.out.skip htb)
    have e1 := bit_tst1 true hol htb
    clear htb KT
    go_wp2_with fail
    refine ⟨⟨⟨k + 1, by omega, o, l, L1, KT2, by omega, F1, SZ, mp1, HL1, q1, v, hown, exFrame (by kernel_rfl)⟩⟩, ?_⟩
    show (placeL s).length - (intOf (.int .i64 ((k : Int) + 1))).toNat < (placeL s).length - (intOf (.int .i64 (k : Int))).toNat
    simp [intOf]
    omega
  have e1 := bit_tst1 false hol htb
  have HTB := Lib.hid htb
  clear htb
  go_wp2_with fail
  refine wp_region_ext_mix 7 [(false, 0), (false, 1), (false, 2), (false, 3), (false, 4), (false, 5), (true, 6)] (by kernel_rfl) (by kernel_rfl) (by intro d _ _ _ _ h; cases d <;> exact h) ?_
  have hX0 := (Below.refl W.heap.size W).drew
  repeat (refine mix_quiet rfl ?_; go_big_quiet_step (fail); refine wpQuiet_nil ?_)
  refine mix_loud rfl ?_
  go_wp2_with fail
  have e5 := or_val hol k36
  have hX1 : Below W.heap.size W (W.alloc (.cells #[.int .u64 0] 133)).drew := (ex_alloc (Below.refl _ _) _).drew
  refine ⟨inEx hX1, ?_⟩
  refine mix_nil (r := [_]) rfl ?_
  go_wp2_with fail
  obtain ⟨o2, ho2⟩ : ∃ o2, o ||| 2 ^ k = o2 := ⟨_, rfl⟩
  have HO := Lib.hid ho2
  have ho2l : o2 < 68719476736 := by rw [← ho2]; exact or_lt hol k36
  rw [ho2]
  clear hX1 hX0 e5 e1 ho2 b0
  have hX2 : Below W.heap.size W (W.alloc (.cells #[.int .u64 (o2 : Int)] 133)).drew := (ex_alloc (Below.refl _ _) _).drew
  have qz : Blk (W.alloc (.cells #[.int .u64 (o2 : Int)] 133)).drew W.heap.size 133 #[.int .u64 (o2 : Int)] := Blk.new _ _ _
  have F2 := F1.trans (Fr.below (R := fun b => b = m) hX2) (fun _ _ h => h)
  have mp2 := mp1.below hX2
  have own2 := own_below hown hX2
  have q2 := q1.below hX2 bl
  have SZ2 : W.heap.size + 1 ≤ (W.alloc (.cells #[.int .u64 (o2 : Int)] 133)).drew.heap.size := by
    show W.heap.size + 1 ≤ (W.alloc (.cells #[.int .u64 (o2 : Int)] 133)).heap.size
    simp
  generalize (W.alloc (.cells #[.int .u64 (o2 : Int)] 133)).drew = W2 at *
  have c0 : W2.cell? ⟨W.heap.size, 0, none⟩ = some (.int .u64 (o2 : Int)) := qz.cell 0
  have lc := qz.lt
  go_wp2_with fail
  refine (clashes_any s Ao Ab A co cb c q m rA rc L1 o2 W2 (hs.keeps (keeps_of_fr F2 hw.mp)) (hw.of F2 mp2) HL1.out hok ho2l).mono ?_
  rintro e W3 ⟨x, L3, rfl, hx, hw3, hL3, F3⟩
  have F4 := F2.trans F3 (fun _ _ h => h)
  have HX := Lib.hid hx
  have q3 := q2.fr F3 (by omega)
  have qz3 := qz.fr F3 (by omega)
  have own3 := own_fr own2 F3 (fun b hb => by have := own_ge own2 hb; omega)
  have SZ3 := F3.size
  clear hx c0 lc
  have b3 : W3.cell? ⟨w.heap.size, 0, none⟩ = some (.int .u64 (o : Int)) := q3.cell 0
  have fb3 := q3.frozen 0
  have l3 := q3.lt
  have c3 : W3.cell? ⟨W.heap.size, 0, none⟩ = some (.int .u64 (o2 : Int)) := qz3.cell 0
  have lc3 := qz3.lt
  cases x
  rotate_left
  · have KT2 := Lib.hid (KT.out.less k36 (by rw [HO.out]; exact HX.out.1 rfl))
    rw [HO.out] at KT2
    go_wp2_with fail
    have q5 := q3.set_ 0 (.int .u64 (o2 : Int))
    simp only [List.setIfInBounds_toArray, List.set_cons_zero] at q5
    have Fs : Fr (fun b => b = w.heap.size) W3 (W3.setCell ⟨w.heap.size, 0, none⟩ (.int .u64 (o2 : Int))) := (Fr.refl (fun b => b = w.heap.size) W3).andSet rfl
    have F5 : Fr (fun b => b = m) w (W3.setCell ⟨w.heap.size, 0, none⟩ (.int .u64 (o2 : Int))) := F4.trans Fs (fun x hx h => by omega)
    have own5 := own_fr own3 Fs (fun b hb => by have := own_ge own3 hb; omega)
    have mp5 := hw3.mp.fr Fs (by omega)
    refine ⟨⟨⟨k + 1, by omega, o2, l, L3, KT2, by omega, F5, by simp; omega, mp5, Lib.hid hL3, q5, v, own5, exFrame (by kernel_rfl)⟩⟩, ?_⟩
    show (placeL s).length - (intOf (.int .i64 ((k : Int) + 1))).toNat < (placeL s).length - (intOf (.int .i64 (k : Int))).toNat
    simp [intOf]
    omega
  · have KT2 := Lib.hid (KT.out.keep HTB.out)
    have c63 : (natI l).length + 1 ≤ maxLen := by rw [natI_len]; unfold maxLen; omega
    have cby : ((natI l).length + 1) * 8 ≤ 140737488355328 := by rw [natI_len]; omega
    have y4 := own3.alloc (.cells #[.int .i64 (k : Int)] 3)
    have hX6 := ex_alloc (Below.refl W3.heap.size W3) (.cells #[.int .i64 (k : Int)] 3)
    have F6 := F4.trans (Fr.below (R := fun b => b = m) hX6) (fun _ _ h => h)
    have mp6 := hw3.mp.below hX6
    have q6 := q3.below hX6 l3
    have hbase : w.heap.size + 1 ≤ (W3.alloc (.cells #[.int .i64 (k : Int)] 3)).heap.size := by simp; omega
    have hge := fun (j : Nat) (hj : v.ownBlock = some j) => own_ge own3 hj
    go_wp2_with (at_builtin; refine wpList_append_lies _ rfl _ _ _ rfl (w.heap.size + 1) 3 i0 _ 1 8 Try.underlying52 HI.out hz0 hz1 hz2 rfl (by omega) v _ _ rfl y4 ⟨W3.heap.size, 0, none⟩ 1 1 [.int .i64 (k : Int)] rfl rfl (World.news_of_block (heap_alloc_new W3 _)) (by simp [Value.oneCell']) (by omega) c63 cby hbase (W3.heap.size + 1) (by simp) ?_; intro gg cap w1 hown' hgrow hat hlt')
    have F7 : Fr (fun b => b = m) w w1 := F6.trans (Fr.grown (R := fun b => v.ownBlock = some b) hgrow (fun b e => .inl e)) (fun x hx h => by have := hge x h; omega)
    have mp7 := mp6.of_block (hgrow.block _ mp6.lt (fun e => by have := hge _ e.symm; omega))
    have q7 := q6.grown hgrow (fun e => by have := hge _ e.symm; omega)
    have SZ7 := hgrow.size
    have own7 : w1.ownsRow (w.heap.size + 1) 3 1 (.slice (some ⟨gg, 0, none⟩) ((natI l).length + 1) cap) (natI (l ++ [k])).length ((natI (l ++ [k])).map (Value.int .i64)) := by
      unfold natI at hown' ⊢
      rw [List.map_append, List.map_append, List.length_append]
      exact hown'
    refine ⟨⟨⟨k + 1, by omega, o, l ++ [k], L3, KT2, by simp; omega, F7, by omega, mp7, Lib.hid hL3, q7, _, own7, exFrame (by kernel_rfl)⟩⟩, ?_⟩
    show (placeL s).length - (intOf (.int .i64 ((k : Int) + 1))).toNat < (placeL s).length - (intOf (.int .i64 (k : Int))).toNat
    simp [intOf]
    omega
end Go.Proofs.Ytnplefhigbkbbaa
end
