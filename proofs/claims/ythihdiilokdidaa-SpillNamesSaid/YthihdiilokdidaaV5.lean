/- Spill: a way through a net (walk). · Spill: grams are pushed through a net (walk). · Spill: a works at work (walk). · Drawn regions in an iterator's own body (outside every fence): a loud step may yield. -/
import Derived.Test.YthihdiilokdidaaV4
import Derived.Test.YthihdiilokdidaaV2
set_option linter.unusedVariables false
set_option linter.unusedSimpArgs false
set_option linter.unusedSectionVars false
section
namespace Go.Proofs.Ythihdiilokdidaa
open Go.RowKit
attribute [local go_sem] Ex.cell? Ex.frozen? Gx.cell?

theorem VArr.neBlk {W : World} {b g n : Nat} {t t' : TypeId} {cs : Array Value} {f : Nat → Value} (h : VArr W b t n f) (hb : Blk W g t' cs) (ht : t ≠ t') : g ≠ b := by
 obtain ⟨_, h1, _⟩ := h
 exact fun e => blk_ne h1 hb ht e.symm
theorem VArr.nf {W W' : World} {base x b n : Nat} {t : TypeId} {f : Nat → Value} (h : VArr W b t n f) (hf : NetFr base x W W') (hm : b ≠ x) (ht : ¬ NetTy t) : VArr W' b t n f := by
 obtain ⟨cs, h1, h2⟩ := h
 exact ⟨cs, h1.nf hf hm ht, h2⟩
structure Bx (W : World) (pt ps pn pw t bs N cs q : Nat) : Prop where
 t : Blk W pt 3 #[.int .i64 (t : Int)]
 s : Blk W ps 208 #[.slice (some ⟨bs, 0, none⟩) N cs]
 n : Blk W pn 181 #[.pointer (some ⟨q, 0, none⟩)]
 w : Blk W pw 194 #[.func (.func 128) #[] #[.pointer (some ⟨pt, 0, none⟩), .pointer (some ⟨ps, 0, none⟩), .pointer (some ⟨pn, 0, none⟩), .pointer (some ⟨pw, 0, none⟩)]]
def WkR (vals : List Value) (N bs : Nat) (b : Nat) : Prop := b = bs ∨ ∃ i, i < N ∧ (vA vals i).ownBlock = some b
theorem NetM.notArc {W : World} {base q mb N : Nat} {sp : List Spot} {R : Nat → List Ar} {vo : Value} {vals : List Value} (h : NetM W base q mb sp N R vo vals) {bs n : Nat} {f : Nat → Value} (hv : VArr W bs 4 n f) {g : Nat} {t : TypeId} {cs : Array Value} (hg : Blk W g t cs) (h1 : 4 ≠ t) (h2 : 207 ≠ t) : ¬ WkR vals N bs g := by
 rintro (e | ⟨i, hi, e⟩)
 ·
  exact hv.neBlk hg h1 e
 ·
  exact own_blkne (h.rows i hi) hg h2 e
theorem NetM.notNew {W : World} {base q mb N : Nat} {sp : List Spot} {R : Nat → List Ar} {vo : Value} {vals : List Value} (h : NetM W base q mb sp N R vo vals) {bs n : Nat} {f : Nat → Value} (hv : VArr W bs 4 n f) {g : Nat} (hg : W.heap.size ≤ g) : ¬ WkR vals N bs g := by
 rintro (e | ⟨i, hi, e⟩)
 ·
  have := hv.lt; omega
 ·
  have := own_lt (h.rows i hi) e; omega
theorem Bx.fr {W W' : World} {pt ps pn pw t bs N cs q n base mb : Nat} {sp : List Spot} {R : Nat → List Ar} {vo : Value} {vals : List Value} {f : Nat → Value} (h : Bx W pt ps pn pw t bs N cs q) (hm : NetM W base q mb sp N R vo vals) (hv : VArr W bs 4 n f) (hf : Fr (WkR vals N bs) W W') : Bx W' pt ps pn pw t bs N cs q :=
 ⟨h.t.fr hf (hm.notArc hv h.t (by decide) (by decide)), h.s.fr hf (hm.notArc hv h.s (by decide) (by decide)), h.n.fr hf (hm.notArc hv h.n (by decide) (by decide)), h.w.fr hf (hm.notArc hv h.w (by decide) (by decide))⟩
theorem Bx.below {W W' : World} {pt ps pn pw t bs N cs q : Nat} (h : Bx W pt ps pn pw t bs N cs q) (hb : Below W.heap.size W W') : Bx W' pt ps pn pw t bs N cs q := ⟨h.t.below hb h.t.lt, h.s.below hb h.s.lt, h.n.below hb h.n.lt, h.w.below hb h.w.lt⟩
theorem wkTrans {vals : List Value} {N bs : Nat} {a b c : World} (h : Fr (WkR vals N bs) a b) (k : Fr (WkR vals N bs) b c) : Fr (WkR vals N bs) a c := h.trans k (fun _ _ h => h)
theorem NetM.frX {W W' : World} {base q mb N : Nat} {sp : List Spot} {R : Nat → List Ar} {vo : Value} {vals : List Value} (h : NetM W base q mb sp N R vo vals) {bs n : Nat} {f : Nat → Value} (hv : VArr W bs 4 n f) (hf : Fr (fun b => b = bs) W W') : NetM W' base q mb sp N R vo vals := by
 obtain ⟨cs, hb, _⟩ := hv
 have hq : ¬ q = bs := fun e => blk_ne h.blk hb (by decide) e
 have hm : ¬ mb = bs := fun e => blk_isMap hb h.num e.symm
 exact ⟨h.blk.fr hf hq, own_fr h.out hf (fun b hb2 e => own_blkne h.out hb (by decide) (by rw [hb2, e])), h.len, fun i hi => own_fr (h.rows i hi) hf (fun b hb2 e => own_blkne (h.rows i hi) hb (by decide) (by rw [hb2, e])), h.ne, h.num.fr hf hm, h.qb⟩
theorem arc_at {W : World} {base q mb N : Nat} {sp : List Spot} {R : Nat → List Ar} {vo : Value} {vals : List Value} (h : NetM W base q mb sp N R vo vals) {i k : Nat} {a : Ar} (hi : i < N) (ha : (R i)[k]? = some a) {g n cap : Nat} (hg : vA vals i = .slice (some ⟨g, 0, none⟩) n cap) :
  n = (R i).length ∧ k < (R i).length ∧ base ≤ g ∧ g < W.heap.size ∧ W.cell? ⟨g, k * 3, none⟩ = some (.int .i64 (a.tgt : Int)) ∧ W.cell? ⟨g, k * 3 + 1, none⟩ = some (.int .i64 a.room) ∧ W.cell? ⟨g, k * 3 + 2, none⟩ = some (.int .i64 (a.back : Int)) ∧ (∀ j, W.frozen? ⟨g, j, none⟩ = false) := by
 obtain ⟨hk, e⟩ := List.getElem?_eq_some_iff.1 ha
 obtain ⟨g2, c2, e2, h1, h2, r0, r1, r2, r3, _⟩ := arc_row h hi hk
 rw [hg] at e2
 injection e2 with e3 e4 _
 injection e3 with e3
 injection e3 with e3
 subst e3
 rw [e] at r0 r1 r2
 exact ⟨e4, hk, h1, h2, r0, r1, r2, r3⟩
theorem room_at {W : World} {base q mb N : Nat} {sp : List Spot} {R : Nat → List Ar} {vo : Value} {vals : List Value} (h : NetM W base q mb sp N R vo vals) {i k : Nat} {a : Ar} (hi : i < N) (ha : (R i)[k]? = some a) {g n cap : Nat} (hg : vA vals i = .slice (some ⟨g, 0, none⟩) n cap) (x : Int) :
  NetM (W.setCell ⟨g, k * 3 + 1, none⟩ (.int .i64 x)) base q mb sp N (setR R i ((R i).set k ⟨a.tgt, x, a.back⟩)) vo vals := by
 obtain ⟨e1, hk, _⟩ := arc_at h hi ha hg
 subst e1
 have := (h.room hi hk hg x).1
 rw [(List.getElem?_eq_some_iff.1 ha).2] at this
 exact this
theorem NetM.bsNe {W : World} {base q mb N : Nat} {sp : List Spot} {R : Nat → List Ar} {vo : Value} {vals : List Value} (h : NetM W base q mb sp N R vo vals) {bs n : Nat} {f : Nat → Value} (hv : VArr W bs 4 n f) {i : Nat} (hi : i < N) {g k c : Nat} (hg : vA vals i = .slice (some ⟨g, 0, none⟩) k c) : bs ≠ g := by
 obtain ⟨cs, hb, _⟩ := hv
 rintro rfl
 exact own_blkne (h.rows i hi) hb (by decide) (by rw [hg]; rfl)
structure WkI (W V : World) (base q mb N t bs cs pt ps pn pw : Nat) (sp : List Spot) (vo : Value) (vals : List Value) (es : List Ed) (S : Nat → Bool) (x i : Nat) : Prop where
 out : ∃ S1, WkLoop N es S S1 x t i ∧ (∀ y, y < N → (fun y => if y = x then true else S y) y = true → S1 y = true) ∧ NetM V base q mb sp N (rowE es) vo vals ∧ VArr V bs 4 N (fun i => .bool (S1 i)) ∧ Bx V pt ps pn pw t bs N cs q ∧ Fr (WkR vals N bs) W V
structure WkPost (W W' : World) (base q mb N t bs : Nat) (sp : List Spot) (vo : Value) (vals : List Value) (es : List Ed) (S : Nat → Bool) (x : Nat) (grams got : Int) : Prop where
 out : ∃ es' S', WalkIs N es es' S S' x t grams got ∧ NetM W' base q mb sp N (rowE es') vo vals ∧ VArr W' bs 4 N (fun i => .bool (S' i)) ∧ Fr (WkR vals N bs) W W'
theorem arc_le {N : Nat} {es : List Ed} {C : Int} (h : EdsOk N es) (hC : ∀ e ∈ es, e.cap ≤ C) {x i : Nat} {a : Ar} (ha : (rowE es x)[i]? = some a) : a.room ≤ C := by
 obtain ⟨k, e, sg, hA⟩ := arcAt h.ne ha
 have he := List.mem_of_getElem? hA.ed
 have h1 := hC e he
 have h2 := h.bd e he
 rcases hA.way with ⟨_, _, _, a4⟩ | ⟨_, _, _, a4⟩ <;> omega
theorem cap_shape {es es' : List Ed} {C : Int} (h : es'.map Ed.shape = es.map Ed.shape) (hC : ∀ e ∈ es, e.cap ≤ C) : ∀ e ∈ es', e.cap ≤ C := fun e he => by
 obtain ⟨f, hf, e2⟩ := shape_mem h he
 have := hC f hf
 simp only [Ed.shape, Prod.mk.injEq] at e2
 omega
theorem cntE_le : ∀ (es : List Ed) (x : Nat), cntE es x ≤ es.length
 | [], _ => Nat.le_refl _
 | e :: l, x => by have := cntE_le l x; simp only [cntE, List.length_cons]; split <;> omega
set_option maxRecDepth 100000 in
set_option maxHeartbeats 12800000 in
theorem walk_any (base q mb N t bs cs pt ps pn pw : Nat) (sp : List Spot) (vo : Value) (vals : List Value) (C : Int) (hC : 0 ≤ C ∧ C ≤ 1099511627776) (ht : t < N) (hbs : base ≤ bs) (hN : N ≤ 1000) :
  ∀ (n : Nat) (es : List Ed) (S : Nat → Bool) (x : Nat) (grams : Int) (W : World), seenCnt S N < n → EdsOk N es → (∀ e ∈ es, e.cap ≤ C) → es.length ≤ 1000 → x < N → S x = false → S t = false → 0 < grams → grams ≤ 1048576 → Bx W pt ps pn pw t bs N cs q →
  NetM W base q mb sp N (rowE es) vo vals → VArr W bs 4 N (fun i => .bool (S i)) →
  Calls Try.prog 128 #[.int .i64 (x : Int), .int .i64 grams, .pointer (some ⟨pt, 0, none⟩), .pointer (some ⟨ps, 0, none⟩), .pointer (some ⟨pn, 0, none⟩), .pointer (some ⟨pw, 0, none⟩)] W fun e W' => ∃ got, e = .returned (.int .i64 got) ∧ WkPost W W' base q mb N t bs sp vo vals es S x grams got := by
 intro n
 induction n with
 | zero => intro es S x grams W h; omega
 | succ n ih =>
  intro es S x grams W hn ho hcap hel hx hSx hSt hg0 hg1 hB hM hV
  have HIH := Lib.hid ih
  clear ih
  have bt : W.cell? ⟨pt, 0, none⟩ = some (.int .i64 (t : Int)) := hB.t.cell 0
  have bs_ : W.cell? ⟨ps, 0, none⟩ = some (.slice (some ⟨bs, 0, none⟩) N cs) := hB.s.cell 0
  have bn : W.cell? ⟨pn, 0, none⟩ = some (.pointer (some ⟨q, 0, none⟩)) := hB.n.cell 0
  have bw : W.cell? ⟨pw, 0, none⟩ = some (.func (.func 128) #[] #[.pointer (some ⟨pt, 0, none⟩), .pointer (some ⟨ps, 0, none⟩), .pointer (some ⟨pn, 0, none⟩), .pointer (some ⟨pw, 0, none⟩)]) := hB.w.cell 0
  have lt := hB.t.lt
  have lS := hB.s.lt
  have ln := hB.n.lt
  have lw := hB.w.lt
  by_cases hxt : x = t
  ·
   subst hxt
   have heq : ((x : Int) == (x : Int)) = true := by simp
   have HP : WkPost W W base q mb N x bs sp vo vals es S x grams grams := ⟨es, S, WalkIs.here ho hg0, hM, hV, Fr.refl _ _⟩
   have HP2 := Lib.hid HP
   clear HP
   go_enter Try.func128, Try.ntmps128
   go_wp2
   go_ret
   exact ⟨grams, rfl, HP2.out⟩
  have hne : ((x : Int) == (t : Int)) = false := by rw [beq_eq_false_iff_ne]; omega
  have HXT := Lib.hid hxt
  clear hxt
  have hVc := hV.cell hx
  rw [hSx] at hVc
  have hVf := hV.frozen
  have hVl := hV.lt
  have hV1 := hV.set (i := x) (.bool true) hx
  have hF1 := Fr.set (R := fun b => b = bs) W bs x (.bool true) rfl
  have hM1 := hM.frX hV hF1
  have hf1 : Fr (WkR vals N bs) W (W.setCell ⟨bs, x, none⟩ (.bool true)) := Fr.set W bs x _ (.inl rfl)
  have hB1 := hB.fr hM hV hf1
  have hV1' : VArr (W.setCell ⟨bs, x, none⟩ (.bool true)) bs 4 N (fun i => .bool ((fun y => if y = x then true else S y) i)) := hV1.ext (fun i _ => by show (if i = x then Value.bool true else .bool (S i)) = .bool (if i = x then true else S i); split <;> rfl)
  have hW0 : WkLoop N es S (fun y => if y = x then true else S y) x t 0 := WkLoop.start hSt HXT.out
  have hSn := seen_less hx hSx
  have HN : Hid (∀ S1 : Nat → Bool, (∀ y, y < N → (fun y => if y = x then true else S y) y = true → S1 y = true) → seenCnt S1 N < n) := Lib.hid (fun S1 h => by have := seen_mono (n := N) h; omega)
  obtain ⟨go, co, hvo, hbg, hgl, hco, hcs, _, _, _⟩ := hM1.outer (by omega)
  obtain ⟨Ax, cx, hAx⟩ := own_form (hM1.rows x hx)
  have HVO := Lib.hid hvo
  have HCS := Lib.hid hcs
  clear hcs
  obtain ⟨len, hlen⟩ : ∃ len, (rowE es x).length = len := ⟨_, rfl⟩
  rw [hlen] at hAx
  have hcx : (W.setCell ⟨bs, x, none⟩ (.bool true)).cell? ⟨go, x, none⟩ = some (.slice Ax len cx) := hAx ▸ HCS.out x hx
  have hq1 : (W.setCell ⟨bs, x, none⟩ (.bool true)).cell? ⟨q, 1, none⟩ = some (.slice (some ⟨go, 0, none⟩) N co) := HVO.out ▸ hM1.blk.cell 1
  have lq := hM1.blk.lt
  have hlb : len ≤ 1000 := by have := cntE_le es x; rw [← hlen, rowE_len]; omega
  have HAX := Lib.hid hAx
  have HLEN := Lib.hid hlen
  clear hlen hAx hvo
  have bt1 : (W.setCell ⟨bs, x, none⟩ (.bool true)).cell? ⟨pt, 0, none⟩ = some (.int .i64 (t : Int)) := hB1.t.cell 0
  have bs_1 : (W.setCell ⟨bs, x, none⟩ (.bool true)).cell? ⟨ps, 0, none⟩ = some (.slice (some ⟨bs, 0, none⟩) N cs) := hB1.s.cell 0
  have bn1 : (W.setCell ⟨bs, x, none⟩ (.bool true)).cell? ⟨pn, 0, none⟩ = some (.pointer (some ⟨q, 0, none⟩)) := hB1.n.cell 0
  have bw1 : (W.setCell ⟨bs, x, none⟩ (.bool true)).cell? ⟨pw, 0, none⟩ = some (.func (.func 128) #[] #[.pointer (some ⟨pt, 0, none⟩), .pointer (some ⟨ps, 0, none⟩), .pointer (some ⟨pn, 0, none⟩), .pointer (some ⟨pw, 0, none⟩)]) := hB1.w.cell 0
  have lt1 := hB1.t.lt
  have lS1 := hB1.s.lt
  have ln1 := hB1.n.lt
  have lw1 := hB1.w.lt
  have HV1 := Lib.hid hV1'
  have HM1 := Lib.hid hM1
  have HB1 := Lib.hid hB1
  clear hV1 hV1' hM1 hB1 hV hM hB hF1
  go_enter Try.func128, Try.ntmps128
  go_wp2_with fail
  have hV1 := HV1.out
  have hM1 := HM1.out
  have hB1 := HB1.out
  clear bt bs_ bn bw lt lS ln lw
  clear bt1 bs_1 bn1 bw1 lt1 lS1 ln1 lw1
  clear HV1 HM1 HB1 hcx hq1 lq hVc hVf hVl
  generalize W.setCell ⟨bs, x, none⟩ (.bool true) = W1 at *
  refine wp_loop (fun a V => Rel (fun a V => ∃ i : Nat, i ≤ len ∧ WkI W V base q mb N t bs cs pt ps pn pw sp vo vals es S x i ∧ ∃ u : Nat → Value, a = ⟨List.toArray (.int .i64 (x : Int) :: .int .i64 grams :: .pointer (some ⟨pt, 0, none⟩) :: .pointer (some ⟨ps, 0, none⟩) :: .pointer (some ⟨pn, 0, none⟩) :: .pointer (some ⟨pw, 0, none⟩) :: u 6 :: u 7 :: .int .i64 0 :: u 9 :: u 10 :: u 11 :: u 12 :: u 13 :: u 14 :: u 15 :: u 16 :: u 17 :: u 18 :: u 19 :: u 20 :: u 21 :: u 22 :: u 23 :: u 24 :: u 25 :: .int .i64 (len : Int) :: .int .i64 (i : Int) :: u 28 :: u 29 :: u 30 :: u 31 :: u 32 :: u 33 :: u 34 :: u 35 :: u 36 :: u 37 :: u 38 :: u 39 :: u 40 :: u 41 :: u 42 :: u 43 :: u 44 :: u 45 :: u 46 :: u 47 :: u 48 :: u 49 :: u 50 :: u 51 :: u 52 :: u 53 :: u 54 :: u 55 :: u 56 :: u 57 :: u 58 :: u 59 :: u 60 :: u 61 :: u 62 :: u 63 :: u 64 :: u 65 :: u 66 :: u 67 :: u 68 :: u 69 :: u 70 :: u 71 :: u 72 :: u 73 :: u 74 :: u 75 :: u 76 :: u 77 :: u 78 :: u 79 :: u 80 :: u 81 :: u 82 :: u 83 :: u 84 :: u 85 :: u 86 :: u 87 :: u 88 :: u 89 :: u 90 :: u 91 :: u 92 :: u 93 :: u 94 :: []), []⟩) a V) (fun a _ => len - (intOf (a.tmps.getD 27 undef)).toNat) ⟨⟨0, by omega, ⟨⟨_, hW0, fun y _ h => h, hM1, hV1, hB1, hf1⟩⟩, exFrame (by kernel_rfl)⟩⟩ ?_
  clear hW0 hM1 hV1 hB1 hf1 HCS hgl
  rintro a V ⟨⟨i, hi, ⟨⟨S1, hW, hmo, hM, hV, hB, hf⟩⟩, u, rfl⟩⟩
  have bt : V.cell? ⟨pt, 0, none⟩ = some (.int .i64 (t : Int)) := hB.t.cell 0
  have bs_ : V.cell? ⟨ps, 0, none⟩ = some (.slice (some ⟨bs, 0, none⟩) N cs) := hB.s.cell 0
  have bn : V.cell? ⟨pn, 0, none⟩ = some (.pointer (some ⟨q, 0, none⟩)) := hB.n.cell 0
  have bw : V.cell? ⟨pw, 0, none⟩ = some (.func (.func 128) #[] #[.pointer (some ⟨pt, 0, none⟩), .pointer (some ⟨ps, 0, none⟩), .pointer (some ⟨pn, 0, none⟩), .pointer (some ⟨pw, 0, none⟩)]) := hB.w.cell 0
  have lt := hB.t.lt
  have lS := hB.s.lt
  have ln := hB.n.lt
  have lw := hB.w.lt
  obtain ⟨go2, co2, hvo2, _, hgl, _, hcs, hfz, _⟩ := hM.outer (by omega)
  have hgo : go2 = go ∧ co2 = co := by rw [HVO.out] at hvo2; injection hvo2 with e1 _ e2; injection e1 with e1; injection e1 with e1 _; exact ⟨e1.symm, e2.symm⟩
  obtain ⟨rfl, rfl⟩ := hgo
  have HCS := Lib.hid hcs
  clear hcs hvo2
  have hq1 : V.cell? ⟨q, 1, none⟩ = some (.slice (some ⟨go2, 0, none⟩) N co2) := HVO.out ▸ hM.blk.cell 1
  have lq := hM.blk.lt
  by_cases hlt : i < len
  ·
   obtain ⟨a, ha⟩ : ∃ a, (rowE es x)[i]? = some a := ⟨(rowE es x)[i]'(by rw [HLEN.out]; exact hlt), List.getElem?_eq_getElem _⟩
   obtain ⟨gx, capx, hgx, _, hgxl, r0, r1, r2, rf, _⟩ := arc_row hM hx (k := i) (by rw [HLEN.out]; exact hlt)
   have hai : (rowE es x)[i]'(by rw [HLEN.out]; exact hlt) = a := by have := List.getElem?_eq_some_iff.1 ha; exact this.2
   rw [hai] at r0 r1 r2
   rw [HLEN.out] at hgx
   have hcx : V.cell? ⟨go2, x, none⟩ = some (.slice (some ⟨gx, 0, none⟩) len capx) := hgx ▸ HCS.out x hx
   have HGX := Lib.hid hgx
   have HA := Lib.hid ha
   have hto := arc_lt ho ha
   have hrl := arc_le ho hcap ha
   clear hgx hai ha
   obtain ⟨tg, room, back⟩ := a
   simp only at r0 r1 r2 hto hrl
   have hX := ex_alloc (Below.refl V.heap.size V) (.cells #[.int .i64 (tg : Int), .int .i64 room, .int .i64 (back : Int)] 207)
   have qa : Blk (V.alloc (.cells #[.int .i64 (tg : Int), .int .i64 room, .int .i64 (back : Int)] 207)) V.heap.size 207 #[.int .i64 (tg : Int), .int .i64 room, .int .i64 (back : Int)] := Blk.new _ _ _
   have hM2 := hM.below hX
   have hV2 := hV.below hX
   have hf2 := wkTrans hf (Fr.below hX)
   have hB2 := hB.below hX
   have hnA : ¬ WkR vals N bs V.heap.size := hM.notNew hV (Nat.le_refl _)
   have hVt := hV2.cell hto.1
   go_upto_region 8 with fail
   generalize V.alloc (.cells #[.int .i64 (tg : Int), .int .i64 room, .int .i64 (back : Int)] 207) = V2 at *
   obtain ⟨pa, hpa⟩ : ∃ p, V.heap.size = p := ⟨_, rfl⟩
   rw [hpa] at qa hnA ⊢
   clear hpa hq1 lq hcx r0 r1 r2 rf hM hV hB hf HCS hX hgl hfz hgxl
   clear bt bs_ bn bw lt lS ln lw
   have bt : V2.cell? ⟨pt, 0, none⟩ = some (.int .i64 (t : Int)) := hB2.t.cell 0
   have bs_ : V2.cell? ⟨ps, 0, none⟩ = some (.slice (some ⟨bs, 0, none⟩) N cs) := hB2.s.cell 0
   have bn : V2.cell? ⟨pn, 0, none⟩ = some (.pointer (some ⟨q, 0, none⟩)) := hB2.n.cell 0
   have bw : V2.cell? ⟨pw, 0, none⟩ = some (.func (.func 128) #[] #[.pointer (some ⟨pt, 0, none⟩), .pointer (some ⟨ps, 0, none⟩), .pointer (some ⟨pn, 0, none⟩), .pointer (some ⟨pw, 0, none⟩)]) := hB2.w.cell 0
   have lt := hB2.t.lt
   have lS := hB2.s.lt
   have ln := hB2.n.lt
   have lw := hB2.w.lt
   have qa0 : V2.cell? ⟨pa, 0, none⟩ = some (.int .i64 (tg : Int)) := qa.cell 0
   have qa1 : V2.cell? ⟨pa, 1, none⟩ = some (.int .i64 room) := qa.cell 1
   have qa2 : V2.cell? ⟨pa, 2, none⟩ = some (.int .i64 (back : Int)) := qa.cell 2
   have qal := qa.lt
   have hVl := hV2.lt
   by_cases hrm : room = 0
   ·
    subst hrm
    have hW2 := hW.skip HA.out (.inl rfl)
    have HW2 := Lib.hid hW2
    clear hW2
    go_wp2_with fail
    refine ⟨⟨⟨i + 1, by omega, ⟨⟨S1, HW2.out, hmo, hM2, hV2, hB2, hf2⟩⟩, exFrame (by kernel_rfl)⟩⟩, ?_⟩
    show len - (intOf (.int .i64 ((i : Int) + 1))).toNat < len - (intOf (.int .i64 (i : Int))).toNat
    simp [intOf]
    omega
   have hr0 : (room == 0) = false := by rw [beq_eq_false_iff_ne]; exact hrm
   have hrp : 0 < room := by omega
   clear hrm
   cases hst : S1 tg
   rotate_left
   ·
    rw [hst] at hVt
    have hW2 := hW.skip HA.out (.inr hst)
    have HW2 := Lib.hid hW2
    clear hW2 hst
    go_wp2_with fail
    refine ⟨⟨⟨i + 1, by omega, ⟨⟨S1, HW2.out, hmo, hM2, hV2, hB2, hf2⟩⟩, exFrame (by kernel_rfl)⟩⟩, ?_⟩
    show len - (intOf (.int .i64 ((i : Int) + 1))).toNat < len - (intOf (.int .i64 (i : Int))).toNat
    simp [intOf]
    omega
   ·
    rw [hst] at hVt
    have HST := Lib.hid hst
    clear hst
    go_upto_region 9 with fail
    refine wp_region_ext_mix 8 [(false, 0), (false, 1), (false, 2), (false, 3), (false, 4), (false, 5), (true, 6), (true, 7)] (by kernel_rfl) (by kernel_rfl) (by intro d _ _ _ _ h; cases d <;> exact h) ?_
    have D2 := (Below.refl V2.heap.size V2).drew
    repeat (refine mix_quiet rfl ?_; go_big_quiet_step (fail); refine wpQuiet_nil ?_)
    obtain ⟨Y, hY⟩ : ∃ Y, V2.drew = Y := ⟨_, rfl⟩
    rw [hY] at D2 ⊢
    clear hY
    refine mix_loud rfl ?_
    have X3 := ex_trans D2 (ex_alloc (Below.refl Y.heap.size Y) (.cells #[.int .i64 grams, .int .i64 room] 3))
    have nb : Blk (Y.alloc (.cells #[.int .i64 grams, .int .i64 room] 3)) Y.heap.size 3 #[.int .i64 grams, .int .i64 room] := Blk.new _ _ _
    go_wp2_with fail
    generalize Y.alloc (.cells #[.int .i64 grams, .int .i64 room] 3) = V3 at *
    refine ⟨inEx X3, ?_⟩
    refine mix_loud rfl ?_
    go_wp2_with fail
    refine (least2 Y.heap.size 2 grams room V3 (nb.cell 0) (nb.cell 1)).mono ?_
    rintro e w' ⟨rfl, rfl⟩
    go_wp2_with fail
    refine ⟨inEx X3, ?_⟩
    have hM3 := hM2.below X3
    have hV3 := hV2.below X3
    have hB3 := hB2.below X3
    have hf3 := wkTrans hf2 (Fr.below X3)
    replace qa := qa.below X3 qa.lt
    clear nb hM2 hV2 hB2 hf2 hVt qa0 qa1 qa2 qal hVl
    clear bt bs_ bn bw lt lS ln lw
    refine mix_nil (r := [_, _]) rfl ?_
    go_wp2_with fail
    refine (HIH.out es S1 tg (min grams room) V3 (HN.out S1 hmo) ho hcap hel hto.1 HST.out hW.aim (by omega) (by omega) hB3 hM3 hV3).mono ?_
    rintro e V4 ⟨got, rfl, ⟨es', S2, hw, hM4, hV4, hfr⟩⟩
    have hB4 := hB3.fr hM3 hV3 hfr
    have hf4 := wkTrans hf3 hfr
    replace qa := qa.fr hfr hnA
    have hbd := hw.bd
    clear hB3 hM3 hV3 hf3 hfr
    by_cases hgp : 0 < got
    rotate_left
    ·
     obtain rfl : got = 0 := by omega
     obtain ⟨hW2, rfl⟩ := hW.fail HA.out hw
     have hmo2 : ∀ y, y < N → (fun y => if y = x then true else S y) y = true → S2 y = true := fun y hy h => hw.mono y (hmo y hy h)
     have HW2 := Lib.hid hW2
     clear hW2 hw
     have hng : ¬ ((0 : Int) > 0) := by omega
     go_wp2_with fail
     refine ⟨⟨⟨i + 1, by omega, ⟨⟨S2, HW2.out, hmo2, hM4, hV4, hB4, hf4⟩⟩, exFrame (by kernel_rfl)⟩⟩, ?_⟩
     show len - (intOf (.int .i64 ((i : Int) + 1))).toNat < len - (intOf (.int .i64 (i : Int))).toNat
     simp [intOf]
     omega
    obtain ⟨k, ed, sg, hA, ha4, hwi⟩ := hW.found ho hSx HA.out HST.out ⟨Int.min_le_left grams room, Int.min_le_right grams room⟩ hw hgp
    have HGP := Lib.hid hgp
    have hgp' : (got > 0) = True := by simp; exact hgp
    have ho4 := ho.shape hw.shape hw.cap
    obtain ⟨m1, ⟨b, hb4, m2⟩, m3⟩ := hA.more got
    simp only at m1 m2 m3 hb4
    obtain ⟨btg, brm, bbk⟩ := b
    simp only at m2
    have hbt := arc_lt ho4 hb4
    have hbl := arc_le ho4 (cap_shape hw.shape hcap) hb4
    simp only at hbt hbl
    have w1 : IntKind.i64.wrap (room - got) = room - got := IntWalk.i64_in _ (by omega)
    have w2 : IntKind.i64.wrap (brm + got) = brm + got := IntWalk.i64_in _ (by omega)
    obtain ⟨hz, hz2, hz3, hgxl, r0, r1, r2, rf⟩ := arc_at hM4 hx ha4 HGX.out
    clear hz hz2 hz3
    simp only at r0 r1 r2
    obtain ⟨go4, co4, hvo4, _, hgl, _, hcs4, _, _⟩ := hM4.outer (by omega)
    have hgo : go4 = go2 ∧ co4 = co2 := by rw [HVO.out] at hvo4; injection hvo4 with e1 _ e2; injection e1 with e1; injection e1 with e1 _; exact ⟨e1.symm, e2.symm⟩
    obtain ⟨rfl, rfl⟩ := hgo
    have hcx : V4.cell? ⟨go4, x, none⟩ = some (.slice (some ⟨gx, 0, none⟩) len capx) := HGX.out ▸ hcs4 x hx
    have hq1 : V4.cell? ⟨q, 1, none⟩ = some (.slice (some ⟨go4, 0, none⟩) N co4) := HVO.out ▸ hM4.blk.cell 1
    have lq := hM4.blk.lt
    clear hcs4 hvo4
    have bt : V4.cell? ⟨pt, 0, none⟩ = some (.int .i64 (t : Int)) := hB4.t.cell 0
    have bs_ : V4.cell? ⟨ps, 0, none⟩ = some (.slice (some ⟨bs, 0, none⟩) N cs) := hB4.s.cell 0
    have bn : V4.cell? ⟨pn, 0, none⟩ = some (.pointer (some ⟨q, 0, none⟩)) := hB4.n.cell 0
    have bw : V4.cell? ⟨pw, 0, none⟩ = some (.func (.func 128) #[] #[.pointer (some ⟨pt, 0, none⟩), .pointer (some ⟨ps, 0, none⟩), .pointer (some ⟨pn, 0, none⟩), .pointer (some ⟨pw, 0, none⟩)]) := hB4.w.cell 0
    have lt := hB4.t.lt
    have lS := hB4.s.lt
    have ln := hB4.n.lt
    have lw := hB4.w.lt
    have qa0 : V4.cell? ⟨pa, 0, none⟩ = some (.int .i64 (tg : Int)) := qa.cell 0
    have qa1 : V4.cell? ⟨pa, 1, none⟩ = some (.int .i64 room) := qa.cell 1
    have qa2 : V4.cell? ⟨pa, 2, none⟩ = some (.int .i64 (back : Int)) := qa.cell 2
    have qal := qa.lt
    have hF5 : Fr (WkR vals N bs) V4 (V4.setCell ⟨gx, i * 3 + 1, none⟩ (.int .i64 (room - got))) := Fr.set V4 gx _ _ (.inr ⟨x, hx, by rw [HGX.out]; rfl⟩)
    have hM5 := room_at hM4 hx ha4 HGX.out (room - got)
    have hB5 := hB4.fr hM4 hV4 hF5
    have hbx := hM4.bsNe hV4 hx HGX.out
    have hV5 := hV4.fr (Fr.set (R := fun b => b = gx) V4 gx (i * 3 + 1) (.int .i64 (room - got)) rfl) (by omega)
    have hf5 := wkTrans hf4 hF5
    have qa5 := qa.fr hF5 hnA
    have HM5 := Lib.hid hM5
    have HB5 := Lib.hid hB5
    have HV5 := Lib.hid hV5
    have HF5 := Lib.hid hf5
    have HQ5 := Lib.hid qa5
    have HM1 := Lib.hid m1
    have HM2 := Lib.hid m2
    have HM3 := Lib.hid m3
    have HWI := Lib.hid hwi
    have HB4 := Lib.hid hb4
    clear hM5 hB5 hV5 hf5 qa5 hM4 hV4 hB4 hf4 hF5 m1 m2 m3 hwi hb4 ha4 hw hA qa hbx
    go_upto_region 12 with fail
    clear bt bs_ bn bw lt lS ln lw
    clear qa0 qa1 qa2 qal r0 r1 r2 rf hcx hq1 lq hgl hgxl
    have hM5 := HM5.out
    have hB5 := HB5.out
    have hV5 := HV5.out
    have hf5 := HF5.out
    have qa := HQ5.out
    clear HM5 HB5 HV5 HF5 HQ5
    generalize V4.setCell ⟨gx, i * 3 + 1, none⟩ (.int .i64 (room - got)) = V5 at *
    have hRt : setR (rowE es') x ((rowE es' x).set i ⟨tg, room - got, back⟩) tg = rowE es' tg := by unfold setR; rw [if_neg hto.2.1]
    have hb5 : (setR (rowE es') x ((rowE es' x).set i ⟨tg, room - got, back⟩) tg)[back]? = some ⟨btg, brm, bbk⟩ := by rw [hRt]; exact HB4.out
    obtain ⟨hbk, hbk2⟩ := List.getElem?_eq_some_iff.1 hb5
    clear hbk2
    obtain ⟨gt, capt, hgt, hz⟩ := arc_row hM5 hto.1 hbk
    obtain ⟨nt, hnt⟩ : ∃ nt, (setR (rowE es') x ((rowE es' x).set i ⟨tg, room - got, back⟩) tg).length = nt := ⟨_, rfl⟩
    clear hz
    rw [hnt] at hgt hbk
    have HGT := Lib.hid hgt
    obtain ⟨hz, hz2, hz3, hgtl, r0, r1, r2, rf⟩ := arc_at hM5 hto.1 hb5 hgt
    clear hz hz2 hz3
    simp only at r0 r1 r2
    clear hnt
    obtain ⟨go5, co5, hvo5, _, hgl, _, hcs5, _, _⟩ := hM5.outer (by omega)
    have hgo : go5 = go4 ∧ co5 = co4 := by rw [HVO.out] at hvo5; injection hvo5 with e1 _ e2; injection e1 with e1; injection e1 with e1 _; exact ⟨e1.symm, e2.symm⟩
    obtain ⟨rfl, rfl⟩ := hgo
    have hcx : V5.cell? ⟨go5, tg, none⟩ = some (.slice (some ⟨gt, 0, none⟩) nt capt) := hgt ▸ hcs5 tg hto.1
    have hq1 : V5.cell? ⟨q, 1, none⟩ = some (.slice (some ⟨go5, 0, none⟩) N co5) := HVO.out ▸ hM5.blk.cell 1
    have lq := hM5.blk.lt
    clear hcs5 hvo5 hgt
    have bt : V5.cell? ⟨pt, 0, none⟩ = some (.int .i64 (t : Int)) := hB5.t.cell 0
    have bs_ : V5.cell? ⟨ps, 0, none⟩ = some (.slice (some ⟨bs, 0, none⟩) N cs) := hB5.s.cell 0
    have bn : V5.cell? ⟨pn, 0, none⟩ = some (.pointer (some ⟨q, 0, none⟩)) := hB5.n.cell 0
    have bw : V5.cell? ⟨pw, 0, none⟩ = some (.func (.func 128) #[] #[.pointer (some ⟨pt, 0, none⟩), .pointer (some ⟨ps, 0, none⟩), .pointer (some ⟨pn, 0, none⟩), .pointer (some ⟨pw, 0, none⟩)]) := hB5.w.cell 0
    have lt := hB5.t.lt
    have lS := hB5.s.lt
    have ln := hB5.n.lt
    have lw := hB5.w.lt
    have qa0 : V5.cell? ⟨pa, 0, none⟩ = some (.int .i64 (tg : Int)) := qa.cell 0
    have qa1 : V5.cell? ⟨pa, 1, none⟩ = some (.int .i64 room) := qa.cell 1
    have qa2 : V5.cell? ⟨pa, 2, none⟩ = some (.int .i64 (back : Int)) := qa.cell 2
    have qal := qa.lt
    refine wp_region_ext_mix 17 [(false, 0), (false, 1), (false, 2), (false, 3), (false, 4), (false, 5), (false, 6), (false, 7), (false, 8), (false, 9), (false, 10), (false, 11), (false, 12), (false, 13), (false, 14), (false, 15), (false, 16)] (by kernel_rfl) (by kernel_rfl) (by intro d _ _ _ _ h; cases d <;> exact h) ?_
    have D6 := (Below.refl V5.heap.size V5).drew
    repeat (refine mix_quiet rfl ?_; go_big_quiet_step (fail); refine wpQuiet_nil ?_)
    have hM6 := hM5.below D6
    have hV6 := hV5.below D6
    have hf6 := wkTrans hf5 (Fr.below D6)
    have hb6 : V5.drew.heap.size = V5.heap.size := rfl
    have g1 : V5.drew.cell? ⟨gt, back * 3 + 1, none⟩ = some (.int .i64 brm) := r1
    have g2 : ∀ j, V5.drew.frozen? ⟨gt, j, none⟩ = false := rf
    clear bt bs_ bn bw lt lS ln lw
    clear qa0 qa1 qa2 qal r0 r1 r2 rf hcx hq1 lq hgl D6 qa
    generalize V5.drew = V6 at *
    have hM7 := room_at hM6 hto.1 hb5 HGT.out (brm + got)
    have hbx := hM6.bsNe hV6 hto.1 HGT.out
    have hV7 := hV6.fr (Fr.set (R := fun b => b = gt) V6 gt (back * 3 + 1) (.int .i64 (brm + got)) rfl) (by omega)
    have hf7 := wkTrans hf6 (Fr.set (R := WkR vals N bs) V6 gt (back * 3 + 1) (.int .i64 (brm + got)) (.inr ⟨tg, hto.1, by rw [HGT.out]; rfl⟩))
    simp only at hM7
    have hRR : setR (setR (rowE es') x ((rowE es' x).set i ⟨tg, room - got, back⟩)) tg ((setR (rowE es') x ((rowE es' x).set i ⟨tg, room - got, back⟩) tg).set back ⟨btg, brm + got, bbk⟩) = rowE (es'.set k ⟨ed.u, ed.v, ed.cap, ed.fl + sg * got⟩) := by
     rw [hRt]
     funext y
     unfold setR
     by_cases e1 : y = tg
     ·
      subst e1; rw [if_pos rfl]; exact HM2.out.symm
     ·
      rw [if_neg e1]
      by_cases e2 : y = x
      ·
       subst e2; rw [if_pos rfl]; exact HM1.out.symm
      ·
       rw [if_neg e2]; exact (HM3.out y e2 e1).symm
    rw [hRR] at hM7
    have HP : Hid (WkPost W (V6.setCell ⟨gt, back * 3 + 1, none⟩ (.int .i64 (brm + got))) base q mb N t bs sp vo vals es S x grams got) := Lib.hid ⟨_, S2, HWI.out, hM7, hV7, hf7⟩
    have g3 : gt < V6.heap.size := by omega
    clear hM7 hV7 hf7 hRR hM6 hV6 hf6 hM5 hV5 hf5 hB5 hRt hb5
    refine mix_nil (r := [_]) rfl ?_
    go_wp2
    go_ret
    exact ⟨got, rfl, HP.out⟩
  ·
   have hil : i = len := by omega
   have hdone : WalkIs N es es S S1 x t grams 0 := WkLoop.done ho (by omega) (by rw [HLEN.out]; exact hil ▸ hW)
   have HP : WkPost W V base q mb N t bs sp vo vals es S x grams 0 := ⟨es, S1, hdone, hM, hV, hf⟩
   have HP2 := Lib.hid HP
   have hnl : ¬ ((i : Int) < (len : Int)) := by omega
   clear HP hdone hil hlt
   go_wp2
   go_ret
   exact ⟨0, rfl, HP2.out⟩
end Go.Proofs.Ythihdiilokdidaa
end

section
namespace Go.Proofs.Ythihdiilokdidaa
open Go.RowKit
attribute [local go_sem] Ex.cell? Ex.frozen? run_store_func

theorem bool_info : (Try.prog.info? 4).map (fun i => (i.zero, i.size, i.bytes)) = some (some (.bool false), 1, 1) := by kernel_rfl
theorem run_seen (N : Nat) (hN : N ≤ 1000) : ∃ oc : Array Value, (oc.size = N ∧ ∀ k, k < N → oc[k]? = some (.bool false)) ∧ ∀ W : World, (Instr.makeSlice 208 (.int .i64 (N : Int)) (.int .i64 (N : Int))).run Try.prog W = .ok (.slice (some ⟨W.heap.size, 0, none⟩) N N) (W.alloc (.cells oc 4)) := by
 obtain ⟨i0, hi0, hz0, hz1, hz2⟩ := info_parts bool_info
 refine ⟨madeCells #[.bool false] N, ⟨size_madeCells _ _, fun k hk => ?_⟩, fun W => ?_⟩
 ·
  simp [madeCells, hk, Nat.mod_one]
 ·
  have := run_makeSlice (P := Try.prog) (w := W) 208 4 i0 _ Try.underlying208 hi0 hz0 .i64 .i64 (N : Int) (N : Int) (by omega) (by omega) (by rw [hz1]; omega) (by rw [hz2]; omega) (by omega)
  rw [hz1, show (Value.bool false).cells = #[Value.bool false] from rfl] at this
  simpa using this
structure PuPost (W W' : World) (base q mb N f t : Nat) (sp : List Spot) (vo : Value) (vals : List Value) (es : List Ed) (got : Int) : Prop where
 out : ∃ es' S', WalkIs N es es' (fun _ => false) S' f t 1048576 got ∧ NetM W' base q mb sp N (rowE es') vo vals ∧ NetFr base mb W W'
theorem NetFr.ofWk {W V V' : World} {base q mb bs N : Nat} {sp : List Spot} {R : Nat → List Ar} {vo : Value} {vals : List Value} (h : NetM V base q mb sp N R vo vals) (hb : Below W.heap.size W V) (hbs : W.heap.size ≤ bs) (hbase : base ≤ W.heap.size) (hm : NetM W base q mb sp N R vo vals) (hf : Fr (WkR vals N bs) V V') : NetFr base mb W V' := by
 refine ⟨hf.os.trans hb.os, hf.tape.trans hb.tape, hf.output.trans hb.output, Nat.le_trans hb.size hf.size, fun k hk hs => ?_, fun k o ho _ hn => ?_⟩
 ·
  refine (hf.block k (Nat.lt_of_lt_of_le hs hb.size) ?_).trans (hb.block k hs)
  rintro (e | ⟨i, hi, e⟩)
  ·
   omega
  ·
   have := own_ge (h.rows i hi) e; omega
 ·
  have hs := (Array.getElem?_eq_some_iff.1 ho).1
  refine ((hf.block k (Nat.lt_of_lt_of_le hs hb.size) ?_).trans (hb.block k hs)).trans ho
  rintro (e | ⟨i, hi, e⟩)
  ·
   omega
  ·
   rcases (hm.rows i hi).2 with ⟨e2, _⟩ | ⟨g, cap, cur, e2, _, hh, _⟩
   ·
    rw [e2] at e; simp [Value.ownBlock] at e
   ·
    rw [e2] at e
    have : g = k := by simpa [Value.ownBlock] using e
    subst this
    rw [hh] at ho; cases ho
    exact hn ⟨_, _, _, rfl, .inl rfl⟩
set_option maxRecDepth 100000 in
set_option maxHeartbeats 6400000 in
theorem push_any (base q mb N f t : Nat) (sp : List Spot) (vo : Value) (vals : List Value) (es : List Ed) (C : Int) (hC : 0 ≤ C ∧ C ≤ 1099511627776) (w : World) (hn : NetM w base q mb sp N (rowE es) vo vals) (hf : f < N) (ht : t < N) (hN : N ≤ 1000) (ho : EdsOk N es) (hcap : ∀ e ∈ es, e.cap ≤ C) (hel : es.length ≤ 1000) :
  Calls Try.prog 111 #[.pointer (some ⟨q, 0, none⟩), .int .i64 (f : Int), .int .i64 (t : Int)] w fun e w' => ∃ got, e = .returned (.int .i64 got) ∧ PuPost w w' base q mb N f t sp vo vals es got := by
 obtain ⟨go, co, hvo, hbg, hglw, hco, _, _, _⟩ := hn.outer (by omega)
 have HVO := Lib.hid hvo
 obtain ⟨oc, ⟨hos, hoc⟩, hmk⟩ := run_seen N hN
 have HOC := Lib.hid hoc
 have HOS := Lib.hid hos
 have hbase : base ≤ w.heap.size := by have := hn.qb.1; have := hn.blk.lt; omega
 have hq1 : w.cell? ⟨q, 1, none⟩ = some (.slice (some ⟨go, 0, none⟩) N co) := hvo ▸ hn.blk.cell 1
 have lq := hn.blk.lt
 clear hvo hoc hos
 have hb5 := ex_alloc (ex_alloc (ex_alloc (ex_alloc (ex_alloc (Below.refl w.heap.size w) (.cells #[.pointer (some ⟨q, 0, none⟩)] 181)) (.cells #[.int .i64 (t : Int)] 3)) (.cells oc 4)) (.cells #[.slice (some ⟨w.heap.size + 1 + 1, 0, none⟩) N N] 208)) (.cells #[.func (.func 128) #[] #[.pointer (some ⟨w.heap.size + 1, 0, none⟩), .pointer (some ⟨w.heap.size + 1 + 1 + 1, 0, none⟩), .pointer (some ⟨w.heap.size, 0, none⟩), .pointer (some ⟨w.heap.size + 1 + 1 + 1 + 1, 0, none⟩)]] 194)
 have q0 : Blk (((((w.alloc (.cells #[.pointer (some ⟨q, 0, none⟩)] 181)).alloc (.cells #[.int .i64 (t : Int)] 3)).alloc (.cells oc 4)).alloc (.cells #[.slice (some ⟨w.heap.size + 1 + 1, 0, none⟩) N N] 208)).alloc (.cells #[.func (.func 128) #[] #[.pointer (some ⟨w.heap.size + 1, 0, none⟩), .pointer (some ⟨w.heap.size + 1 + 1 + 1, 0, none⟩), .pointer (some ⟨w.heap.size, 0, none⟩), .pointer (some ⟨w.heap.size + 1 + 1 + 1 + 1, 0, none⟩)]] 194)) (w.heap.size) 181 #[.pointer (some ⟨q, 0, none⟩)] := ((((Blk.new' _ _ _ (by simp)).alloc _).alloc _).alloc _).alloc _
 have q1 : Blk (((((w.alloc (.cells #[.pointer (some ⟨q, 0, none⟩)] 181)).alloc (.cells #[.int .i64 (t : Int)] 3)).alloc (.cells oc 4)).alloc (.cells #[.slice (some ⟨w.heap.size + 1 + 1, 0, none⟩) N N] 208)).alloc (.cells #[.func (.func 128) #[] #[.pointer (some ⟨w.heap.size + 1, 0, none⟩), .pointer (some ⟨w.heap.size + 1 + 1 + 1, 0, none⟩), .pointer (some ⟨w.heap.size, 0, none⟩), .pointer (some ⟨w.heap.size + 1 + 1 + 1 + 1, 0, none⟩)]] 194)) (w.heap.size + 1) 3 #[.int .i64 (t : Int)] := (((Blk.new' _ _ _ (by simp)).alloc _).alloc _).alloc _
 have q3 : Blk (((((w.alloc (.cells #[.pointer (some ⟨q, 0, none⟩)] 181)).alloc (.cells #[.int .i64 (t : Int)] 3)).alloc (.cells oc 4)).alloc (.cells #[.slice (some ⟨w.heap.size + 1 + 1, 0, none⟩) N N] 208)).alloc (.cells #[.func (.func 128) #[] #[.pointer (some ⟨w.heap.size + 1, 0, none⟩), .pointer (some ⟨w.heap.size + 1 + 1 + 1, 0, none⟩), .pointer (some ⟨w.heap.size, 0, none⟩), .pointer (some ⟨w.heap.size + 1 + 1 + 1 + 1, 0, none⟩)]] 194)) (w.heap.size + 1 + 1 + 1) 208 #[.slice (some ⟨w.heap.size + 1 + 1, 0, none⟩) N N] := (Blk.new' _ _ _ (by simp)).alloc _
 have q4 : Blk (((((w.alloc (.cells #[.pointer (some ⟨q, 0, none⟩)] 181)).alloc (.cells #[.int .i64 (t : Int)] 3)).alloc (.cells oc 4)).alloc (.cells #[.slice (some ⟨w.heap.size + 1 + 1, 0, none⟩) N N] 208)).alloc (.cells #[.func (.func 128) #[] #[.pointer (some ⟨w.heap.size + 1, 0, none⟩), .pointer (some ⟨w.heap.size + 1 + 1 + 1, 0, none⟩), .pointer (some ⟨w.heap.size, 0, none⟩), .pointer (some ⟨w.heap.size + 1 + 1 + 1 + 1, 0, none⟩)]] 194)) (w.heap.size + 1 + 1 + 1 + 1) 194 #[.func (.func 128) #[] #[.pointer (some ⟨w.heap.size + 1, 0, none⟩), .pointer (some ⟨w.heap.size + 1 + 1 + 1, 0, none⟩), .pointer (some ⟨w.heap.size, 0, none⟩), .pointer (some ⟨w.heap.size + 1 + 1 + 1 + 1, 0, none⟩)]] := Blk.new' _ _ _ (by simp)
 have qv : VArr (((((w.alloc (.cells #[.pointer (some ⟨q, 0, none⟩)] 181)).alloc (.cells #[.int .i64 (t : Int)] 3)).alloc (.cells oc 4)).alloc (.cells #[.slice (some ⟨w.heap.size + 1 + 1, 0, none⟩) N N] 208)).alloc (.cells #[.func (.func 128) #[] #[.pointer (some ⟨w.heap.size + 1, 0, none⟩), .pointer (some ⟨w.heap.size + 1 + 1 + 1, 0, none⟩), .pointer (some ⟨w.heap.size, 0, none⟩), .pointer (some ⟨w.heap.size + 1 + 1 + 1 + 1, 0, none⟩)]] 194)) (w.heap.size + 1 + 1) 4 N (fun _ => .bool false) := VArr.of (((Blk.new' _ _ oc (by simp)).alloc _).alloc _) HOS.out HOC.out
 have hn5 := hn.below hb5
 go_enter Try.func111, Try.ntmps111
 go_upto_region 4 with fail
 show Code.wp _ _ _ _ (((((w.alloc (.cells #[.pointer (some ⟨q, 0, none⟩)] 181)).alloc (.cells #[.int .i64 (t : Int)] 3)).alloc (.cells oc 4)).alloc (.cells #[.slice (some ⟨w.heap.size + 1 + 1, 0, none⟩) N N] 208)).alloc (.cells #[.func (.func 128) #[] #[.pointer (some ⟨w.heap.size + 1, 0, none⟩), .pointer (some ⟨w.heap.size + 1 + 1 + 1, 0, none⟩), .pointer (some ⟨w.heap.size, 0, none⟩), .pointer (some ⟨w.heap.size + 1 + 1 + 1 + 1, 0, none⟩)]] 194))
 generalize ((((w.alloc (.cells #[.pointer (some ⟨q, 0, none⟩)] 181)).alloc (.cells #[.int .i64 (t : Int)] 3)).alloc (.cells oc 4)).alloc (.cells #[.slice (some ⟨w.heap.size + 1 + 1, 0, none⟩) N N] 208)).alloc (.cells #[.func (.func 128) #[] #[.pointer (some ⟨w.heap.size + 1, 0, none⟩), .pointer (some ⟨w.heap.size + 1 + 1 + 1, 0, none⟩), .pointer (some ⟨w.heap.size, 0, none⟩), .pointer (some ⟨w.heap.size + 1 + 1 + 1 + 1, 0, none⟩)]] 194) = V at *
 obtain ⟨pn, hpn⟩ : ∃ p, w.heap.size = p := ⟨_, rfl⟩
 have hpw : w.heap.size ≤ pn := by omega
 rw [hpn] at q0 q1 q3 q4 qv ⊢
 obtain ⟨pt, hpt⟩ : ∃ p, pn + 1 = p := ⟨_, rfl⟩
 obtain ⟨bs, hbs⟩ : ∃ p, pn + 1 + 1 = p := ⟨_, rfl⟩
 obtain ⟨ps, hps⟩ : ∃ p, pn + 1 + 1 + 1 = p := ⟨_, rfl⟩
 obtain ⟨pw, hpw2⟩ : ∃ p, pn + 1 + 1 + 1 + 1 = p := ⟨_, rfl⟩
 rw [hpw2, hps, hpt] at q4
 rw [hps, hbs] at q3
 rw [hbs] at qv
 rw [hpt] at q1
 rw [hpw2, hps, hbs, hpt]
 have hbsw : w.heap.size ≤ bs := by omega
 have hbb : base ≤ bs := by omega
 have hB : Bx V pt ps pn pw t bs N N q := ⟨q1, q3, q0, q4⟩
 have bw : V.cell? ⟨pw, 0, none⟩ = some (.func (.func 128) #[] #[.pointer (some ⟨pt, 0, none⟩), .pointer (some ⟨ps, 0, none⟩), .pointer (some ⟨pn, 0, none⟩), .pointer (some ⟨pw, 0, none⟩)]) := q4.cell 0
 have lw := q4.lt
 clear hpn hpt hbs hps hpw2 hq1 lq hmk q0 q1 q3 q4
 go_wp2_with fail
 refine (walk_any base q mb N t bs N pt ps pn pw sp vo vals C hC ht hbb hN (seenCnt (fun _ => false) N + 1) es (fun _ => false) f 1048576 V (by omega) ho hcap hel hf rfl rfl (by omega) (by omega) hB hn5 qv).mono ?_
 rintro e V2 ⟨got, rfl, ⟨es', S2, hw, hM, hV, hfr⟩⟩
 have HP : Hid (PuPost w V2 base q mb N f t sp vo vals es got) := Lib.hid ⟨es', S2, hw, hM, NetFr.ofWk hn5 hb5 hbsw hbase hn hfr⟩
 clear hw hM hV hfr
 go_wp2
 go_ret
 exact ⟨got, rfl, HP.out⟩
end Go.Proofs.Ythihdiilokdidaa
end

section
namespace Go.Proofs.Ythihdiilokdidaa
open Go.RowKit
attribute [local go_sem] Ex.cell? Ex.frozen?

def offC (o : Nat → Bool) : Array Value := #[.bool (o 0), .bool (o 1), .bool (o 2), .bool (o 3), .bool (o 4), .bool (o 5), .bool (o 6), .bool (o 7)]
theorem offC_at (o : Nat → Bool) {i : Nat} (h : i < 8) : (offC o)[i]? = some (.bool (o i)) := by
 match i, h with
 | 0, _ => rfl
 | 1, _ => rfl
 | 2, _ => rfl
 | 3, _ => rfl
 | 4, _ => rfl
 | 5, _ => rfl
 | 6, _ => rfl
 | 7, _ => rfl
def StKn (F : Spot → Option Rg) (st : Sts) (D k j : Nat) : Prop := ∀ r d : Nat, d < D → (r < k ∨ (r = k ∧ d < j)) → F ((r : Int), (d : Int)) = some (st r d)
def StAll (F : Spot → Option Rg) (st : Sts) (R D : Nat) : Prop := ∀ r d : Nat, r < R → d < D → F ((r : Int), (d : Int)) = some (st r d)
theorem StKn.put {F : Spot → Option Rg} {st : Sts} {D k j : Nat} (h : StKn F st D k j) {v : Rg} (hv : v = st k j) : StKn (fun x => if x = ((k : Int), (j : Int)) then some v else F x) st D k (j + 1) := fun r d hd hr => by
 show (if ((r : Int), (d : Int)) = ((k : Int), (j : Int)) then some v else F ((r : Int), (d : Int))) = _
 by_cases e : r = k ∧ d = j
 ·
  obtain ⟨rfl, rfl⟩ := e
  rw [if_pos rfl, hv]
 ·
  rw [if_neg (by simp only [Prod.mk.injEq]; omega)]
  exact h r d hd (by omega)
theorem StKn.next {F : Spot → Option Rg} {st : Sts} {D k : Nat} (h : StKn F st D k D) : StKn F st D (k + 1) 0 := fun r d hd hr => h r d hd (by omega)
theorem StKn.all {F : Spot → Option Rg} {st : Sts} {D R : Nat} (h : StKn F st D R 0) : StAll F st R D := fun r d hr hd => h r d hd (.inl hr)
theorem StAll.narrow {F : Spot → Option Rg} {st : Sts} {R D r d : Nat} (h : StAll F st R D) (hr : r < R) (hd : d < D) (g : Rg) : StAll (fun x => if x = ((r : Int), (d : Int)) then some ⟨max (st r d).lo g.lo, min (st r d).hi g.hi⟩ else F x) (narrowS st r d g) R D := fun r' d' hr' hd' => by
 show (if ((r' : Int), (d' : Int)) = ((r : Int), (d : Int)) then some (⟨max (st r d).lo g.lo, min (st r d).hi g.hi⟩ : Rg) else F ((r' : Int), (d' : Int))) = some (narrowS st r d g r' d')
 unfold narrowS
 by_cases e : r' = r ∧ d' = d
 ·
  obtain ⟨rfl, rfl⟩ := e
  rw [if_pos rfl, if_pos ⟨rfl, rfl⟩]
 ·
  rw [if_neg (by simp only [Prod.mk.injEq]; omega), if_neg e]
  exact h r' d' hr' hd'
set_option maxRecDepth 100000 in
set_option maxHeartbeats 6400000 in
theorem yard_any (s : Ws) (Ar Am Aw : Option Addr) (cr cm cw : Nat) (w : World) (hs : WsIn w w.heap.size s Ar Am Aw) (hw : WoOk s.wo) (hd : s.days = (s.wo.days : Int)) (o : Nat → Bool) :
  Calls Try.prog 80 #[.agg #[.slice Ar s.rooms.length cr, .int .i64 s.days, .slice Am s.moves.length cm, .slice Aw s.wgs.length cw], .agg (offC o)] w fun e w' => (∃ m, e = .returned (.agg #[.slice Ar s.rooms.length cr, .int .i64 s.days, .slice Am s.moves.length cm, .slice Aw s.wgs.length cw, .map (some (m))]) ∧ w.heap.size ≤ m ∧ ∃ F, StMp w' m F ∧ StAll F (stW s.wgs o s.wgs.length) s.rooms.length s.wo.days) ∧ Below w.heap.size w w' := by
 have hR := (WoOk.sm hw).rooms
 have hlen := hw.len
 have hdays := hw.days
 have hwg := hw.wgs
 have hr0 : s.wo.rooms.length = s.rooms.length := rfl
 have hw0 : s.wo.wgs.length = s.wgs.length := rfl
 have hw1 : s.wo.wgs = s.wgs := rfl
 rw [hr0] at hlen hwg
 rw [hw0] at hlen hwg
 rw [hw1] at hwg
 clear hr0 hw0 hw1
 obtain ⟨D, hD⟩ : ∃ D, s.wo.days = D := ⟨_, rfl⟩
 rw [hD] at hd hdays hwg ⊢
 have HD := Lib.hid hd
 rw [hd]
 clear hd hD
 have hb5 := ex_alloc (ex_alloc (ex_alloc (ex_alloc (ex_alloc (Below.refl w.heap.size w) (.cells #[.slice Ar s.rooms.length cr, .int .i64 (D : Int), .slice Am s.moves.length cm, .slice Aw s.wgs.length cw] 42)) (.cells (offC o) 156)) (.cells #[.slice none 0 0, .int .i64 0, .slice none 0 0, .slice none 0 0, .map none] 153)) (.map #[] 0)) (.cells #[.slice Ar s.rooms.length cr, .int .i64 (D : Int), .slice Am s.moves.length cm, .slice Aw s.wgs.length cw, .map (some (w.heap.size + 1 + 1 + 1))] 153)
 have hmk := @run_makeMap Try.prog
 have hoff : Value.agg (offC o) = .agg #[.bool (o 0), .bool (o 1), .bool (o 2), .bool (o 3), .bool (o 4), .bool (o 5), .bool (o 6), .bool (o 7)] := rfl
 rw [hoff]
 go_enter Try.func80, Try.ntmps80
 go_wp2_with fail
 show Code.wp _ _ _ _ (((((w.alloc (.cells #[.slice Ar s.rooms.length cr, .int .i64 (D : Int), .slice Am s.moves.length cm, .slice Aw s.wgs.length cw] 42)).alloc (.cells (offC o) 156)).alloc (.cells #[.slice none 0 0, .int .i64 0, .slice none 0 0, .slice none 0 0, .map none] 153)).alloc (.map #[] 0)).alloc (.cells #[.slice Ar s.rooms.length cr, .int .i64 (D : Int), .slice Am s.moves.length cm, .slice Aw s.wgs.length cw, .map (some (w.heap.size + 1 + 1 + 1))] 153))
 have q0 : Blk (((((w.alloc (.cells #[.slice Ar s.rooms.length cr, .int .i64 (D : Int), .slice Am s.moves.length cm, .slice Aw s.wgs.length cw] 42)).alloc (.cells (offC o) 156)).alloc (.cells #[.slice none 0 0, .int .i64 0, .slice none 0 0, .slice none 0 0, .map none] 153)).alloc (.map #[] 0)).alloc (.cells #[.slice Ar s.rooms.length cr, .int .i64 (D : Int), .slice Am s.moves.length cm, .slice Aw s.wgs.length cw, .map (some (w.heap.size + 1 + 1 + 1))] 153)) w.heap.size 42 #[.slice Ar s.rooms.length cr, .int .i64 (D : Int), .slice Am s.moves.length cm, .slice Aw s.wgs.length cw] := ((((Blk.new _ _ _).alloc _).alloc _).alloc _).alloc _
 have q1 : VArr (((((w.alloc (.cells #[.slice Ar s.rooms.length cr, .int .i64 (D : Int), .slice Am s.moves.length cm, .slice Aw s.wgs.length cw] 42)).alloc (.cells (offC o) 156)).alloc (.cells #[.slice none 0 0, .int .i64 0, .slice none 0 0, .slice none 0 0, .map none] 153)).alloc (.map #[] 0)).alloc (.cells #[.slice Ar s.rooms.length cr, .int .i64 (D : Int), .slice Am s.moves.length cm, .slice Aw s.wgs.length cw, .map (some (w.heap.size + 1 + 1 + 1))] 153)) (w.heap.size + 1) 156 8 (fun i => .bool (o i)) := VArr.of ((((Blk.new' _ _ (offC o) (by simp)).alloc _).alloc _).alloc _) rfl (fun i hi => offC_at o hi)
 have q2 : Blk (((((w.alloc (.cells #[.slice Ar s.rooms.length cr, .int .i64 (D : Int), .slice Am s.moves.length cm, .slice Aw s.wgs.length cw] 42)).alloc (.cells (offC o) 156)).alloc (.cells #[.slice none 0 0, .int .i64 0, .slice none 0 0, .slice none 0 0, .map none] 153)).alloc (.map #[] 0)).alloc (.cells #[.slice Ar s.rooms.length cr, .int .i64 (D : Int), .slice Am s.moves.length cm, .slice Aw s.wgs.length cw, .map (some (w.heap.size + 1 + 1 + 1))] 153)) (w.heap.size + 1 + 1) 153 #[.slice none 0 0, .int .i64 0, .slice none 0 0, .slice none 0 0, .map none] := ((Blk.new' _ _ _ (by simp)).alloc _).alloc _
 have mp : StMp (((((w.alloc (.cells #[.slice Ar s.rooms.length cr, .int .i64 (D : Int), .slice Am s.moves.length cm, .slice Aw s.wgs.length cw] 42)).alloc (.cells (offC o) 156)).alloc (.cells #[.slice none 0 0, .int .i64 0, .slice none 0 0, .slice none 0 0, .map none] 153)).alloc (.map #[] 0)).alloc (.cells #[.slice Ar s.rooms.length cr, .int .i64 (D : Int), .slice Am s.moves.length cm, .slice Aw s.wgs.length cw, .map (some (w.heap.size + 1 + 1 + 1))] 153)) (w.heap.size + 1 + 1 + 1) (fun _ => none) := (MpIs.new _ (by simp)).below (ex_alloc (Below.refl _ _) _)
 have q4 : Blk (((((w.alloc (.cells #[.slice Ar s.rooms.length cr, .int .i64 (D : Int), .slice Am s.moves.length cm, .slice Aw s.wgs.length cw] 42)).alloc (.cells (offC o) 156)).alloc (.cells #[.slice none 0 0, .int .i64 0, .slice none 0 0, .slice none 0 0, .map none] 153)).alloc (.map #[] 0)).alloc (.cells #[.slice Ar s.rooms.length cr, .int .i64 (D : Int), .slice Am s.moves.length cm, .slice Aw s.wgs.length cw, .map (some (w.heap.size + 1 + 1 + 1))] 153)) (w.heap.size + 1 + 1 + 1 + 1) 153 #[.slice Ar s.rooms.length cr, .int .i64 (D : Int), .slice Am s.moves.length cm, .slice Aw s.wgs.length cw, .map (some (w.heap.size + 1 + 1 + 1))] := Blk.new' _ _ _ (by simp)
 generalize ((((w.alloc (.cells #[.slice Ar s.rooms.length cr, .int .i64 (D : Int), .slice Am s.moves.length cm, .slice Aw s.wgs.length cw] 42)).alloc (.cells (offC o) 156)).alloc (.cells #[.slice none 0 0, .int .i64 0, .slice none 0 0, .slice none 0 0, .map none] 153)).alloc (.map #[] 0)).alloc (.cells #[.slice Ar s.rooms.length cr, .int .i64 (D : Int), .slice Am s.moves.length cm, .slice Aw s.wgs.length cw, .map (some (w.heap.size + 1 + 1 + 1))] 153) = V at *
 obtain ⟨p0, hp0⟩ : ∃ p, w.heap.size = p := ⟨_, rfl⟩
 have hp : w.heap.size ≤ p0 := by omega
 rw [hp0] at q0 q1 q2 q4 mp ⊢
 clear hp0 hmk
 refine wp_loop (fun a W => Rel (fun a W => ∃ k : Nat, k ≤ s.rooms.length ∧ ∃ F, (Below w.heap.size w W ∧ Blk W p0 42 #[.slice Ar s.rooms.length cr, .int .i64 (D : Int), .slice Am s.moves.length cm, .slice Aw s.wgs.length cw] ∧ VArr W (p0 + 1) 156 8 (fun i => .bool (o i)) ∧ Blk W (p0 + 1 + 1) 153 #[.slice none 0 0, .int .i64 0, .slice none 0 0, .slice none 0 0, .map none] ∧ Blk W (p0 + 1 + 1 + 1 + 1) 153 #[.slice Ar s.rooms.length cr, .int .i64 (D : Int), .slice Am s.moves.length cm, .slice Aw s.wgs.length cw, .map (some (p0 + 1 + 1 + 1))] ∧ StMp W (p0 + 1 + 1 + 1) F) ∧ StKn F (fun _ _ => (⟨0, 1048576⟩ : Rg)) D k 0 ∧ ∃ u : Nat → Value, a = ⟨List.toArray (u 0 :: u 1 :: .pointer (some ⟨p0, 0, none⟩) :: .pointer (some ⟨p0 + 1, 0, none⟩) :: .pointer (some ⟨p0 + 1 + 1, 0, none⟩) :: .pointer (some ⟨p0 + 1 + 1 + 1 + 1, 0, none⟩) :: u 6 :: u 7 :: u 8 :: u 9 :: u 10 :: u 11 :: u 12 :: u 13 :: u 14 :: .int .i64 (s.rooms.length : Int) :: .int .i64 (k : Int) :: u 17 :: u 18 :: u 19 :: u 20 :: u 21 :: u 22 :: u 23 :: u 24 :: u 25 :: u 26 :: u 27 :: u 28 :: u 29 :: u 30 :: u 31 :: u 32 :: u 33 :: u 34 :: u 35 :: u 36 :: u 37 :: u 38 :: u 39 :: u 40 :: u 41 :: u 42 :: u 43 :: u 44 :: u 45 :: u 46 :: u 47 :: u 48 :: u 49 :: u 50 :: u 51 :: u 52 :: u 53 :: u 54 :: []), []⟩) a W) (fun a _ => s.rooms.length - (intOf (a.tmps.getD 16 undef)).toNat) ⟨⟨0, by omega, _, ⟨hb5, q0, q1, q2, q4, mp⟩, fun r d hd hr => by omega, exFrame (by kernel_rfl)⟩⟩ ?_
 clear hb5 q0 q1 q2 q4 mp V
 rintro a W ⟨⟨k, hk, F, ⟨hbl, q0, q1, q2, q4, mp⟩, hkn, u, rfl⟩⟩
 have a0 : W.cell? ⟨p0, 0, none⟩ = some (.slice Ar s.rooms.length cr) := q0.cell 0
 have a1 : W.cell? ⟨p0, 1, none⟩ = some (.int .i64 (D : Int)) := q0.cell 1
 have a2 : W.cell? ⟨p0, 2, none⟩ = some (.slice Am s.moves.length cm) := q0.cell 2
 have a3 : W.cell? ⟨p0, 3, none⟩ = some (.slice Aw s.wgs.length cw) := q0.cell 3
 have b0 : W.cell? ⟨p0 + 1 + 1 + 1 + 1, 0, none⟩ = some (.slice Ar s.rooms.length cr) := q4.cell 0
 have b1 : W.cell? ⟨p0 + 1 + 1 + 1 + 1, 1, none⟩ = some (.int .i64 (D : Int)) := q4.cell 1
 have b2 : W.cell? ⟨p0 + 1 + 1 + 1 + 1, 2, none⟩ = some (.slice Am s.moves.length cm) := q4.cell 2
 have b3 : W.cell? ⟨p0 + 1 + 1 + 1 + 1, 3, none⟩ = some (.slice Aw s.wgs.length cw) := q4.cell 3
 have b4 : W.cell? ⟨p0 + 1 + 1 + 1 + 1, 4, none⟩ = some (.map (some (p0 + 1 + 1 + 1))) := q4.cell 4
 have l0 := q0.lt
 have l1 := q1.lt
 have l2 := q2.lt
 have l4 := q4.lt
 by_cases hlt : k < s.rooms.length
 ·
  go_wp2_with fail
  refine wp_loop (fun a W => Rel (fun a W => ∃ j : Nat, j ≤ D ∧ ∃ F, (Below w.heap.size w W ∧ Blk W p0 42 #[.slice Ar s.rooms.length cr, .int .i64 (D : Int), .slice Am s.moves.length cm, .slice Aw s.wgs.length cw] ∧ VArr W (p0 + 1) 156 8 (fun i => .bool (o i)) ∧ Blk W (p0 + 1 + 1) 153 #[.slice none 0 0, .int .i64 0, .slice none 0 0, .slice none 0 0, .map none] ∧ Blk W (p0 + 1 + 1 + 1 + 1) 153 #[.slice Ar s.rooms.length cr, .int .i64 (D : Int), .slice Am s.moves.length cm, .slice Aw s.wgs.length cw, .map (some (p0 + 1 + 1 + 1))] ∧ StMp W (p0 + 1 + 1 + 1) F) ∧ StKn F (fun _ _ => (⟨0, 1048576⟩ : Rg)) D k j ∧ ∃ u : Nat → Value, a = ⟨List.toArray (u 0 :: u 1 :: .pointer (some ⟨p0, 0, none⟩) :: .pointer (some ⟨p0 + 1, 0, none⟩) :: .pointer (some ⟨p0 + 1 + 1, 0, none⟩) :: .pointer (some ⟨p0 + 1 + 1 + 1 + 1, 0, none⟩) :: .int .i64 (k : Int) :: u 7 :: u 8 :: u 9 :: u 10 :: u 11 :: u 12 :: u 13 :: u 14 :: .int .i64 (s.rooms.length : Int) :: .int .i64 (k : Int) :: u 17 :: u 18 :: u 19 :: .int .i64 (D : Int) :: .int .i64 (j : Int) :: u 22 :: u 23 :: u 24 :: u 25 :: u 26 :: u 27 :: u 28 :: u 29 :: u 30 :: u 31 :: u 32 :: u 33 :: u 34 :: u 35 :: u 36 :: u 37 :: u 38 :: u 39 :: u 40 :: u 41 :: u 42 :: u 43 :: u 44 :: u 45 :: u 46 :: u 47 :: u 48 :: u 49 :: u 50 :: u 51 :: u 52 :: u 53 :: u 54 :: []), []⟩) a W) (fun a _ => D - (intOf (a.tmps.getD 21 undef)).toNat) ⟨⟨0, by omega, _, ⟨hbl, q0, q1, q2, q4, mp⟩, hkn, exFrame (by kernel_rfl)⟩⟩ ?_
  clear hbl q0 q1 q2 q4 mp hkn a0 a1 a2 a3 b0 b1 b2 b3 b4 l0 l1 l2 l4
  rintro a W ⟨⟨j, hj, F, ⟨hbl, q0, q1, q2, q4, mp⟩, hkn, u, rfl⟩⟩
  have a0 : W.cell? ⟨p0, 0, none⟩ = some (.slice Ar s.rooms.length cr) := q0.cell 0
  have a1 : W.cell? ⟨p0, 1, none⟩ = some (.int .i64 (D : Int)) := q0.cell 1
  have a2 : W.cell? ⟨p0, 2, none⟩ = some (.slice Am s.moves.length cm) := q0.cell 2
  have a3 : W.cell? ⟨p0, 3, none⟩ = some (.slice Aw s.wgs.length cw) := q0.cell 3
  have b0 : W.cell? ⟨p0 + 1 + 1 + 1 + 1, 0, none⟩ = some (.slice Ar s.rooms.length cr) := q4.cell 0
  have b1 : W.cell? ⟨p0 + 1 + 1 + 1 + 1, 1, none⟩ = some (.int .i64 (D : Int)) := q4.cell 1
  have b2 : W.cell? ⟨p0 + 1 + 1 + 1 + 1, 2, none⟩ = some (.slice Am s.moves.length cm) := q4.cell 2
  have b3 : W.cell? ⟨p0 + 1 + 1 + 1 + 1, 3, none⟩ = some (.slice Aw s.wgs.length cw) := q4.cell 3
  have b4 : W.cell? ⟨p0 + 1 + 1 + 1 + 1, 4, none⟩ = some (.map (some (p0 + 1 + 1 + 1))) := q4.cell 4
  have l0 := q0.lt
  have l1 := q1.lt
  have l2 := q2.lt
  have l4 := q4.lt
  by_cases hlj : j < D
  ·
   obtain ⟨ob, hup, mp'⟩ := MpIs.put (et := 50) Try.underlying151 cSp_fd mp ((k : Int), (j : Int)) (⟨0, 1048576⟩ : Rg)
   unfold cSp cRg at hup
   have HM : Hid (StMp (W.putObj (p0 + 1 + 1 + 1) ob) (p0 + 1 + 1 + 1) _) := Lib.hid mp'
   clear mp'
   have hF := fr_putO (fun b => b = p0 + 1 + 1 + 1) W (p0 + 1 + 1 + 1) ob rfl
   have hb2 := hF.toBelow hbl hbl.size (fun x hx => by omega)
   have r0 := q0.fr hF (by omega)
   have r1 := q1.fr hF (by omega)
   have r2 := q2.fr hF (by omega)
   have r4 := q4.fr hF (by omega)
   have hk2 := hkn.put (v := ⟨0, 1048576⟩) (k := k) (j := j) rfl
   have HK := Lib.hid hk2
   clear hk2
   go_wp2_with fail
   refine ⟨⟨⟨j + 1, by omega, _, ⟨hb2, r0, r1, r2, r4, HM.out⟩, HK.out, exFrame (by kernel_rfl)⟩⟩, ?_⟩
   show D - (intOf (.int .i64 ((j : Int) + 1))).toNat < D - (intOf (.int .i64 (j : Int))).toNat
   simp [intOf]
   omega
  ·
   obtain rfl : j = D := by omega
   go_wp2_with fail
   refine ⟨⟨⟨k + 1, by omega, _, ⟨hbl, q0, q1, q2, q4, mp⟩, hkn.next, exFrame (by kernel_rfl)⟩⟩, ?_⟩
   show s.rooms.length - (intOf (.int .i64 ((k : Int) + 1))).toNat < s.rooms.length - (intOf (.int .i64 (k : Int))).toNat
   simp [intOf]
   omega
 ·
  have hkR : k = s.rooms.length := by omega
  have HKR := Lib.hid (show StAll F (fun _ _ => (⟨0, 1048576⟩ : Rg)) s.rooms.length D from hkR ▸ hkn.all)
  clear hkR
  have hnw : ¬ ((k : Int) < (s.rooms.length : Int)) := by omega
  go_wp2_with fail
  refine wp_loop (fun a W => Rel (fun a W => ∃ k : Nat, k ≤ s.wgs.length ∧ ∃ F, (Below w.heap.size w W ∧ Blk W p0 42 #[.slice Ar s.rooms.length cr, .int .i64 (D : Int), .slice Am s.moves.length cm, .slice Aw s.wgs.length cw] ∧ VArr W (p0 + 1) 156 8 (fun i => .bool (o i)) ∧ Blk W (p0 + 1 + 1) 153 #[.slice none 0 0, .int .i64 0, .slice none 0 0, .slice none 0 0, .map none] ∧ Blk W (p0 + 1 + 1 + 1 + 1) 153 #[.slice Ar s.rooms.length cr, .int .i64 (D : Int), .slice Am s.moves.length cm, .slice Aw s.wgs.length cw, .map (some (p0 + 1 + 1 + 1))] ∧ StMp W (p0 + 1 + 1 + 1) F) ∧ StAll F (stW s.wgs o k) s.rooms.length D ∧ ∃ u : Nat → Value, a = ⟨List.toArray (u 0 :: u 1 :: .pointer (some ⟨p0, 0, none⟩) :: .pointer (some ⟨p0 + 1, 0, none⟩) :: .pointer (some ⟨p0 + 1 + 1, 0, none⟩) :: .pointer (some ⟨p0 + 1 + 1 + 1 + 1, 0, none⟩) :: u 6 :: u 7 :: u 8 :: u 9 :: u 10 :: u 11 :: u 12 :: u 13 :: u 14 :: u 15 :: u 16 :: u 17 :: u 18 :: u 19 :: u 20 :: u 21 :: u 22 :: u 23 :: u 24 :: u 25 :: u 26 :: u 27 :: u 28 :: u 29 :: u 30 :: u 31 :: u 32 :: .slice Aw s.wgs.length cw :: .int .i64 (s.wgs.length : Int) :: .int .i64 (k : Int) :: u 36 :: u 37 :: u 38 :: u 39 :: u 40 :: u 41 :: u 42 :: u 43 :: u 44 :: u 45 :: u 46 :: u 47 :: u 48 :: u 49 :: u 50 :: u 51 :: u 52 :: u 53 :: u 54 :: []), []⟩) a W) (fun a _ => s.wgs.length - (intOf (a.tmps.getD 35 undef)).toNat) ⟨⟨0, by omega, _, ⟨hbl, q0, q1, q2, q4, mp⟩, HKR.out, exFrame (by kernel_rfl)⟩⟩ ?_
  clear hbl q0 q1 q2 q4 mp hkn a0 a1 a2 a3 b0 b1 b2 b3 b4 l0 l1 l2 l4 HKR hnw hlt hk
  rintro a W ⟨⟨k, hk, F, ⟨hbl, q0, q1, q2, q4, mp⟩, hst, u, rfl⟩⟩
  have a0 : W.cell? ⟨p0, 0, none⟩ = some (.slice Ar s.rooms.length cr) := q0.cell 0
  have a1 : W.cell? ⟨p0, 1, none⟩ = some (.int .i64 (D : Int)) := q0.cell 1
  have a2 : W.cell? ⟨p0, 2, none⟩ = some (.slice Am s.moves.length cm) := q0.cell 2
  have a3 : W.cell? ⟨p0, 3, none⟩ = some (.slice Aw s.wgs.length cw) := q0.cell 3
  have b0 : W.cell? ⟨p0 + 1 + 1 + 1 + 1, 0, none⟩ = some (.slice Ar s.rooms.length cr) := q4.cell 0
  have b1 : W.cell? ⟨p0 + 1 + 1 + 1 + 1, 1, none⟩ = some (.int .i64 (D : Int)) := q4.cell 1
  have b2 : W.cell? ⟨p0 + 1 + 1 + 1 + 1, 2, none⟩ = some (.slice Am s.moves.length cm) := q4.cell 2
  have b3 : W.cell? ⟨p0 + 1 + 1 + 1 + 1, 3, none⟩ = some (.slice Aw s.wgs.length cw) := q4.cell 3
  have b4 : W.cell? ⟨p0 + 1 + 1 + 1 + 1, 4, none⟩ = some (.map (some (p0 + 1 + 1 + 1))) := q4.cell 4
  have l0 := q0.lt
  have l1 := q1.lt
  have l2 := q2.lt
  have l4 := q4.lt
  by_cases hlt : k < s.wgs.length
  ·
   obtain ⟨bi, oi, rfl, hbi, g0, g1, g2, g3⟩ := IsWgs.at_ (hs.wgs.below hbl) hlt
   have hbW : bi < W.heap.size := by have := hbl.size; omega
   have x1 := q1.cell (show k < 8 by omega)
   have hg := hwg k hlt
   cases hok : o k
   ·
    have hX := ex_alloc (Below.refl W.heap.size W) (.cells #[.int .i64 (gWg s.wgs k).room, .int .i64 (gWg s.wgs k).day, .int .i64 (gWg s.wgs k).g.lo, .int .i64 (gWg s.wgs k).g.hi] 128)
    have r0 := q0.below hX l0
    have r1 := q1.below hX
    have r2 := q2.below hX l2
    have r4 := q4.below hX l4
    have rm := mp.below hX
    have hbX := ex_trans hbl hX
    obtain ⟨r, hr⟩ : ∃ r : Nat, (gWg s.wgs k).room = (r : Int) := ⟨(gWg s.wgs k).room.toNat, by omega⟩
    obtain ⟨dd, hdd⟩ : ∃ r : Nat, (gWg s.wgs k).day = (r : Int) := ⟨(gWg s.wgs k).day.toNat, by omega⟩
    have hrR : r < s.rooms.length := by omega
    have hdD : dd < D := by omega
    have hF0 := hst r dd hrR hdD
    have HN := Lib.hid (hst.narrow hrR hdD (gWg s.wgs k).g)
    have HS : Hid (stW s.wgs o (k + 1) = narrowS (stW s.wgs o k) r dd (gWg s.wgs k).g) := Lib.hid (by rw [stW, hok, if_neg (by simp), hr, hdd]; rfl)
    have HO := Lib.hid hok
    obtain ⟨glo, hglo⟩ : ∃ x, (gWg s.wgs k).g.lo = x := ⟨_, rfl⟩
    obtain ⟨ghi, hghi⟩ : ∃ x, (gWg s.wgs k).g.hi = x := ⟨_, rfl⟩
    rw [hr] at g0
    rw [hdd] at g1
    rw [hglo] at g2
    rw [hghi] at g3
    rw [hr, hdd, hglo, hghi] at hX hbX r0 r1 r2 r4 rm
    rw [hglo, hghi] at HN
    rw [hok] at x1
    clear hg hr hdd hglo hghi hok
    go_wp2_with fail
    generalize W.alloc (.cells #[.int .i64 (r : Int), .int .i64 (dd : Int), .int .i64 glo, .int .i64 ghi] 128) = W2 at *
    have hnr := narrow_any s Ar Am (some ⟨bi, oi, none⟩) cr cm cw (p0 + 1 + 1 + 1) ((r : Int), (dd : Int)) glo ghi _ F W2 rm hF0
    rw [HD.out] at hnr
    refine hnr.mono ?_
    clear hnr
    rintro e W3 ⟨rfl, mp3, hF⟩
    have hb3 := hF.toBelow hbX hbX.size (fun x hx => by omega)
    have t0 := r0.fr hF (by omega)
    have t1 := r1.fr hF (by omega)
    have t2 := r2.fr hF (by omega)
    have t4 := r4.fr hF (by omega)
    have HM := Lib.hid mp3
    clear mp3
    go_wp2_with fail
    refine ⟨⟨⟨k + 1, by omega, _, ⟨hb3, t0, t1, t2, t4, HM.out⟩, by rw [HS.out]; exact HN.out, exFrame (by kernel_rfl)⟩⟩, ?_⟩
    show s.wgs.length - (intOf (.int .i64 ((k : Int) + 1))).toNat < s.wgs.length - (intOf (.int .i64 (k : Int))).toNat
    simp [intOf]
    omega
   ·
    have hX := ex_alloc (Below.refl W.heap.size W) (.cells #[.int .i64 (gWg s.wgs k).room, .int .i64 (gWg s.wgs k).day, .int .i64 (gWg s.wgs k).g.lo, .int .i64 (gWg s.wgs k).g.hi] 128)
    have r0 := q0.below hX l0
    have r1 := q1.below hX
    have r2 := q2.below hX l2
    have r4 := q4.below hX l4
    have rm := mp.below hX
    have hbX := ex_trans hbl hX
    have HS : Hid (stW s.wgs o (k + 1) = stW s.wgs o k) := Lib.hid (by rw [stW, hok, if_pos rfl])
    rw [hok] at x1
    clear hg hok
    go_wp2_with fail
    refine ⟨⟨⟨k + 1, by omega, _, ⟨hbX, r0, r1, r2, r4, rm⟩, by rw [HS.out]; exact hst, exFrame (by kernel_rfl)⟩⟩, ?_⟩
    show s.wgs.length - (intOf (.int .i64 ((k : Int) + 1))).toNat < s.wgs.length - (intOf (.int .i64 (k : Int))).toNat
    simp [intOf]
    omega
  ·
   have hkR : k = s.wgs.length := by omega
   have HKR := Lib.hid (show StAll F (stW s.wgs o s.wgs.length) s.rooms.length D from hkR ▸ hst)
   clear hkR hst
   have hnw : ¬ ((k : Int) < (s.wgs.length : Int)) := by omega
   have z0 : W.cell? ⟨p0 + 1 + 1, 0, none⟩ = some (.slice none 0 0) := q2.cell 0
   have z1 : W.cell? ⟨p0 + 1 + 1, 1, none⟩ = some (.int .i64 0) := q2.cell 1
   have z2 : W.cell? ⟨p0 + 1 + 1, 2, none⟩ = some (.slice none 0 0) := q2.cell 2
   have z3 : W.cell? ⟨p0 + 1 + 1, 3, none⟩ = some (.slice none 0 0) := q2.cell 3
   have z4 : W.cell? ⟨p0 + 1 + 1, 4, none⟩ = some (.map none) := q2.cell 4
   have z5 := q2.frozen0
   have t2 := (((((q2.set_ 0 (.slice Ar s.rooms.length cr)).set_ 1 (.int .i64 (D : Int))).set_ 2 (.slice Am s.moves.length cm)).set_ 3 (.slice Aw s.wgs.length cw)).set_ 4 (.map (some (p0 + 1 + 1 + 1))))
   simp only [List.setIfInBounds_toArray, List.set_cons_zero, List.set_cons_succ] at t2
   have hF : Fr (fun b => b = p0 + 1 + 1) W _ := (((((Fr.set (R := fun b => b = p0 + 1 + 1) W (p0 + 1 + 1) 0 (.slice Ar s.rooms.length cr) rfl).andSet (b := p0 + 1 + 1) (i := 1) (v := .int .i64 (D : Int)) rfl).andSet (b := p0 + 1 + 1) (i := 2) (v := .slice Am s.moves.length cm) rfl).andSet (b := p0 + 1 + 1) (i := 3) (v := .slice Aw s.wgs.length cw) rfl).andSet (b := p0 + 1 + 1) (i := 4) (v := .map (some (p0 + 1 + 1 + 1))) rfl)
   have hb3 := hF.toBelow hbl hbl.size (fun x hx => by omega)
   have hm3 := mp.fr hF (by omega)
   have HM := Lib.hid hm3
   clear hm3
   go_wp2_with fail
   refine bodyPost_ret (results_cell_row rfl _ _ (p0 + 1 + 1) 153 #[.slice Ar s.rooms.length cr, .int .i64 (D : Int), .slice Am s.moves.length cm, .slice Aw s.wgs.length cw, .map (some (p0 + 1 + 1 + 1))] (0, 0) _ rfl t2 rfl rfl rfl) rfl ?_
   exact ⟨⟨p0 + 1 + 1 + 1, rfl, by omega, F, HM.out, HKR.out⟩, hb3⟩
end Go.Proofs.Ythihdiilokdidaa
end

section
namespace Go.Proofs.Ythihdiilokdidaa
open Go.RowKit
section
variable {P : Program} {ops : Array Oper} {md : Region.Mode} {S : World → Prop} {Q : Exit → Act → World → Prop} {nn : Nat}
theorem wfn (o : Oper) (w : World) (ρ : Operand → Value) : ∀ f, o.about P w ρ = some f → Fence.wide.fn f := fun _ _ => trivial
theorem yieldsIf_in {i : Nat} {o : Oper} {v : Value} {a : Act} (hi : ops[i]? = some o) (hy : YieldsIf P ops S o v a) {K : Act → World → Prop} {w : World} (hS : S w) (h : K (a.put o.dst v) w) : wpOpIn Fence.wide nn P ops Q i K a w := by
 unfold Go.wpOpIn
 simp only [hi]
 rcases hy with ⟨hw, hv⟩ | ⟨hw, rfl⟩
 ·
  simp only [hw, if_true, Oper.wpIn, show Fence.wide.round = none from rfl, Oper.semAt_none, hv w hS, Oper.uponIn]; exact ⟨wfn _ _ _, h⟩
 ·
  simp only [hw, Bool.false_eq_true, if_false]; exact ⟨wfn _ _ _, h⟩
theorem wpOpIn_putIf {j : Nat} {oi oj : Oper} {v : Value} (hj : ops[j]? = some oj) (hap : oi.apart ops oj = true)
  (hsi : ∀ cs b, oi.op ≠ .select cs b) (hsj : ∀ cs b, oj.op ≠ .select cs b)
  (hQ : ∀ c a w, Q (.panic c) (a.put oi.dst v) w → Q (.panic c) a w) {K : Act → World → Prop} {a : Act} {w : World}
  (hy : YieldsIf P ops S oi v a) (h : wpOpIn Fence.wide nn P ops Q j K (a.put oi.dst v) w) :
  wpOpIn Fence.wide nn P ops Q j (fun a' w' => YieldsIf P ops S oi v a' ∧ K (a'.put oi.dst v) w') a w := by
 obtain ⟨h1, h2, h3⟩ := Oper.apart_spec hap
 have hro : Fence.wide.round = none := rfl
 have keep : ∀ (a : Act), YieldsIf P ops S oi v a → ∀ u, YieldsIf P ops S oi v (a.put oj.dst u) := fun a hy u =>
  hy.of_same (execOp_put oi hsi a oj.dst u h3) (wanted_put oi a oj.dst u h3)
 have keepD : ∀ d, YieldsIf P ops S oi v { a with defers := d :: a.defers } := fun d => hy.of_same rfl rfl
 unfold wpOpIn at *
 simp only [hj] at *
 rw [wanted_put oj a oi.dst v h1] at h
 split
 ·
  rename_i hw
  simp only [hw, if_true] at h
  unfold Oper.wpIn at *
  refine ⟨wfn _ _ _, ?_⟩
  have h := h.2
  rw [hro, Oper.semAt_none, execOp_put oj hsj a oi.dst v h1] at h
  rw [hro, Oper.semAt_none]
  generalize (execOp a.eval oj).run P w = r at *
  cases r with
  | ok x w' =>
   cases x <;> simp only [Oper.uponIn] at h ⊢
   case value u => exact ⟨keep a hy u, by rw [← Act.put_comm a v u h2]; exact h⟩
   case skip => exact ⟨keep a hy _, by rw [← Act.put_comm a v undef h2]; exact h⟩
   case defer d =>
    refine ⟨keep _ (keepD d) _, ?_⟩
    rw [← Act.put_comm _ v undef h2, ← Act.put_defers]
    exact h
   case enter f args =>
    refine ⟨h.1, CallsIn.mono h.2 fun e w'' he => ?_⟩
    cases e with
    | returned u => exact ⟨keep a hy u, by rw [← Act.put_comm a v u h2]; exact he⟩
    | panicked c => exact hQ _ _ _ he
    | outgrown => exact he
   case row row args => exact ⟨h.1, RowsIn.mono h.2 fun u w'' he => ⟨keep a hy u, by rw [← Act.put_comm a v u h2]; exact he⟩⟩
   case round l f tmps assign body =>
    refine ⟨h.1, RoundIn.mono h.2 fun e w'' he => ?_⟩
    cases e with
    | returned u => exact ⟨keep a hy u, by rw [← Act.put_comm a v u h2]; exact he⟩
    | panicked c => exact hQ _ _ _ he
    | outgrown => exact he
  | halt x w' =>
   cases x <;> simp only [Oper.uponIn] at h ⊢
   case panic u => exact hQ _ _ _ h
 ·
  rename_i hw
  simp only [hw] at h
  exact ⟨wfn _ _ _, keep a hy _, by rw [← Act.put_comm a v undef h2]; exact h.2⟩
def wpAnyI (nn : Nat) (P : Program) (md : Region.Mode) (ops : Array Oper) (Q : Exit → Act → World → Prop) (K : List Nat) : Nat → (World → Prop) → Array Bool → Act → World → Prop
 | 0, _, listed, a, w => Region.ready md ops listed = [] ∧ Q .normal a w
 | fuel + 1, S, listed, a, w =>
  (Region.ready md ops listed = [] → Q .normal a w) ∧
  ∀ i ∈ Region.ready md ops listed, wpOpIn Fence.wide nn P ops Q i (fun a' w' => ∃ S' : World → Prop, (i ∉ K → S' = S) ∧ S' w' ∧ wpAnyI nn P md ops Q K fuel S' (listed.setIfInBounds i true) a' w') a w
theorem wpAnyIn_of_I {K : List Nat} : ∀ (fuel : Nat) (S : World → Prop) (listed : Array Bool) (a : Act) (w : World), wpAnyI nn P md ops Q K fuel S listed a w → wpAnyIn Fence.wide nn P md ops Q fuel listed a w
 | 0, _, _, _, _, h => h
 | fuel + 1, _, _, _, _, h => ⟨h.1, fun i hi => wpOpIn_mono (fun a' w' ⟨S', _, _, h'⟩ => wpAnyIn_of_I fuel S' _ a' w' h') (h.2 i hi)⟩
def ClosedL (md : Region.Mode) (ops : Array Oper) (listed : Array Bool) : Prop := ∀ (j : Nat) (o : Oper), ops[j]? = some o → listed.getD j true = true → ∀ e ∈ o.after, Region.binds md e = true → listed.getD e.on false = true
theorem closedL_start : ClosedL md ops (Array.replicate ops.size false) := fun j o ho hl => by
 rw [(RepB.start ops.size).in_ (Array.getElem?_eq_some_iff.1 ho).1] at hl
 simp at hl
theorem ClosedL.set {listed : Array Bool} (h : ClosedL md ops listed) {j : Nat} (hj : j ∈ Region.ready md ops listed) : ClosedL md ops (listed.setIfInBounds j true) := fun k o ho hl e he hb => by
 refine getD_set_true ?_
 by_cases hjk : j = k
 ·
  subst hjk
  obtain ⟨_, o', ho', h'⟩ := mem_ready.1 hj
  rw [ho] at ho'
  cases ho'
  exact h' e he hb
 ·
  rw [getD_set_ne true hjk] at hl
  exact h k o ho hl e he hb
def pathF (As : List Nat) (i : Nat) : Nat → Nat → Bool
 | 0, _ => false
 | g + 1, k => match As[k]? with | none => false | some A => A.testBit i || (List.range As.length).any fun m => A.testBit m && pathF As i g m
theorem path_listed {listed : Array Bool} (hc : ClosedL md ops listed) {i : Nat} : ∀ (g k : Nat), (∀ o, ops[k]? = some o → ∀ e ∈ o.after, Region.binds md e = true → listed.getD e.on false = true) → pathF (masks md ops) i g k = true → listed.getD i false = true
 | 0, _, _, h => by simp [pathF] at h
 | g + 1, k, hk, h => by
  unfold pathF at h
  cases ho : ops[k]? with
  | none => simp [masks, ho] at h
  | some o =>
   have hm : (masks md ops)[k]? = some (aMask md o) := by simp [masks, ho]
   rw [hm] at h
   simp only [Bool.or_eq_true, List.any_eq_true, List.mem_range, Bool.and_eq_true] at h
   rcases h with h | ⟨m, hml, h1, h2⟩
   ·
    obtain ⟨e, he, hb, hon⟩ := (aMaskL_bit _ _).1 h
    rw [← hon]
    exact hk o ho e (Array.mem_def.2 he) hb
   ·
    obtain ⟨e, he, hb, hon⟩ := (aMaskL_bit _ _).1 h1
    have hl := hk o ho e (Array.mem_def.2 he) hb
    rw [hon] at hl
    refine path_listed hc g m (fun o' ho' e' he' hb' => hc m o' ho' ?_ e' he' hb') h2
    cases hq : listed[m]? with
    | none => simp [Array.getD_eq_getD_getElem?, hq] at hl
    | some b => simpa [Array.getD_eq_getD_getElem?, hq] using hl
theorem getD_grow {listed : Array Bool} {j k : Nat} (h : listed.getD k true = true) : (listed.setIfInBounds j true).getD k true = true := by
 by_cases hjk : j = k
 ·
  subst hjk
  rcases Nat.lt_or_ge j listed.size with h' | h'
  ·
   simp [h']
  ·
   rw [Array.setIfInBounds_eq_of_size_le h']; exact h
 ·
  rw [getD_set_ne true hjk]; exact h
theorem wpAnyI_first {i : Nat} {oi : Oper} {v : Value} (hi : ops[i]? = some oi) (hsel : ∀ (j : Nat) (o : Oper) cs b, ops[j]? = some o → o.op ≠ .select cs b)
  (hQ : ∀ c a w, Q (.panic c) (a.put oi.dst v) w → Q (.panic c) a w) {K : List Nat} {g : Nat} :
  ∀ (fuel : Nat) (listed : Array Bool) (a : Act) (w : World), ClosedL md ops listed → (∀ k ∈ K, listed.getD k true = true ∨ pathF (masks md ops) i g k = true) →
   (∀ j oj, ops[j]? = some oj → j ≠ i → listed.getD j true = false → (∀ e ∈ oj.after, Region.binds md e = true → e.on ≠ i) → oi.apart ops oj = true) →
   i ∈ Region.ready md ops listed → YieldsIf P ops S oi v a → S w →
   wpAnyI nn P md ops Q K fuel S (listed.setIfInBounds i true) (a.put oi.dst v) w → wpAnyI nn P md ops Q K (fuel + 1) S listed a w := by
 intro fuel
 induction fuel with
 | zero =>
  intro listed a w _ _ _ hr hy hS H
  refine ⟨fun h => (by rw [h] at hr; cases hr), fun j hj => ?_⟩
  by_cases hji : j = i
  ·
   subst hji; exact yieldsIf_in hi hy hS ⟨S, fun _ => rfl, hS, H⟩
  ·
   have := ready_mono hj hji
   rw [H.1] at this
   cases this
 | succ fuel ih =>
  intro listed a w hcl hp hfree hr hy hS H
  refine ⟨fun h => (by rw [h] at hr; cases hr), fun j hj => ?_⟩
  by_cases hji : j = i
  ·
   subst hji; exact yieldsIf_in hi hy hS ⟨S, fun _ => rfl, hS, H⟩
  ·
   have h1 := H.2 j (ready_mono hj hji)
   obtain ⟨hjun, oj, hoj, hall⟩ := mem_ready.1 hj
   have hjK : j ∉ K := fun hK => by
    rcases hp j hK with h | h
    ·
     rw [hjun] at h; cases h
    ·
     have h2 := path_listed hcl g j (fun o' ho' e' he' hb' => by rw [hoj] at ho'; cases ho'; exact hall e' he' hb') h
     rw [getD_both (mem_ready.1 hr).1] at h2; cases h2
   have hnot : ∀ e ∈ oj.after, Region.binds md e = true → e.on ≠ i := fun e he hb heq => by
    have h1 := hall e he hb
    rw [heq, getD_both (mem_ready.1 hr).1] at h1
    cases h1
   have h2 := wpOpIn_putIf hoj (hfree j oj hoj hji hjun hnot) (fun cs b => hsel i oi cs b hi) (fun cs b => hsel j oj cs b hoj) hQ hy h1
   have hfree' : ∀ k ok, ops[k]? = some ok → k ≠ i → (listed.setIfInBounds j true).getD k true = false →
     (∀ e ∈ ok.after, Region.binds md e = true → e.on ≠ i) → oi.apart ops ok = true := fun k ok hk hki hun hno => by
    refine hfree k ok hk hki ?_ hno
    by_cases hjk : j = k
    ·
     subst hjk; exact hjun
    ·
     rw [getD_set_ne true hjk] at hun; exact hun
   refine wpOpIn_mono (fun a' w' h3 => ?_) h2
   obtain ⟨hy3, S', hS', hw3, h3⟩ := h3
   obtain rfl := hS' hjK
   refine ⟨_, fun _ => rfl, hw3, ih (listed.setIfInBounds j true) a' w' (hcl.set hj) (fun k hk => (hp k hk).imp_left getD_grow) hfree' (ready_mono hr (Ne.symm hji)) hy3 hw3 ?_⟩
   rw [Array.setIfInBounds_comm _ _ hji]
   exact h3
def wpMixI (nn : Nat) (P : Program) (l : List Oper) (Q : Exit → Act → World → Prop) (K : List Nat) : List (Bool × Nat) → (World → Prop) → Act → World → Prop
 | [], _, a, w => Q .normal a w
 | (loud, k) :: ks, S, a, w => ∀ o, l[k]? = some o → if loud = true then wpListIn Fence.wide nn P l.toArray (fun e a' w' => match e with | .normal => ∃ S' : World → Prop, (k ∉ K → S' = S) ∧ S' w' ∧ wpMixI nn P l Q K ks S' a' w' | e => Q e a' w') [o] a w else wpQuiet P l.toArray S (fun a' => wpMixI nn P l Q K ks S a' w) [o] a
def mixIF (md : Region.Mode) (ops : Array Oper) (As : List Nat) (K : List Nat) : List (Bool × Nat) → Nat → Bool
 | [], M => (rdyF M As 0).isEmpty
 | (loud, k) :: ks, M => decide (k < ops.size) && (if loud = true then decide (rdyF M As 0 = [k]) else (rdyF M As 0).contains k && freeF md ops M k && muteAt ops k && K.all fun b => decide (b < ops.size) && (M.testBit b || pathF As k As.length b)) && mixIF md ops As K ks (M ||| (1 <<< k))
theorem mixI_sound {K : List Nat} {l : List Oper} (hsel : Region.noSelect l.toArray = true) (hQ : ∀ d v c a w, Q (.panic c) (a.put d v) w → Q (.panic c) a w) :
  ∀ (ks : List (Bool × Nat)) (M : Nat) (S : World → Prop) (listed : Array Bool) (a : Act) (w : World), ClosedL md l.toArray listed → RepB listed l.toArray.size M → mixIF md l.toArray (masks md l.toArray) K ks M = true → S w → wpMixI nn P l Q K ks S a w → wpAnyI nn P md l.toArray Q K ks.length S listed a w
 | [], M, S, listed, a, w, _, h, hB, _, hw => ⟨by rw [ready_F h]; simpa [mixIF, List.isEmpty_iff] using hB, hw⟩
 | (true, k) :: ks, M, S, listed, a, w, hcl, h, hB, hS, hw => by
  simp only [mixIF, Bool.and_eq_true, decide_eq_true_eq, if_true] at hB
  obtain ⟨⟨hk, hr⟩, hB'⟩ := hB
  rw [← ready_F h] at hr
  have hkr : k ∈ Region.ready md l.toArray listed := by rw [hr]; simp
  obtain ⟨o, hk0⟩ : ∃ o, l.toArray[k]? = some o := ⟨l.toArray[k]'hk, by simp only [Array.getElem?_eq_getElem hk]⟩
  have hk1 : l[k]? = some o := by simpa using hk0
  have h' := hw o hk1
  rw [if_pos rfl] at h'
  refine ⟨fun h0 => (by rw [h0] at hr; cases hr), fun i hi => ?_⟩
  rw [hr] at hi
  have hik : i = k := by simpa using hi
  subst hik
  refine wpOpIn_mono (K := fun a' w' => ∃ S' : World → Prop, (i ∉ K → S' = S) ∧ S' w' ∧ wpMixI nn P l Q K ks S' a' w') (fun a' w' ⟨S', h2, h3, h4⟩ => ⟨S', h2, h3, mixI_sound hsel hQ ks _ S' _ a' w' (hcl.set hkr) (h.set hk) hB' h3 h4⟩) ?_
  unfold wpOpIn
  simp only [hk0]
  simp only [wpListIn] at h'
  split
  ·
   rename_i hwt
   rw [if_pos hwt] at h'
   refine ⟨wfn _ _ _, ?_⟩
   have h' := h'.2
   generalize (o.semAt Fence.wide.round a.eval).run P w = r at *
   cases r with
   | ok x w' =>
    cases x <;> simp only [Oper.uponIn] at h' ⊢
    case value u => exact h'
    case skip => exact h'
    case defer d => exact h'
    case enter f args =>
     refine ⟨h'.1, CallsIn.mono h'.2 fun e w'' he => ?_⟩
     cases e with
     | returned u => exact he
     | panicked c => exact he
     | outgrown => obtain ⟨x, y, hxy⟩ := he; exact ⟨x, y, hxy⟩
    case row row args => exact h'
    case round l f tmps assign body =>
     refine ⟨h'.1, RoundIn.mono h'.2 fun e w'' he => ?_⟩
     cases e with
     | returned u => exact he
     | panicked c => exact he
     | outgrown => obtain ⟨x, y, hxy⟩ := he; exact ⟨x, y, hxy⟩
   | halt x w' => cases x <;> simp only [Oper.uponIn] at h' ⊢ <;> exact h'
  ·
   rename_i hwt
   rw [if_neg hwt] at h'
   exact h'
 | (false, k) :: ks, M, S, listed, a, w, hcl, h, hB, hS, hw => by
  simp only [mixIF, Bool.and_eq_true, decide_eq_true_eq, if_false, Bool.false_eq_true] at hB
  obtain ⟨⟨hk, ⟨⟨hr, hf⟩, hm⟩, hpa⟩, hB'⟩ := hB
  obtain ⟨o, hk0⟩ : ∃ o, l.toArray[k]? = some o := ⟨l.toArray[k]'hk, by simp only [Array.getElem?_eq_getElem hk]⟩
  have hk1 : l[k]? = some o := by simpa using hk0
  unfold muteAt at hm
  simp only [hk0] at hm
  have h' := hw o hk1
  rw [if_neg (by simp)] at h'
  rw [← ready_F h] at hr
  have hr' : k ∈ Region.ready md l.toArray listed := by simpa using hr
  have hst : qOp P l.toArray S k (wpQuiet P l.toArray S (fun a' => wpMixI nn P l Q K ks S a' w) []) a := by unfold qOp; simp only [hk0]; exact h'
  obtain ⟨v, hy, hK⟩ := yieldsIn_of_qOp hk0 hst
  refine wpAnyI_first hk0 (Region.noSelect_spec hsel) (hQ _ _) ks.length listed a w hcl (g := (masks md l.toArray).length) (fun b hb => ?_) (Region.free_spec hk0 (free_F h hf)) hr' (mute_if hm hy) hS
   (mixI_sound hsel hQ ks _ S _ _ w (hcl.set hr') (h.set hk) hB' hS hK)
  have := List.all_eq_true.1 hpa b hb
  simp only [Bool.and_eq_true, decide_eq_true_eq, Bool.or_eq_true] at this
  rw [h.in_ this.1]
  exact this.2
theorem wpIn_region_mixI {id : Nat} {a : Act} {w : World} {l : List Oper} (S : World → Prop) (K : List Nat) (ks : List (Bool × Nat)) (hm : P.follows .mixedOrders = true)
  (hB : (Region.noSelect l.toArray && mixIF .any l.toArray (masks .any l.toArray) K ks 0 && decide (ks.length = l.length)) = true) (hQ : ∀ d v c a w, Q (.panic c) (a.put d v) w → Q (.panic c) a w)
  (hS : S w.drew) (h : wpMixI nn P l Q K ks S a w.drew) : (Code.region id l.toArray true).wpIn Fence.wide nn P Q a w := by
 simp only [Bool.and_eq_true, decide_eq_true_eq] at hB
 obtain ⟨⟨h1, h2⟩, h3⟩ := hB
 refine wpIn_region_any hm (wpAnyIn_of_I (K := K) _ S _ _ _ ?_)
 have := mixI_sound (md := .any) h1 hQ ks 0 S _ a _ closedL_start (RepB.start _) h2 hS h
 rw [h3] at this
 simpa using this
theorem mixI_nil {K : List Nat} {l : List Oper} {a : Act} {w : World} (h : Q .normal a w) : wpMixI nn P l Q K [] S a w := h
theorem mixI_loud {K : List Nat} {l : List Oper} {k : Nat} {ks : List (Bool × Nat)} {o : Oper} {a : Act} {w : World} (ho : l[k]? = some o)
  (h : wpListIn Fence.wide nn P l.toArray (fun e a' w' => match e with | .normal => ∃ S' : World → Prop, (k ∉ K → S' = S) ∧ S' w' ∧ wpMixI nn P l Q K ks S' a' w' | e => Q e a' w') [o] a w) : wpMixI nn P l Q K ((true, k) :: ks) S a w := by
 intro o' ho'
 rw [if_pos rfl]
 rw [ho] at ho'
 cases ho'
 exact h
theorem mixI_quiet {K : List Nat} {l : List Oper} {k : Nat} {ks : List (Bool × Nat)} {o : Oper} {a : Act} {w : World} (ho : l[k]? = some o)
  (h : wpQuiet P l.toArray S (fun a' => wpMixI nn P l Q K ks S a' w) [o] a) : wpMixI nn P l Q K ((false, k) :: ks) S a w := by
 intro o' ho'
 rw [if_neg (by simp)]
 rw [ho] at ho'
 cases ho'
 exact h
end
end Go.Proofs.Ythihdiilokdidaa
end
