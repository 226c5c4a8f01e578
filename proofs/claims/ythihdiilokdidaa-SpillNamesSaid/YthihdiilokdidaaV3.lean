/- Spill: what somebody may work of some hours (walk). · Maps with keys of any one type, as the program makes them (no key is ever taken out or laid anew): the runs of their operations. · Maps by what is at each key: any key may be laid anew. · Spill: how few do some hours (walk). · Spill: truths and books as they come (plain), and how they lie. · The library's Clone at []int (the shelf's contracts, laid at this dump). -/
import Derived.Ground.Names2Prog
import Derived.Shelf.Slices.Clone
import Derived.Shelf.Slices.Cells
import Derived.Test.YthihdiilokdidaaV2
import Derived.Test.YthihdiilokdidaaV0
import Derived.Test.YthihdiilokdidaaProg
set_option linter.unusedVariables false
set_option linter.unusedSimpArgs false
set_option linter.unusedSectionVars false
section
namespace Go.Proofs.Ythihdiilokdidaa
open Go.RowKit
attribute [local go_sem] Ex.cell? Ex.frozen? run_store_func

theorem eq_ints3 (a b c a' b' c' : Int) (w : World) : (Op.equal 136 (.agg #[.int .i64 a, .int .i64 b, .int .i64 c]) (.agg #[.int .i64 a', .int .i64 b', .int .i64 c'])).run Try.prog w = .ok (decide (a = a' ∧ b = b' ∧ c = c')) w := by
  unfold Op.equal
  show (Op.equalIn (9999 + 1) 136 _ _).run Try.prog w = _
  rw [Op.equalIn]
  have hr : List.range' 0 3 = [0, 1, 2] := rfl
  have he : ∀ (x y : Int) (w : World), (Op.equalIn 9999 3 (.int .i64 x) (.int .i64 y)).run Try.prog w = .ok (x == y) w := fun x y w => run_equalIn_int w 9998 3 .i64 .i64 x y Try.underlying3
  have hi : ∀ w, (isAgg 3).run Try.prog w = .ok false w := fun w => by kernel_rfl
  simp only [Sem.run_bind, run_underlying Try.underlying136, Result.andThen_ok]
  by_cases h1 : a = a'
  · by_cases h2 : b = b'
    · by_cases h3 : c = c' <;> simp [go_sem, hr, List.forIn_cons, h1, h2, h3]
    · simp [go_sem, hr, List.forIn_cons, h1, h2]
  · simp [go_sem, hr, List.forIn_cons, h1]
theorem eq_v3 (s u : V3) (w : World) : (Op.equal 136 (.agg (v3C s)) (.agg (v3C u))).run Try.prog w = .ok (decide (s = u)) w := (eq_ints3 _ _ _ _ _ _ w).trans (by
  congr 1
  rw [decide_eq_decide]
  constructor
  · rintro ⟨h1, h2, h3⟩
    cases s; cases u; simp_all
  · rintro rfl
    exact ⟨rfl, rfl, rfl⟩)
theorem left_info : (Try.prog.info? 136).map (fun i => (i.zero, i.size, i.bytes)) = some (some (.agg #[.int .i64 0, .int .i64 0, .int .i64 0]), 3, 24) := by kernel_rfl
theorem own_shape {w : World} {base : Nat} {e : TypeId} {sz n : Nat} {v : Value} {xs : List Value} (h : w.ownsRow base e sz v n xs) : ∃ A c, v = .slice A n c := by
  rcases h.2 with ⟨rfl, h0⟩ | ⟨g', cap, cur, rfl, _⟩
  · exact ⟨none, 0, by rw [h0]⟩
  · exact ⟨_, _, rfl⟩
def cV3 (v : V3) : List Value := [.int .i64 v.a, .int .i64 v.b, .int .i64 v.c]
theorem v3_push {w : World} {base n : Nat} {e : TypeId} {v : Value} {l : List V3} {x : V3} (hn : n = l.length + 1) (h : w.ownsRow base e 3 v n (l.flatMap cV3 ++ cV3 x)) : w.ownsRow base e 3 v (l ++ [x]).length ((l ++ [x]).flatMap cV3) := by
  subst hn
  rw [List.flatMap_append, List.length_append]
  simpa using h
structure AS (w0 W : World) (t : Tm) (Ar Ah : Option Addr) (cr ch : Nat) (l : V3) (pt po pl pa base : Nat) (vout : Value) (L : List V3) : Prop where
  bw : Below w0.heap.size w0 W
  qt : Blk W pt 59 #[.slice Ar t.rates.length cr, .slice Ah t.hours.length ch, .int .i64 t.limit, .int .i64 t.most]
  qo : Blk W po 176 #[vout]
  ql : Blk W pl 136 (v3C l)
  qa : Blk W pa 200 #[.func (.func 124) #[] #[.pointer (some ⟨pt, 0, none⟩), .pointer (some ⟨po, 0, none⟩), .pointer (some ⟨pl, 0, none⟩), .pointer (some ⟨pa, 0, none⟩)]]
  oo : W.ownsRow base 136 3 vout L.length (L.flatMap cV3)
theorem AS.below {w0 W W' : World} {t : Tm} {Ar Ah : Option Addr} {cr ch : Nat} {l : V3} {pt po pl pa base : Nat} {vout : Value} {L : List V3} (h : AS w0 W t Ar Ah cr ch l pt po pl pa base vout L) (hb : Below W.heap.size W W') : AS w0 W' t Ar Ah cr ch l pt po pl pa base vout L :=
  ⟨ex_trans h.bw hb, h.qt.below hb h.qt.lt, h.qo.below hb h.qo.lt, h.ql.below hb h.ql.lt, h.qa.below hb h.qa.lt, own_below h.oo hb⟩
def AR (po : Nat) (vout : Value) (b : Nat) : Prop := b = po ∨ vout.ownBlock = some b
structure AO (w0 W W' : World) (t : Tm) (Ar Ah : Option Addr) (cr ch : Nat) (l : V3) (pt po pl pa base : Nat) (vout : Value) (L res : List V3) : Prop where
  out : ∃ vout', AS w0 W' t Ar Ah cr ch l pt po pl pa base vout' (L ++ res) ∧ Fr (AR po vout) W W' ∧ (∀ b, vout'.ownBlock = some b → vout.ownBlock = some b ∨ W.heap.size ≤ b)
set_option maxRecDepth 100000 in
set_option maxHeartbeats 6400000 in
theorem add_any (t : Tm) (Ar Ah : Option Addr) (cr ch : Nat) (w0 : World) (htm : TmIn w0 w0.heap.size t Ar Ah) (ht : TmOk t) (l : V3) (hl : HrOk t l) (pt po pl pa base : Nat) (hpo : w0.heap.size ≤ po) (hlt : pt < base ∧ po < base ∧ pl < base ∧ pa < base) (hB : w0.heap.size ≤ base) (hne : pt ≠ po ∧ pl ≠ po ∧ pa ≠ po) (hb4 : base ≤ pa + 1) :
    ∀ (j f : Nat), f < j → ∀ (d : V3) (r : Nat) (vout : Value) (L : List V3) (W : World), r + f = t.rates.length → HrBd d → L.length + 9 ^ f ≤ 100000 →
    AS w0 W t Ar Ah cr ch l pt po pl pa base vout L →
    Calls Try.prog 124 #[.agg (v3C d), .int .i64 (r : Int), .pointer (some ⟨pt, 0, none⟩), .pointer (some ⟨po, 0, none⟩), .pointer (some ⟨pl, 0, none⟩), .pointer (some ⟨pa, 0, none⟩)] W fun e W' =>
      (∃ v, e = .returned v) ∧ AO w0 W W' t Ar Ah cr ch l pt po pl pa base vout L (addL t l f d r) := by
  obtain ⟨i1, hi1, hy0, hy1, hy2⟩ := info_parts left_info
  have HI := Lib.hid hi1
  clear hi1
  have hl3 : t.rates.length ≤ 3 := ht.len.2.1
  intro j
  induction j with
  | zero => intro f hf; omega
  | succ j ih =>
    intro f hf d r vout L W hrf hd hL hps
    have HIH := Lib.hid ih
    clear ih
    unfold v3C
    have hb1 := ex_alloc (Below.refl W.heap.size W) (.cells #[.int .i64 d.a, .int .i64 d.b, .int .i64 d.c] 136)
    have hps1 := hps.below hb1
    have q6 : Blk (W.alloc (.cells #[.int .i64 d.a, .int .i64 d.b, .int .i64 d.c] 136)) W.heap.size 136 #[.int .i64 d.a, .int .i64 d.b, .int .i64 d.c] := Blk.new _ _ _
    go_enter Try.func124, Try.ntmps124
    go_upto_region 1 with fail
    obtain ⟨p6, hp6⟩ : ∃ p, W.heap.size = p := ⟨_, rfl⟩
    rw [hp6] at q6 ⊢
    have HP6 := Lib.hid hp6
    generalize W.alloc (.cells #[.int .i64 d.a, .int .i64 d.b, .int .i64 d.c] 136) = W1 at *
    clear hp6
    have a0 : W1.cell? ⟨pt, 0, none⟩ = some (.slice Ar t.rates.length cr) := hps1.qt.cell 0
    have a1 : W1.cell? ⟨pt, 1, none⟩ = some (.slice Ah t.hours.length ch) := hps1.qt.cell 1
    have a2 : W1.cell? ⟨pt, 2, none⟩ = some (.int .i64 t.limit) := hps1.qt.cell 2
    have a3 : W1.cell? ⟨pt, 3, none⟩ = some (.int .i64 t.most) := hps1.qt.cell 3
    have lt0 := hps1.qt.lt
    have d0 : W1.cell? ⟨p6, 0, none⟩ = some (.int .i64 d.a) := q6.cell 0
    have d1 : W1.cell? ⟨p6, 1, none⟩ = some (.int .i64 d.b) := q6.cell 1
    have d2 : W1.cell? ⟨p6, 2, none⟩ = some (.int .i64 d.c) := q6.cell 2
    have l6 := q6.lt
    go_wp2_with fail
    refine (may_team t Ar Ah cr ch W1 ⟨(htm.rates.below hps1.bw).up hps1.bw.size, (htm.hours.below hps1.bw).up hps1.bw.size⟩ ht d hd).mono ?_
    rintro e W2 ⟨rfl, h2⟩
    have hps2 := hps1.below h2
    have q62 := q6.below h2 q6.lt
    have B2 := ex_trans hb1 h2
    clear a0 a1 a2 a3 lt0 d0 d1 d2 l6
    have a0 : W2.cell? ⟨pt, 0, none⟩ = some (.slice Ar t.rates.length cr) := hps2.qt.cell 0
    have a1 : W2.cell? ⟨pt, 1, none⟩ = some (.slice Ah t.hours.length ch) := hps2.qt.cell 1
    have a2 : W2.cell? ⟨pt, 2, none⟩ = some (.int .i64 t.limit) := hps2.qt.cell 2
    have a3 : W2.cell? ⟨pt, 3, none⟩ = some (.int .i64 t.most) := hps2.qt.cell 3
    have lt0 := hps2.qt.lt
    have d0 : W2.cell? ⟨p6, 0, none⟩ = some (.int .i64 d.a) := q62.cell 0
    have d1 : W2.cell? ⟨p6, 1, none⟩ = some (.int .i64 d.b) := q62.cell 1
    have d2 : W2.cell? ⟨p6, 2, none⟩ = some (.int .i64 d.c) := q62.cell 2
    have l6 := q62.lt
    cases hm : mayB t d
    · have HM := Lib.hid hm
      clear hm
      have HA : Hid (addL t l f d r = []) := Lib.hid (by cases f <;> (rw [addL, if_neg (by rw [HM.out]; decide)]))
      go_wp2
      refine bodyPost_ret (results_none rfl _ _ _) rfl ?_
      exact ⟨⟨_, rfl⟩, ⟨⟨vout, by rw [HA.out, List.append_nil]; exact hps2, Fr.below B2, fun b hb => .inl hb⟩⟩⟩
    · have HM := Lib.hid hm
      clear hm
      by_cases hr : r = t.rates.length
      · have hf0 : f = 0 := by omega
        subst hf0
        have hrr : (r : Int) = (t.rates.length : Int) := by omega
        by_cases hz : d = z3
        · have HZ := Lib.hid hz
          have hez : ∀ w, (Op.equalIn 10000 136 (.agg #[.int .i64 d.a, .int .i64 d.b, .int .i64 d.c]) (.agg #[.int .i64 0, .int .i64 0, .int .i64 0])).run Try.prog w = .ok true w := fun w => by have := eq_v3 d z3 w; rw [decide_eq_true hz] at this; exact this
          clear hz
          have HA : Hid (addL t l 0 d r = []) := Lib.hid (by rw [addL, if_pos HM.out, if_pos HZ.out])
          go_wp2
          refine bodyPost_ret (results_none rfl _ _ _) rfl ?_
          exact ⟨⟨_, rfl⟩, ⟨⟨vout, by rw [HA.out, List.append_nil]; exact hps2, Fr.below B2, fun b hb => .inl hb⟩⟩⟩
        · have HZ := Lib.hid hz
          have hez : ∀ w, (Op.equalIn 10000 136 (.agg #[.int .i64 d.a, .int .i64 d.b, .int .i64 d.c]) (.agg #[.int .i64 0, .int .i64 0, .int .i64 0])).run Try.prog w = .ok false w := fun w => by have := eq_v3 d z3 w; rw [decide_eq_false hz] at this; exact this
          clear hz
          obtain ⟨Ao, co, rfl⟩ := own_shape hps2.oo
          have o0 : W2.cell? ⟨po, 0, none⟩ = some (.slice Ao L.length co) := hps2.qo.cell 0
          have lo := hps2.qo.lt
          have fo := hps2.qo.frozen0
          have X3 := ex_alloc (Below.refl W2.heap.size W2) (.cells #[.int .i64 d.a, .int .i64 d.b, .int .i64 d.c] 136)
          have y4 := own_below hps2.oo X3
          have c63 : L.length + 1 ≤ maxLen := by unfold maxLen; omega
          have cby : (L.length + 1) * 24 ≤ 140737488355328 := by omega
          have hbase0 : base ≤ (W2.alloc (.cells #[.int .i64 d.a, .int .i64 d.b, .int .i64 d.c] 136)).heap.size := by have := X3.size; have := B2.size; have := hps.qa.lt; omega
          go_wp2_with (refine pause_at 24 rfl ?_)
          refine Paused.mk ?_
          refine wpList_append_lies _ rfl _ _ _ rfl base 136 i1 _ 3 24 Try.underlying176 HI.out hy0 hy1 hy2 rfl (by omega) (.slice Ao L.length co) _ _ rfl y4 ⟨W2.heap.size, 0, none⟩ 1 1 [.int .i64 d.a, .int .i64 d.b, .int .i64 d.c] rfl rfl (World.news_of_block (heap_alloc_new W2 _)) (by simp [Value.oneCell']) (by omega) c63 cby hbase0 (W2.heap.size + 1) (by simp) ?_
          intro gg cap w1 hown' hgrow hat hlt'
          have hno : ¬ some po = (Value.slice Ao L.length co).ownBlock := fun e => own_blkne hps2.oo hps2.qo (by decide) e.symm
          have qo3 := (hps2.qo.below X3 lo).grown hgrow hno
          have o3 : w1.cell? ⟨po, 0, none⟩ = some (.slice Ao L.length co) := qo3.cell 0
          have fo3 := qo3.frozen0
          have lo3 := qo3.lt
          have HOW := Lib.hid (v3_push (x := d) rfl hown')
          clear hown'
          go_wp2
          refine bodyPost_ret (results_none rfl _ _ _) rfl ?_
          have hA : Fr (AR po (.slice Ao L.length co)) W (w1.setCell ⟨po, 0, none⟩ (Value.slice (some ⟨gg, 0, none⟩) (L.length + 1) cap)) := ((((Fr.below B2).trans (Fr.below X3) (fun _ _ h => h)).trans (Fr.grown (R := AR po (.slice Ao L.length co)) hgrow (fun b hb => .inl (.inr hb))) (fun _ _ h => h)).trans (Fr.set _ _ _ _ (.inl rfl)) (fun _ _ h => h))
          have hvo : ∀ b, (Value.slice Ao L.length co).ownBlock = some b → base ≤ b ∧ b < W.heap.size := fun b hb => own_lt hps.oo hb
          have hsm : ∀ x, x < base → x ≠ po → ¬ AR po (.slice Ao L.length co) x := fun x h1 h2 h3 => by
            rcases h3 with h3 | h3
            · exact h2 h3
            · have := hvo x h3; omega
          have hAL : Hid (addL t l 0 d r = [d]) := Lib.hid (by rw [addL, if_pos HM.out, if_neg HZ.out])
          refine ⟨⟨_, rfl⟩, ⟨⟨(Value.slice (some ⟨gg, 0, none⟩) (L.length + 1) cap), ⟨hA.toBelow hps.bw hps.bw.size (fun x hx => ?_), hps.qt.fr hA (hsm _ hlt.1 hne.1), qo3.set_ 0 _, hps.ql.fr hA (hsm _ hlt.2.2.1 hne.2.1), hps.qa.fr hA (hsm _ hlt.2.2.2 hne.2.2), ?_⟩, hA, fun b hb => ?_⟩⟩⟩
          · rcases hx with rfl | hx
            · exact hpo
            · have := hvo x hx; omega
          · rw [hAL.out]; exact own_far HOW.out (p := ⟨po, 0, none⟩) (show po < base by omega) _
          · have hgb : gg = b := by simpa [Value.ownBlock] using hb
            subst hgb
            rcases hat with h4 | h4
            · exact .inl h4
            · right; have := B2.size; omega
      · obtain ⟨f, rfl⟩ : ∃ g, f = g + 1 := ⟨f - 1, by omega⟩
        have hr3 : r < 3 := by omega
        have hrr : ¬ ((r : Int) = (t.rates.length : Int)) := by omega
        have hr33 : (r : Int) < 3 := by omega
        obtain ⟨m, hm⟩ : ∃ m : Nat, l.get r = (m : Int) := ⟨(l.get r).toNat, by have := hl.bd r hr3; omega⟩
        have hm8 : m ≤ 8 := by have := (hl.bd r hr3).2; omega
        have hlv := hps2.ql.cell r
        rw [v3_at l hr3, hm] at hlv
        have ll := hps2.ql.lt
        have HMM : Hid (l.get r = (m : Int)) := Lib.hid hm
        clear hm
        go_wp2_with fail
        refine wp_loop (fun a V => Rel (fun a V => ∃ k : Nat, k ≤ m + 1 ∧ (∃ vout' x, AS w0 V t Ar Ah cr ch l pt po pl pa base vout' (L ++ (List.range k).flatMap fun n : Nat => addL t l f (d.set r (n : Int)) (r + 1)) ∧ Fr (AR po vout) W V ∧ (∀ b, vout'.ownBlock = some b → vout.ownBlock = some b ∨ p6 + 1 ≤ b) ∧ Blk V p6 136 (v3C (d.set r x)) ∧ 0 ≤ x ∧ x ≤ 8) ∧ ∃ u : Nat → Value, a = ⟨List.toArray (u 0 :: .int .i64 (r : Int) :: .pointer (some ⟨pt, 0, none⟩) :: .pointer (some ⟨po, 0, none⟩) :: .pointer (some ⟨pl, 0, none⟩) :: .pointer (some ⟨pa, 0, none⟩) :: .pointer (some ⟨p6, 0, none⟩) :: u 7 :: u 8 :: u 9 :: u 10 :: u 11 :: u 12 :: u 13 :: u 14 :: u 15 :: u 16 :: u 17 :: u 18 :: u 19 :: u 20 :: u 21 :: u 22 :: u 23 :: u 24 :: u 25 :: u 26 :: u 27 :: .int .i64 ((m : Int) + 1) :: .int .i64 (k : Int) :: u 30 :: u 31 :: u 32 :: u 33 :: u 34 :: u 35 :: u 36 :: u 37 :: u 38 :: u 39 :: u 40 :: []), []⟩) a V) (fun a _ => (m + 1) - (intOf (a.tmps.getD 29 undef)).toNat) ⟨⟨0, by omega, ⟨vout, d.get r, by rw [List.range_zero, List.flatMap_nil, List.append_nil]; exact hps2, Fr.below B2, fun b hb => .inl hb, by rw [V3.set_get_self]; exact q62, hd r hr3⟩, exFrame (by kernel_rfl)⟩⟩ ?_
        clear a0 a1 a2 a3 lt0 d0 d1 d2 l6 hlv ll q62 hps2 h2 hps1 hb1 q6
        rintro a V ⟨⟨k, hk, ⟨vout', x, hpsV, hfr, hvo', q6, hx⟩, u, rfl⟩⟩
        by_cases hlk : k < m + 1
        · have e0 : V.cell? ⟨p6, r, none⟩ = some (.int .i64 x) := by have := q6.cell r; rw [v3_at _ hr3, V3.set_get _ _ _ _ hr3, if_pos rfl] at this; exact this
          have l6 := q6.lt
          have f6 := q6.frozen0
          have q6s := q6.set_ r (.int .i64 (k : Int))
          rw [v3_set _ hr3, V3.set_set] at q6s
          obtain ⟨d', hd'⟩ : ∃ y, d.set r (k : Int) = y := ⟨_, rfl⟩
          rw [hd'] at q6s
          have HD' := Lib.hid hd'
          have hd8 : HrBd d' := fun i hi => by
            rw [← hd', V3.set_get _ _ _ _ hr3]
            split
            · omega
            · exact hd i hi
          clear hd'
          have hWp := HP6.out
          have hpb : base ≤ p6 := by have := hps.qa.lt; omega
          have hv6 : ¬ vout'.ownBlock = some p6 := fun hb => by
            rcases hvo' _ hb with h | h
            · have := (own_lt hps.oo h).2; omega
            · omega
          have hset : Fr (fun b => b = p6) V (V.setCell ⟨p6, r, none⟩ (.int .i64 (k : Int))) := Fr.set _ _ _ _ rfl
          have hps2 : AS w0 (V.setCell ⟨p6, r, none⟩ (.int .i64 (k : Int))) t Ar Ah cr ch l pt po pl pa base vout' (L ++ (List.range k).flatMap fun n : Nat => addL t l f (d.set r (n : Int)) (r + 1)) := ⟨hset.toBelow hpsV.bw hpsV.bw.size (fun x hx => by omega), hpsV.qt.fr hset (by omega), hpsV.qo.fr hset (by omega), hpsV.ql.fr hset (by omega), hpsV.qa.fr hset (by omega), own_fr hpsV.oo hset (fun b hb e => hv6 (by rw [hb, e]))⟩
          have hz2 := hset.size
          have hfs := hfr.size
          clear hWp hpsV q6
          go_upto_region 9 with fail
          generalize V.setCell ⟨p6, r, none⟩ (.int .i64 (k : Int)) = V2 at *
          clear e0 l6 f6
          have d0 : V2.cell? ⟨p6, 0, none⟩ = some (.int .i64 d'.a) := q6s.cell 0
          have d1 : V2.cell? ⟨p6, 1, none⟩ = some (.int .i64 d'.b) := q6s.cell 1
          have d2 : V2.cell? ⟨p6, 2, none⟩ = some (.int .i64 d'.c) := q6s.cell 2
          have l6 := q6s.lt
          have c5 : V2.cell? ⟨pa, 0, none⟩ = some (.func (.func 124) #[] #[.pointer (some ⟨pt, 0, none⟩), .pointer (some ⟨po, 0, none⟩), .pointer (some ⟨pl, 0, none⟩), .pointer (some ⟨pa, 0, none⟩)]) := hps2.qa.cell 0
          have l5 := hps2.qa.lt
          have hlen : (L ++ (List.range k).flatMap fun n : Nat => addL t l f (d.set r (n : Int)) (r + 1)).length + 9 ^ f ≤ 100000 := by
            have h1 := flatV_len (f := fun n : Nat => addL t l f (d.set r (n : Int)) (r + 1)) (C := 9 ^ f) (l := List.range k) (fun n _ => addL_len hl f _ _ (by omega))
            rw [List.length_range] at h1
            have h2 : k * 9 ^ f ≤ 8 * 9 ^ f := Nat.mul_le_mul_right _ (by omega)
            have h3 : 9 ^ (f + 1) = 9 ^ f * 9 := Nat.pow_succ ..
            rw [List.length_append]
            omega
          have hr6 : (r : Int) ≤ 3 := by omega
          have HH := HIH.out f (by omega) d' (r + 1) vout' _ V2 (by omega) hd8 hlen hps2
          unfold v3C at HH
          rw [show ((r + 1 : Nat) : Int) = (r : Int) + 1 from rfl] at HH
          clear hlen
          go_wp2_with fail
          refine HH.mono ?_
          clear HH
          rintro e V3 ⟨⟨v3, rfl⟩, ⟨⟨vout3, hps3, fr3, vo3⟩⟩⟩
          have hWp := HP6.out
          have hz3 := fr3.size
          have q63 := q6s.fr fr3 (fun h => by rcases h with h | h; omega; exact hv6 h)
          have hfr3 : Fr (AR po vout) W V3 := (hfr.trans hset (fun x hx h => by omega)).trans fr3 (fun x hx h => by
            rcases h with h | h
            · exact .inl h
            · rcases hvo' x h with h | h
              · exact .inr h
              · omega)
          have hvo3 : ∀ b, vout3.ownBlock = some b → vout.ownBlock = some b ∨ p6 + 1 ≤ b := fun b hb => by
            rcases vo3 b hb with h | h
            · exact hvo' b h
            · right; omega
          have HPS3 : Hid (AS w0 V3 t Ar Ah cr ch l pt po pl pa base vout3 (L ++ (List.range (k + 1)).flatMap fun n : Nat => addL t l f (d.set r (n : Int)) (r + 1))) := Lib.hid (by rw [List.range_succ, List.flatMap_append, List.flatMap_singleton, ← List.append_assoc, HD'.out]; exact hps3)
          clear hps3 hps2 hset hWp d0 d1 d2 l6 c5 l5
          go_wp2_with fail
          refine ⟨⟨⟨k + 1, by omega, ⟨vout3, (k : Int), HPS3.out, hfr3, hvo3, by rw [HD'.out]; exact q63, by omega, by omega⟩, exFrame (by kernel_rfl)⟩⟩, ?_⟩
          show (m + 1) - (intOf (.int .i64 ((k : Int) + 1))).toNat < (m + 1) - (intOf (.int .i64 (k : Int))).toNat
          simp [intOf]
          omega
        · obtain rfl : k = m + 1 := by omega
          have HAL : Hid (addL t l (f + 1) d r = (List.range (m + 1)).flatMap fun n : Nat => addL t l f (d.set r (n : Int)) (r + 1)) := Lib.hid (by rw [addL, if_pos HM.out, HMM.out, Int.toNat_natCast])
          have hWp := HP6.out
          go_wp2
          refine bodyPost_end (results_none rfl _ _ _) rfl ?_
          exact ⟨⟨_, rfl⟩, ⟨⟨vout', by rw [HAL.out]; exact hpsV, hfr, fun b hb => by
            rcases hvo' b hb with h | h
            · exact .inl h
            · right; omega⟩⟩⟩
set_option maxRecDepth 100000 in
set_option maxHeartbeats 3200000 in
theorem days_team (t : Tm) (Ar Ah : Option Addr) (cr ch : Nat) (w : World) (htm : TmIn w w.heap.size t Ar Ah) (ht : TmOk t) (l : V3) (hl : HrOk t l) :
    Calls Try.prog 104 #[.agg #[.slice Ar t.rates.length cr, .slice Ah t.hours.length ch, .int .i64 t.limit, .int .i64 t.most], .agg (v3C l)] w fun e w' => (∃ A c, e = .returned (.slice A (daysL t l).length c) ∧ w'.ownsRow w.heap.size 136 3 (.slice A (daysL t l).length c) (daysL t l).length ((daysL t l).flatMap cV3)) ∧ Below w.heap.size w w' := by
  skip
  obtain ⟨i1, hi1, hy0, hy1, hy2⟩ := info_parts left_info
  have hb : Below w.heap.size w ((((w.alloc (.cells #[.slice Ar t.rates.length cr, .slice Ah t.hours.length ch, .int .i64 t.limit, .int .i64 t.most] 59)).alloc (.cells #[.int .i64 l.a, .int .i64 l.b, .int .i64 l.c] 136)).alloc (.cells #[.slice none 0 0] 176)).alloc (.cells #[.func (.func 124) #[] #[.pointer (some ⟨w.heap.size, 0, none⟩), .pointer (some ⟨w.heap.size + 1 + 1, 0, none⟩), .pointer (some ⟨w.heap.size + 1, 0, none⟩), .pointer (some ⟨w.heap.size + 1 + 1 + 1, 0, none⟩)]] 200)) := ex_alloc (ex_alloc (ex_alloc (ex_alloc (Below.refl _ _) _) _) _) _
  have q0 : Blk ((((w.alloc (.cells #[.slice Ar t.rates.length cr, .slice Ah t.hours.length ch, .int .i64 t.limit, .int .i64 t.most] 59)).alloc (.cells #[.int .i64 l.a, .int .i64 l.b, .int .i64 l.c] 136)).alloc (.cells #[.slice none 0 0] 176)).alloc (.cells #[.func (.func 124) #[] #[.pointer (some ⟨w.heap.size, 0, none⟩), .pointer (some ⟨w.heap.size + 1 + 1, 0, none⟩), .pointer (some ⟨w.heap.size + 1, 0, none⟩), .pointer (some ⟨w.heap.size + 1 + 1 + 1, 0, none⟩)]] 200)) (w.heap.size) 59 #[.slice Ar t.rates.length cr, .slice Ah t.hours.length ch, .int .i64 t.limit, .int .i64 t.most] := (((Blk.new' _ _ _ (by simp)).alloc _).alloc _).alloc _
  have q1 : Blk ((((w.alloc (.cells #[.slice Ar t.rates.length cr, .slice Ah t.hours.length ch, .int .i64 t.limit, .int .i64 t.most] 59)).alloc (.cells #[.int .i64 l.a, .int .i64 l.b, .int .i64 l.c] 136)).alloc (.cells #[.slice none 0 0] 176)).alloc (.cells #[.func (.func 124) #[] #[.pointer (some ⟨w.heap.size, 0, none⟩), .pointer (some ⟨w.heap.size + 1 + 1, 0, none⟩), .pointer (some ⟨w.heap.size + 1, 0, none⟩), .pointer (some ⟨w.heap.size + 1 + 1 + 1, 0, none⟩)]] 200)) (w.heap.size + 1) 136 (v3C l) := ((Blk.new' _ _ _ (by simp)).alloc _).alloc _
  have q2 : Blk ((((w.alloc (.cells #[.slice Ar t.rates.length cr, .slice Ah t.hours.length ch, .int .i64 t.limit, .int .i64 t.most] 59)).alloc (.cells #[.int .i64 l.a, .int .i64 l.b, .int .i64 l.c] 136)).alloc (.cells #[.slice none 0 0] 176)).alloc (.cells #[.func (.func 124) #[] #[.pointer (some ⟨w.heap.size, 0, none⟩), .pointer (some ⟨w.heap.size + 1 + 1, 0, none⟩), .pointer (some ⟨w.heap.size + 1, 0, none⟩), .pointer (some ⟨w.heap.size + 1 + 1 + 1, 0, none⟩)]] 200)) (w.heap.size + 1 + 1) 176 #[.slice none 0 0] := (Blk.new' _ _ _ (by simp)).alloc _
  have q3 : Blk ((((w.alloc (.cells #[.slice Ar t.rates.length cr, .slice Ah t.hours.length ch, .int .i64 t.limit, .int .i64 t.most] 59)).alloc (.cells #[.int .i64 l.a, .int .i64 l.b, .int .i64 l.c] 136)).alloc (.cells #[.slice none 0 0] 176)).alloc (.cells #[.func (.func 124) #[] #[.pointer (some ⟨w.heap.size, 0, none⟩), .pointer (some ⟨w.heap.size + 1 + 1, 0, none⟩), .pointer (some ⟨w.heap.size + 1, 0, none⟩), .pointer (some ⟨w.heap.size + 1 + 1 + 1, 0, none⟩)]] 200)) (w.heap.size + 1 + 1 + 1) 200 #[.func (.func 124) #[] #[.pointer (some ⟨w.heap.size, 0, none⟩), .pointer (some ⟨w.heap.size + 1 + 1, 0, none⟩), .pointer (some ⟨w.heap.size + 1, 0, none⟩), .pointer (some ⟨w.heap.size + 1 + 1 + 1, 0, none⟩)]] := Blk.new' _ _ _ (by simp)
  unfold v3C
  have hmf : ∀ (fn : Fn) (first cap : Array Value) (w : World), (Instr.makeFunc fn first cap).run Try.prog w = .ok (.func fn first cap) w := fun _ _ _ _ => rfl
  go_enter Try.func104, Try.ntmps104
  go_upto_region 3 with fail
  show Code.wp _ _ _ _ ((((w.alloc (.cells #[.slice Ar t.rates.length cr, .slice Ah t.hours.length ch, .int .i64 t.limit, .int .i64 t.most] 59)).alloc (.cells #[.int .i64 l.a, .int .i64 l.b, .int .i64 l.c] 136)).alloc (.cells #[.slice none 0 0] 176)).alloc (.cells #[.func (.func 124) #[] #[.pointer (some ⟨w.heap.size, 0, none⟩), .pointer (some ⟨w.heap.size + 1 + 1, 0, none⟩), .pointer (some ⟨w.heap.size + 1, 0, none⟩), .pointer (some ⟨w.heap.size + 1 + 1 + 1, 0, none⟩)]] 200))
  generalize (((w.alloc (.cells #[.slice Ar t.rates.length cr, .slice Ah t.hours.length ch, .int .i64 t.limit, .int .i64 t.most] 59)).alloc (.cells #[.int .i64 l.a, .int .i64 l.b, .int .i64 l.c] 136)).alloc (.cells #[.slice none 0 0] 176)).alloc (.cells #[.func (.func 124) #[] #[.pointer (some ⟨w.heap.size, 0, none⟩), .pointer (some ⟨w.heap.size + 1 + 1, 0, none⟩), .pointer (some ⟨w.heap.size + 1, 0, none⟩), .pointer (some ⟨w.heap.size + 1 + 1 + 1, 0, none⟩)]] 200) = W at *
  have c3 : W.cell? ⟨w.heap.size + 1 + 1 + 1, 0, none⟩ = some (.func (.func 124) #[] #[.pointer (some ⟨w.heap.size, 0, none⟩), .pointer (some ⟨w.heap.size + 1 + 1, 0, none⟩), .pointer (some ⟨w.heap.size + 1, 0, none⟩), .pointer (some ⟨w.heap.size + 1 + 1 + 1, 0, none⟩)]) := q3.cell 0
  have l3 := q3.lt
  have h9 : 9 ^ t.rates.length ≤ 729 := by
    have h3 : t.rates.length = 1 ∨ t.rates.length = 2 ∨ t.rates.length = 3 := by have := ht.len; omega
    rcases h3 with h | h | h <;> rw [h] <;> decide
  have HP := add_any t Ar Ah cr ch w htm ht l hl (w.heap.size) (w.heap.size + 1 + 1) (w.heap.size + 1) (w.heap.size + 1 + 1 + 1) (w.heap.size + 1 + 1 + 1 + 1) (by omega) (by omega) (by omega) (by omega) (by omega) (t.rates.length + 1) t.rates.length (by omega) z3 0 (.slice none 0 0) [] W (by omega) (fun i _ => by rw [z3_get]; decide) (by show 0 + 9 ^ t.rates.length ≤ 100000; omega) ⟨hb, q0, q2, q1, q3, ⟨rfl, .inl ⟨rfl, rfl⟩⟩⟩
  unfold v3C at HP
  go_wp2_with fail
  refine HP.mono ?_
  clear HP
  rintro e W2 ⟨⟨v, rfl⟩, ⟨⟨vout, hps, hfr, hvo⟩⟩⟩
  rw [List.nil_append] at hps
  obtain ⟨Av, cv, rfl⟩ := own_shape hps.oo
  have c2 : W2.cell? ⟨w.heap.size + 1 + 1, 0, none⟩ = some (.slice Av (addL t l t.rates.length z3 0).length cv) := hps.qo.cell 0
  have l2 := hps.qo.lt
  have f2 := hps.qo.frozen0
  have ho := hps.oo
  have hbw := hps.bw
  have po := hps.qo
  clear hfr hvo hps
  go_wp2
  have co' : (W2.setCell ⟨w.heap.size + 1 + 1, 0, none⟩ (.slice Av (addL t l t.rates.length z3 0).length cv)).cell? ⟨w.heap.size + 1 + 1, 0, none⟩ = some (.slice Av (addL t l t.rates.length z3 0).length cv) := (po.set_ 0 _).cell 0
  refine bodyPost_ret (v := .slice Av (addL t l t.rates.length z3 0).length cv) (by simp [results, Try.results104, go_sem, co']) rfl ?_
  have hf : Fr (fun b => b = w.heap.size + 1 + 1) W2 (W2.setCell ⟨w.heap.size + 1 + 1, 0, none⟩ (.slice Av (addL t l t.rates.length z3 0).length cv)) := Fr.set _ _ _ _ rfl
  exact ⟨⟨_, _, rfl, own_base (own_fr ho hf (fun b hb h3 => by have := own_lt ho hb; omega)) (by omega)⟩, hbw.setCell (by show w.heap.size ≤ w.heap.size + 1 + 1; omega) _⟩
end Go.Proofs.Ythihdiilokdidaa
end

section
namespace Go.Proofs.Ythihdiilokdidaa
open Go.RowKit

structure KeyOk {α : Type} [DecidableEq α] (t : TypeId) (kV : α → Value) : Prop where
 eq : ∀ (s u : α) (w : World), (Op.equal t (kV s) (kV u)).run Try.prog w = .ok (s == u) w
 check : ∀ (em : Bool) (s : α) (w : World), (Instr.checkKey em 10000 t (kV s)).run Try.prog w = .ok () w
 und : ∃ d, Try.prog.underlying t = some d ∧ ∀ (s : α) (e : MapEntry) (es : List MapEntry) (i : Nat), Instr.findNow d (kV s) (e :: es) i = none

section
variable {α β : Type} [DecidableEq α] {t : TypeId} {kV : α → Value} {vV : β → Value}
def mkE (kV : α → Value) (vV : β → Value) (L : List (α × β)) : Array MapEntry := (L.zipIdx.map fun p => { key := kV p.1.1, val := vV p.1.2, born := p.2 }).toArray
def IsMp (kV : α → Value) (vV : β → Value) (W : World) (b : Nat) (L : List (α × β)) : Prop := W.heap[b]? = some (.map (mkE kV vV L) L.length)
theorem mpGetObj {W : World} {b c : Nat} {es : Array MapEntry} (h : W.heap[b]? = some (.map es c)) : (getObj b).run Try.prog W = .ok (.map es c) W := by simp [getObj, Sem.run, h]
theorem mpSetObj {W : World} {b c : Nat} {es : Array MapEntry} (o' : Obj) (h : W.heap[b]? = some (.map es c)) : (setObj b o').run Try.prog W = .ok () (W.putObj b o') := by simp [setObj, Sem.run, h, World.putObj]
def mpAt (s : α) : List (α × β) → Nat → Option (Nat × β)
 | [], _ => none
 | p :: l, i => if p.1 = s then some (i, p.2) else mpAt s l (i + 1)
theorem mp_asking (hk : KeyOk t kV) (s : α) (w : World) : ∀ (l : List (α × β)) (k i : Nat),
  (Instr.findAsking t (kV s) (l.zipIdx k |>.map fun p => { key := kV p.1.1, val := vV p.1.2, born := p.2 }) i).run Try.prog w = .ok ((mpAt s l i).map fun x => (x.1, vV x.2)) w
 | [], _, _ => by simp [Instr.findAsking, mpAt]
 | p :: l, k, i => by
  simp only [List.zipIdx_cons, List.map_cons, Instr.findAsking, Sem.run_bind, hk.eq, Result.andThen_ok]
  by_cases h : p.1 = s
  ·
   have hb : (s == p.1) = true := by simp [h]
   simp [mpAt, h]
  ·
   have hb : (s == p.1) = false := by simpa using fun e => h e.symm
   simp only [hb, Bool.false_eq_true, if_false]
   rw [mp_asking hk s w l (k + 1) (i + 1), mpAt, if_neg h]
theorem mp_find (hk : KeyOk t kV) (s : α) (L : List (α × β)) (w : World) : (Instr.findKey t (kV s) (mkE kV vV L).toList).run Try.prog w = .ok ((mpAt s L 0).map fun x => (x.1, vV x.2)) w := by
 obtain ⟨d, hd, hn⟩ := hk.und
 unfold Instr.findKey
 simp only [Sem.run_bind, run_underlying hd, Result.andThen_ok]
 have h2 : (mkE kV vV L).toList = (L.zipIdx 0 |>.map fun p => { key := kV p.1.1, val := vV p.1.2, born := p.2 }) := by simp [mkE]
 rw [h2]
 cases L with
 | nil => simp [Instr.findNow, mpAt]
 | cons p l =>
  rw [List.zipIdx_cons, List.map_cons, hn]
  exact mp_asking hk s w (p :: l) 0 0
def mpGet (s : α) (L : List (α × β)) : Option β := (mpAt s L 0).map (·.2)
theorem mpAt_some {s : α} : ∀ {L : List (α × β)} {i : Nat}, ((mpAt s L i).map (·.2)) = ((mpAt s L 0).map (·.2))
 | [], _ => rfl
 | p :: l, i => by
  rw [mpAt, mpAt]
  split
  ·
   rfl
  ·
   rw [mpAt_some (L := l) (i := i + 1), mpAt_some (L := l) (i := 0 + 1)]
theorem mpGet_cons {s : α} {p : α × β} {L : List (α × β)} : mpGet s (p :: L) = if p.1 = s then some p.2 else mpGet s L := by
 unfold mpGet
 rw [mpAt]
 split
 ·
  rfl
 ·
  exact mpAt_some
theorem mpGet_none {s : α} {L : List (α × β)} (h : mpGet s L = none) : mpAt s L 0 = none := by
 unfold mpGet at h
 cases hm : mpAt s L 0 with
 | none => rfl
 | some x => rw [hm] at h; cases h
theorem mpGet_some {s : α} {L : List (α × β)} {v : β} (h : mpGet s L = some v) : ∃ i, mpAt s L 0 = some (i, v) := by
 unfold mpGet at h
 cases hm : mpAt s L 0 with
 | none => rw [hm] at h; cases h
 | some x =>
  rw [hm] at h
  obtain ⟨i, u⟩ := x
  injection h with h
  exact ⟨i, by rw [← h]⟩
theorem mkE_push (L : List (α × β)) (s : α) (v : β) : (mkE kV vV L).push { key := kV s, val := vV v, born := L.length } = mkE kV vV (L ++ [(s, v)]) := by
 simp [mkE, List.zipIdx_append]
theorem IsMp.lt {W : World} {b : Nat} {L : List (α × β)} (h : IsMp kV vV W b L) : b < W.heap.size := (Array.getElem?_eq_some_iff.1 h).1
theorem IsMp.of_block {W W' : World} {b : Nat} {L : List (α × β)} (h : IsMp kV vV W b L) (hb : W'.heap[b]? = W.heap[b]?) : IsMp kV vV W' b L := hb.trans h
theorem IsMp.below {W W' : World} {b : Nat} {L : List (α × β)} (h : IsMp kV vV W b L) (hb : Below W.heap.size W W') : IsMp kV vV W' b L := h.of_block (hb.block b h.lt)
theorem IsMp.fr {R : Nat → Prop} {W W' : World} {b : Nat} {L : List (α × β)} (h : IsMp kV vV W b L) (hf : Fr R W W') (hn : ¬ R b) : IsMp kV vV W' b L := h.of_block (hf.block b h.lt hn)
theorem IsMp.new (W : World) {g : Nat} (hg : W.heap.size = g) : IsMp kV vV (W.alloc (.map #[] 0)) g [] := by
 subst hg; exact World.alloc_heap_new W _
end
end Go.Proofs.Ythihdiilokdidaa
end

section
namespace Go.Proofs.Ythihdiilokdidaa
open Go.RowKit
structure KeyFd {α : Type} [DecidableEq α] (t : TypeId) (kV : α → Value) : Prop where
 find : ∀ {β : Type} (vV : β → Value) (s : α) (L : List (α × β)) (w : World), (Instr.findKey t (kV s) (mkE kV vV L).toList).run Try.prog w = .ok ((mpAt s L 0).map fun x => (x.1, vV x.2)) w
 check : ∀ (em : Bool) (s : α) (w : World), (Instr.checkKey em 10000 t (kV s)).run Try.prog w = .ok () w
 stays : ∀ (s : α) (w : World), (Instr.keyThatStays (kV s) (kV s)).run Try.prog w = .ok (kV s) w
theorem KeyFd.of {α : Type} [DecidableEq α] {t : TypeId} {kV : α → Value} (h : KeyOk t kV) (hs : ∀ s w, (Instr.keyThatStays (kV s) (kV s)).run Try.prog w = .ok (kV s) w) : KeyFd t kV := ⟨fun _ s L w => mp_find h s L w, h.check, hs⟩
section
variable {β : Type} {vV : β → Value}
def keyI (n : Int) : Value := .int .i64 n
theorem findNowI (n : Int) : ∀ (l : List (Int × β)) (k i : Nat), Instr.findNow (.int .i64) (keyI n) (l.zipIdx k |>.map fun p => { key := keyI p.1.1, val := vV p.1.2, born := p.2 }) i = some ((mpAt n l i).map fun x => (x.1, vV x.2))
 | [], _, _ => by simp [Instr.findNow, mpAt]
 | p :: l, k, i => by
  rw [List.zipIdx_cons, List.map_cons, mpAt]
  unfold Instr.findNow
  by_cases h : p.1 = n
  ·
   subst h
   simp [Instr.sameNow, keyI]
  ·
   have h2 : (n == p.1) = false := by simpa using fun e => h e.symm
   have ih := findNowI n l (k + 1) (i + 1)
   unfold keyI at ih
   simp [Instr.sameNow, keyI, h, h2, ih]
theorem keyI_ok : KeyFd 3 keyI where
 find := fun {β} vV s L w => by
  unfold Instr.findKey
  simp only [Sem.run_bind, run_underlying Try.underlying3, Result.andThen_ok]
  have h2 : (mkE keyI vV L).toList = (L.zipIdx 0 |>.map fun p => { key := keyI p.1.1, val := vV p.1.2, born := p.2 }) := by simp [mkE]
  rw [h2, findNowI s L 0 0]
  simp
 check := fun em s w => by
  show (Instr.checkKey em (9999 + 1) 3 (.int .i64 s)).run Try.prog w = _
  rw [Instr.checkKey]
  simp [go_sem, run_underlying Try.underlying3]
 stays := fun s w => by simp [Instr.keyThatStays, Instr.sameBits, keyI]
end
section
variable {α β : Type} [DecidableEq α] {t : TypeId} {kV : α → Value} {vV : β → Value}
def MpIs (kV : α → Value) (vV : β → Value) (W : World) (b : Nat) (F : α → Option β) : Prop := ∃ L, IsMp kV vV W b L ∧ ∀ s, mpGet s L = F s
theorem MpIs.lt {W : World} {b : Nat} {F : α → Option β} (h : MpIs kV vV W b F) : b < W.heap.size := h.choose_spec.1.lt
theorem MpIs.of_block {W W' : World} {b : Nat} {F : α → Option β} (h : MpIs kV vV W b F) (hb : W'.heap[b]? = W.heap[b]?) : MpIs kV vV W' b F := by
 obtain ⟨L, h1, h2⟩ := h
 exact ⟨L, h1.of_block hb, h2⟩
theorem MpIs.below {W W' : World} {b : Nat} {F : α → Option β} (h : MpIs kV vV W b F) (hb : Below W.heap.size W W') : MpIs kV vV W' b F := h.of_block (hb.block b h.lt)
theorem MpIs.fr {R : Nat → Prop} {W W' : World} {b : Nat} {F : α → Option β} (h : MpIs kV vV W b F) (hf : Fr R W W') (hn : ¬ R b) : MpIs kV vV W' b F := h.of_block (hf.block b h.lt hn)
theorem MpIs.new (W : World) {g : Nat} (hg : W.heap.size = g) : MpIs kV vV (W.alloc (.map #[] 0)) g (fun _ => none) := ⟨[], IsMp.new W hg, fun _ => rfl⟩
theorem MpIs.congr {W : World} {b : Nat} {F F' : α → Option β} (h : MpIs kV vV W b F) (e : ∀ s, F s = F' s) : MpIs kV vV W b F' := by
 obtain ⟨L, h1, h2⟩ := h
 exact ⟨L, h1, fun s => (h2 s).trans (e s)⟩
theorem MpIs.at_ {mt et : TypeId} (hm : Try.prog.underlying mt = some (.map t et)) (hk : KeyFd t kV) {W : World} {b : Nat} {F : α → Option β} (h : MpIs kV vV W b F) (s : α) {v : β} (hs : F s = some v) :
  (Instr.lookup mt (.map (some b)) (kV s) false).run Try.prog W = .ok (vV v) W := by
 obtain ⟨L, h1, h2⟩ := h
 unfold Instr.lookup
 simp only [Sem.run_bind, run_underlying hm, Result.andThen_ok, mpGetObj h1, hk.check, hk.find, Sem.run_pure]
 obtain ⟨i, hi⟩ := mpGet_some ((h2 s).trans hs)
 rw [hi]
 simp
theorem MpIs.at_none {mt et : TypeId} (hm : Try.prog.underlying mt = some (.map t et)) {i0 : TypeInfo} {z : Value} (hi : Try.prog.info? et = some i0) (hz : i0.zero = some z) (hk : KeyFd t kV) {W : World} {b : Nat} {F : α → Option β} (h : MpIs kV vV W b F) (s : α) (hs : F s = none) :
  (Instr.lookup mt (.map (some b)) (kV s) false).run Try.prog W = .ok z W := by
 obtain ⟨L, h1, h2⟩ := h
 unfold Instr.lookup
 simp only [Sem.run_bind, run_underlying hm, Result.andThen_ok, mpGetObj h1, hk.check, hk.find, Sem.run_pure]
 rw [mpGet_none ((h2 s).trans hs)]
 simp [go_sem, zeroValue, typeInfo, hi, hz]
theorem MpIs.at2 {mt et : TypeId} (hm : Try.prog.underlying mt = some (.map t et)) {i0 : TypeInfo} {z : Value} (hi : Try.prog.info? et = some i0) (hz : i0.zero = some z) (hk : KeyFd t kV) {W : World} {b : Nat} {F : α → Option β} (h : MpIs kV vV W b F) (s : α) :
  (Instr.lookup mt (.map (some b)) (kV s) true).run Try.prog W = .ok (match F s with | some v => .tuple #[vV v, .bool true] | none => .tuple #[z, .bool false]) W := by
 obtain ⟨L, h1, h2⟩ := h
 unfold Instr.lookup
 simp only [Sem.run_bind, run_underlying hm, Result.andThen_ok, mpGetObj h1, hk.check, hk.find, Sem.run_pure]
 rw [← h2 s]
 cases hg : mpGet s L with
 | none =>
  rw [mpGet_none hg]
  simp [go_sem, zeroValue, typeInfo, hi, hz]
 | some v =>
  obtain ⟨i, hi⟩ := mpGet_some hg
  rw [hi]
  simp
theorem mpAt_at {s : α} {v : β} : ∀ {L : List (α × β)} {k i : Nat}, mpAt s L k = some (i, v) → k ≤ i ∧ L[i - k]? = some (s, v)
 | [], _, _, h => by cases h
 | p :: L, k, i, h => by
  rw [mpAt] at h
  split at h
  ·
   rename_i e
   simp only [Option.some.injEq, Prod.mk.injEq] at h
   obtain ⟨rfl, rfl⟩ := h
   exact ⟨Nat.le_refl _, by simp [← e]⟩
  ·
   obtain ⟨h1, h2⟩ := mpAt_at h
   refine ⟨by omega, ?_⟩
   rw [show i - k = (i - (k + 1)) + 1 by omega]
   simpa using h2
theorem mpGet_set {s : α} {v u : β} : ∀ {L : List (α × β)} {k i : Nat}, mpAt s L k = some (i, u) → ∀ x, mpGet x (L.set (i - k) (s, v)) = if x = s then some v else mpGet x L
 | [], _, _, h, _ => by cases h
 | p :: L, k, i, h, x => by
  rw [mpAt] at h
  split at h
  ·
   rename_i e
   simp only [Option.some.injEq, Prod.mk.injEq] at h
   obtain ⟨rfl, rfl⟩ := h
   rw [show k - k = 0 by omega, List.set_cons_zero, mpGet_cons, mpGet_cons]
   by_cases hx : x = s
   ·
    rw [if_pos hx.symm, if_pos hx]
   ·
    rw [if_neg (fun e => hx e.symm), if_neg hx, if_neg (fun e2 => hx (by rw [← e2, e]))]
  ·
   rename_i hne
   obtain ⟨h1, _⟩ := mpAt_at h
   rw [show i - k = (i - (k + 1)) + 1 by omega, List.set_cons_succ, mpGet_cons, mpGet_cons, mpGet_set h x]
   by_cases hx : p.1 = x
   ·
    rw [if_pos hx, if_pos hx, if_neg (fun e => hne (hx.trans e))]
   ·
    rw [if_neg hx, if_neg hx]
theorem mpGet_push {s x : α} {v : β} : ∀ {L : List (α × β)}, mpGet s L = none → mpGet x (L ++ [(s, v)]) = if x = s then some v else mpGet x L
 | [], _ => by
  rw [List.nil_append, mpGet_cons]
  by_cases h : x = s
  ·
   rw [if_pos h.symm, if_pos h]
  ·
   rw [if_neg (fun e => h e.symm), if_neg h]
 | p :: L, hn => by
  rw [mpGet_cons] at hn
  split at hn
  ·
   cases hn
  ·
   rename_i hne
   rw [List.cons_append, mpGet_cons, mpGet_cons, mpGet_push hn]
   by_cases hx : p.1 = x
   ·
    rw [if_pos hx, if_pos hx, if_neg (fun e => hne (hx.trans e))]
   ·
    rw [if_neg hx, if_neg hx]
theorem mkE_set (L : List (α × β)) (i : Nat) (s : α) (v : β) : (mkE kV vV L).modify i (fun e => { e with key := kV s, val := vV v }) = mkE kV vV (L.set i (s, v)) := by
 refine Array.ext (by simp [mkE]) (fun j h1 h2 => ?_)
 rw [Array.getElem_modify]
 simp only [mkE, List.getElem_toArray, List.getElem_map, List.getElem_zipIdx, Nat.zero_add]
 rw [List.getElem_set]
 split <;> rfl
theorem MpIs.put {mt et : TypeId} (hm : Try.prog.underlying mt = some (.map t et)) (hk : KeyFd t kV) {W : World} {b : Nat} {F : α → Option β} (h : MpIs kV vV W b F) (s : α) (v : β) :
  ∃ o, (Instr.mapUpdate mt (.map (some b)) (kV s) (vV v)).run Try.prog W = .ok () (W.putObj b o) ∧ MpIs kV vV (W.putObj b o) b (fun x => if x = s then some v else F x) := by
 obtain ⟨L, h1, h2⟩ := h
 cases hg : mpGet s L with
 | none =>
  refine ⟨.map (mkE kV vV (L ++ [(s, v)])) (L ++ [(s, v)]).length, ?_, L ++ [(s, v)], World.putObj_heap_same h1.lt, fun x => by rw [mpGet_push hg, h2]⟩
  unfold Instr.mapUpdate
  simp only [Sem.run_bind, run_underlying hm, Result.andThen_ok, mpGetObj h1, hk.check, hk.find, mpGet_none hg]
  simp only [Option.map_none]
  rw [mkE_push, mpSetObj _ h1]
  simp
 | some u =>
  obtain ⟨i, hi⟩ := mpGet_some hg
  obtain ⟨_, hL⟩ := mpAt_at hi
  have hset := mpGet_set (v := v) hi
  simp only [Nat.sub_zero] at hL hset
  refine ⟨.map (mkE kV vV (L.set i (s, v))) (L.set i (s, v)).length, ?_, L.set i (s, v), World.putObj_heap_same h1.lt, fun x => by rw [hset, h2]⟩
  unfold Instr.mapUpdate
  simp only [Sem.run_bind, run_underlying hm, Result.andThen_ok, mpGetObj h1, hk.check, hk.find, hi]
  simp only [Option.map_some]
  have hkey : (((mkE kV vV L)[i]?).map (·.key)).getD (kV s) = kV s := by
   have : (mkE kV vV L)[i]? = some { key := kV s, val := vV u, born := i } := by
    simp [mkE, List.getElem?_zipIdx, hL]
   rw [this]; rfl
  rw [hkey]
  simp only [Sem.run_bind, hk.stays, Result.andThen_ok]
  rw [mkE_set, mpSetObj _ h1]
  simp
theorem fr_putO (R : Nat → Prop) (W : World) (b : Nat) (o : Obj) (h : R b) : Fr R W (W.putObj b o) :=
 ⟨rfl, rfl, rfl, by simp, fun k _ hn => World.putObj_heap_other (fun e => hn (e ▸ h))⟩
end
end Go.Proofs.Ythihdiilokdidaa
end

section
namespace Go.Proofs.Ythihdiilokdidaa
open Go.RowKit
attribute [local go_sem] Ex.cell? Ex.frozen?

def keyV (v : V3) : Value := .agg (v3C v)
theorem keyV_ok : KeyOk 136 keyV where
  eq := fun s u w => by
    rw [show keyV s = .agg (v3C s) from rfl, show keyV u = .agg (v3C u) from rfl, eq_v3]
    by_cases h : s = u
    · simp [h]
    · simp [h]
  check := fun em s w => by
    have hr : List.range' 0 3 = [0, 1, 2] := rfl
    have hc : ∀ (n : Nat) (x : Int) (w : World), (Instr.checkKey em (n + 1) 3 (.int .i64 x)).run Try.prog w = .ok () w := fun n x w => by
      rw [Instr.checkKey]
      simp [go_sem, run_underlying Try.underlying3]
    show (Instr.checkKey em (9999 + 1) 136 (keyV s)).run Try.prog w = _
    rw [Instr.checkKey]
    unfold keyV v3C
    simp only [Sem.run_bind, run_underlying Try.underlying136, Result.andThen_ok]
    have hc' := fun x w => hc 9998 x w
    simp [go_sem, hr, List.forIn_cons, hc']
  und := ⟨_, Try.underlying136, fun s e es i => by simp [Instr.findNow, Instr.sameNow, keyV, v3C]⟩
theorem keyV_fd : KeyFd 136 keyV := KeyFd.of keyV_ok (fun s w => by simp [Instr.keyThatStays, Instr.sameBits, keyV, v3C])
def plV (x : Nat × V3) : Value := .agg #[.int .i64 (x.1 : Int), .int .i64 x.2.a, .int .i64 x.2.b, .int .i64 x.2.c]
theorem plan_info : (Try.prog.info? 139).map (fun i => (i.zero, i.size, i.bytes)) = some (some (.agg #[.int .i64 0, .int .i64 0, .int .i64 0, .int .i64 0]), 4, 32) := by kernel_rfl
def KOk (t : Tm) (F : V3 → Option (Nat × V3)) : Prop := ∀ l x, F l = some x → PlanIs t l x.1 x.2
theorem KOk.put {t : Tm} {F : V3 → Option (Nat × V3)} (h : KOk t F) {l : V3} {m : Nat} {own : V3} (hp : PlanIs t l m own) : KOk t (fun x => if x = l then some (m, own) else F x) := fun k x hk => by
  dsimp only at hk
  split at hk
  · rename_i e; subst e; injection hk with hk; subst hk; exact hp
  · exact h k x hk
theorem cell_frm {W W' : World} {m : Nat} {a : Addr} {v : Value} {α β : Type} [DecidableEq α] {kV : α → Value} {vV : β → Value} {F : α → Option β} (hm : MpIs kV vV W m F) (hf : Fr (fun b => b = m) W W') (h : W.cell? a = some v) : W'.cell? a = some v := by
  have hlt : a.block < W.heap.size := by
    rcases Nat.lt_or_ge a.block W.heap.size with h' | h'
    · exact h'
    · simp [World.cell?, Array.getElem?_eq_none h'] at h
  have hne : ¬ a.block = m := fun e => by
    obtain ⟨L, hL, _⟩ := hm
    have h2 : W.heap[m]? = some (.map (mkE kV vV L) L.length) := hL
    rw [← e] at h2
    simp [World.cell?, h2] at h
  exact (World.cell?_of_block (w := W) (hf.block _ hlt hne)).trans h
theorem SlAt.frm {W W' : World} {B sz n m : Nat} {A : Option Addr} {f : Nat → Nat → Value} {α β : Type} [DecidableEq α] {kV : α → Value} {vV : β → Value} {F : α → Option β} (h : SlAt W B sz A n f) (hm : MpIs kV vV W m F) (hf : Fr (fun b => b = m) W W') : SlAt W' B sz A n f :=
  fun hn => let ⟨b, off, e, hb, hc⟩ := h hn; ⟨b, off, e, hb, fun k j hk hj => cell_frm hm hf (hc k j hk hj)⟩
theorem blk_neMap {w : World} {g : Nat} {t : TypeId} {cs : Array Value} (h : Blk w g t cs) {α β : Type} [DecidableEq α] {kV : α → Value} {vV : β → Value} {m : Nat} {F : α → Option β} (hm : MpIs kV vV w m F) : g ≠ m := by
  obtain ⟨L, hL, _⟩ := hm
  intro e
  subst e
  have h2 : w.heap[g]? = some (.map (mkE kV vV L) L.length) := hL
  unfold Blk at h
  rw [h] at h2; cases h2
theorem own_neMap {w : World} {base : Nat} {e : TypeId} {sz n : Nat} {v : Value} {xs : List Value} (h : w.ownsRow base e sz v n xs) {α β : Type} [DecidableEq α] {kV : α → Value} {vV : β → Value} {m : Nat} {F : α → Option β} (hm : MpIs kV vV w m F) : v.ownBlock ≠ some m := by
  obtain ⟨L, hL, _⟩ := hm
  rcases h.2 with ⟨rfl, _⟩ | ⟨g, cap, cur, rfl, _, hh, _⟩
  · simp [Value.ownBlock]
  · intro e
    have : g = m := by simpa [Value.ownBlock] using e
    subst this
    have h2 : w.heap[g]? = some (.map (mkE kV vV L) L.length) := hL
    rw [hh] at h2; cases h2
theorem Blk.frm {W W' : World} {m g : Nat} {t : TypeId} {cs : Array Value} {α β : Type} [DecidableEq α] {kV : α → Value} {vV : β → Value} {F : α → Option β} (h : Blk W g t cs) (hm : MpIs kV vV W m F) (hf : Fr (fun b => b = m) W W') : Blk W' g t cs := h.fr hf (fun e => blk_neMap h hm e)
theorem field_plan0 (m a b c : Int) (W : World) : (Instr.field 139 (.agg #[.int .i64 m, .int .i64 a, .int .i64 b, .int .i64 c]) 0).run Try.prog W = .ok (.int .i64 m) W := by kernel_rfl
theorem field_plan1 (m a b c : Int) (W : World) : (Instr.field 139 (.agg #[.int .i64 m, .int .i64 a, .int .i64 b, .int .i64 c]) 1).run Try.prog W = .ok (.agg #[.int .i64 a, .int .i64 b, .int .i64 c]) W := by kernel_rfl
structure BestV (t : Tm) (l : V3) (mb : Nat) (W W' : World) (e : Ending) : Prop where
  out : ∃ (m : Nat) (own : V3) (F' : V3 → Option (Nat × V3)), e = .returned (.agg #[.int .i64 (m : Int), .int .i64 own.a, .int .i64 own.b, .int .i64 own.c]) ∧ PlanIs t l m own ∧ MpIs keyV plV W' mb F' ∧ KOk t F' ∧ Fr (fun b => b = mb) W W'
def subTo (l d : V3) : Nat → V3
  | 0 => l
  | j + 1 => (subTo l d j).set j (l.get j - d.get j)
theorem subTo_get (l d : V3) (j : Nat) (hj : j ≤ 3) (i : Nat) : (subTo l d j).get i = if i < j then l.get i - d.get i else l.get i := by
  induction j with
  | zero => simp [subTo]
  | succ j ih =>
    rw [subTo, V3.set_get _ _ _ _ (by omega), ih (by omega)]
    by_cases h : i = j
    · subst h; simp
    · rw [if_neg h]
      by_cases h2 : i < j
      · rw [if_pos h2, if_pos (by omega)]
      · rw [if_neg h2, if_neg (by omega)]
theorem subTo_all (l d : V3) : subTo l d 3 = l.sub d := V3.ext' fun i hi => by rw [subTo_get _ _ _ (Nat.le_refl _), if_pos hi, V3.sub_get]
theorem left_row {w : World} {base : Nat} {A : Option Addr} {c : Nat} {l : List V3} (h : w.ownsRow base 136 3 (.slice A l.length c) l.length (l.flatMap cV3)) {k : Nat} (hk : k < l.length) : ∃ g, A = some ⟨g, 0, none⟩ ∧ base ≤ g ∧ g < w.heap.size ∧ w.cell? ⟨g, k * 3, none⟩ = some (.int .i64 l[k].a) ∧ w.cell? ⟨g, k * 3 + 1, none⟩ = some (.int .i64 l[k].b) ∧ w.cell? ⟨g, k * 3 + 2, none⟩ = some (.int .i64 l[k].c) := by
  obtain ⟨A', c', e, _, _, hr⟩ := own_row (c := cV3) (sz := 3) (fun _ => rfl) (f := fun k j => ((cV3 (l.getD k default))[j]?).getD undef) (fun k hk j hj => by
    have : l.getD k default = l[k] := by simp [hk]
    show (cV3 l[k])[j]? = some (((cV3 (l.getD k default))[j]?).getD undef)
    rw [this]
    match j, hj with
    | 0, _ => rfl
    | 1, _ => rfl
    | 2, _ => rfl) h
  injection e with e1 _ _
  subst e1
  rcases hr with h0 | ⟨g, cur, rfl, hg, hb, hc⟩
  · omega
  · have hx : l.getD k default = l[k] := by simp [hk]
    refine ⟨g, rfl, hg, hb.lt, ?_, ?_, ?_⟩
    · have h9 : cur[k * 3 + 0]? = some (((cV3 (l.getD k default))[0]?).getD undef) := hc k 0 hk (by omega)
      rw [hx] at h9; exact (hb.cell _).trans h9
    · have h9 : cur[k * 3 + 1]? = some (((cV3 (l.getD k default))[1]?).getD undef) := hc k 1 hk (by omega)
      rw [hx] at h9; exact (hb.cell _).trans h9
    · have h9 : cur[k * 3 + 2]? = some (((cV3 (l.getD k default))[2]?).getD undef) := hc k 2 hk (by omega)
      rw [hx] at h9; exact (hb.cell _).trans h9
set_option maxRecDepth 100000 in
set_option maxHeartbeats 6400000 in
theorem best_any (t : Tm) (Ar Ah : Option Addr) (cr ch mb : Nat) (ht : TmOk t) :
    ∀ (n : Nat) (l : V3) (F : V3 → Option (Nat × V3)) (W : World), l.sum < n → HrOk t l → TmIn W W.heap.size t Ar Ah → MpIs keyV plV W mb F → KOk t F →
    Calls Try.prog 70 #[.agg #[.slice Ar t.rates.length cr, .slice Ah t.hours.length ch, .int .i64 t.limit, .int .i64 t.most], .agg (v3C l), .map (some mb)] W fun e W' => BestV t l mb W W' e := by
  obtain ⟨i0, hi0, hz0, hz1, hz2⟩ := info_parts plan_info
  have hl3 : t.rates.length ≤ 3 := ht.len.2.1
  intro n
  induction n with
  | zero => intro l F W hn hl _ _ _; have := hl.bd 0 (by omega); have := hl.bd 1 (by omega); have := hl.bd 2 (by omega); unfold V3.sum at hn; simp only [V3.get] at *; omega
  | succ n ih =>
    intro l F W hn hl htm hmp hko
    have HIH := Lib.hid ih
    clear ih
    unfold v3C
    have hb1 := ex_alloc (ex_alloc (ex_alloc (Below.refl W.heap.size W) (.cells #[.slice Ar t.rates.length cr, .slice Ah t.hours.length ch, .int .i64 t.limit, .int .i64 t.most] 59)) (.cells #[.int .i64 l.a, .int .i64 l.b, .int .i64 l.c] 136)) (.cells #[.int .i64 0, .int .i64 0, .int .i64 0, .int .i64 0] 139)
    have q3 : Blk (((W.alloc (.cells #[.slice Ar t.rates.length cr, .slice Ah t.hours.length ch, .int .i64 t.limit, .int .i64 t.most] 59)).alloc (.cells #[.int .i64 l.a, .int .i64 l.b, .int .i64 l.c] 136)).alloc (.cells #[.int .i64 0, .int .i64 0, .int .i64 0, .int .i64 0] 139)) (W.heap.size) 59 #[.slice Ar t.rates.length cr, .slice Ah t.hours.length ch, .int .i64 t.limit, .int .i64 t.most] := ((Blk.new' _ _ _ (by simp)).alloc _).alloc _
    have q4 : Blk (((W.alloc (.cells #[.slice Ar t.rates.length cr, .slice Ah t.hours.length ch, .int .i64 t.limit, .int .i64 t.most] 59)).alloc (.cells #[.int .i64 l.a, .int .i64 l.b, .int .i64 l.c] 136)).alloc (.cells #[.int .i64 0, .int .i64 0, .int .i64 0, .int .i64 0] 139)) (W.heap.size + 1) 136 #[.int .i64 l.a, .int .i64 l.b, .int .i64 l.c] := (Blk.new' _ _ _ (by simp)).alloc _
    have q6 : Blk (((W.alloc (.cells #[.slice Ar t.rates.length cr, .slice Ah t.hours.length ch, .int .i64 t.limit, .int .i64 t.most] 59)).alloc (.cells #[.int .i64 l.a, .int .i64 l.b, .int .i64 l.c] 136)).alloc (.cells #[.int .i64 0, .int .i64 0, .int .i64 0, .int .i64 0] 139)) (W.heap.size + 1 + 1) 139 #[.int .i64 0, .int .i64 0, .int .i64 0, .int .i64 0] := Blk.new' _ _ _ (by simp)
    have hzz : (((W.alloc (.cells #[.slice Ar t.rates.length cr, .slice Ah t.hours.length ch, .int .i64 t.limit, .int .i64 t.most] 59)).alloc (.cells #[.int .i64 l.a, .int .i64 l.b, .int .i64 l.c] 136)).alloc (.cells #[.int .i64 0, .int .i64 0, .int .i64 0, .int .i64 0] 139)).heap.size = W.heap.size + 1 + 1 + 1 := by simp
    go_enter Try.func70, Try.ntmps70
    go_upto_region 1 with fail
    show Code.wp _ _ _ _ (((W.alloc (.cells #[.slice Ar t.rates.length cr, .slice Ah t.hours.length ch, .int .i64 t.limit, .int .i64 t.most] 59)).alloc (.cells #[.int .i64 l.a, .int .i64 l.b, .int .i64 l.c] 136)).alloc (.cells #[.int .i64 0, .int .i64 0, .int .i64 0, .int .i64 0] 139))
    obtain ⟨p0, hp0⟩ : ∃ p, W.heap.size = p := ⟨_, rfl⟩
    rw [hp0] at q3 q4 q6 hzz ⊢
    have HP0 := Lib.hid hp0
    have mp1 := hmp.below hb1
    generalize ((W.alloc (.cells #[.slice Ar t.rates.length cr, .slice Ah t.hours.length ch, .int .i64 t.limit, .int .i64 t.most] 59)).alloc (.cells #[.int .i64 l.a, .int .i64 l.b, .int .i64 l.c] 136)).alloc (.cells #[.int .i64 0, .int .i64 0, .int .i64 0, .int .i64 0] 139) = W1 at *
    clear hp0
    have b0 : W1.cell? ⟨p0 + 1, 0, none⟩ = some (.int .i64 l.a) := q4.cell 0
    have b1 : W1.cell? ⟨p0 + 1, 1, none⟩ = some (.int .i64 l.b) := q4.cell 1
    have b2 : W1.cell? ⟨p0 + 1, 2, none⟩ = some (.int .i64 l.c) := q4.cell 2
    have lb := q4.lt
    have a0 : W1.cell? ⟨p0, 0, none⟩ = some (.slice Ar t.rates.length cr) := q3.cell 0
    have a1 : W1.cell? ⟨p0, 1, none⟩ = some (.slice Ah t.hours.length ch) := q3.cell 1
    have a2 : W1.cell? ⟨p0, 2, none⟩ = some (.int .i64 t.limit) := q3.cell 2
    have a3 : W1.cell? ⟨p0, 3, none⟩ = some (.int .i64 t.most) := q3.cell 3
    have la := q3.lt
    have zc0 : W1.cell? ⟨p0 + 1 + 1, 0, none⟩ = some (.int .i64 0) := q6.cell 0
    have zc1 : W1.cell? ⟨p0 + 1 + 1, 1, none⟩ = some (.int .i64 0) := q6.cell 1
    have zc2 : W1.cell? ⟨p0 + 1 + 1, 2, none⟩ = some (.int .i64 0) := q6.cell 2
    have zc3 : W1.cell? ⟨p0 + 1 + 1, 3, none⟩ = some (.int .i64 0) := q6.cell 3
    have lz := q6.lt
    have fz := q6.frozen0
    by_cases hz : l = z3
    · have HZ := Lib.hid hz
      have hez : ∀ w, (Op.equalIn 10000 136 (.agg #[.int .i64 l.a, .int .i64 l.b, .int .i64 l.c]) (.agg #[.int .i64 0, .int .i64 0, .int .i64 0])).run Try.prog w = .ok true w := fun w => by have := eq_v3 l z3 w; rw [decide_eq_true hz] at this; exact this
      clear hz
      have fr1 := Fr.below (R := fun b => b = mb) hb1
      have qz := (((q6.set_ 0 (.int .i64 (0))).set_ 1 (.int .i64 (0))).set_ 2 (.int .i64 (0))).set_ 3 (.int .i64 (0))
      simp only [List.setIfInBounds_toArray, List.set_cons_zero, List.set_cons_succ] at qz
      have hfz : Fr (fun b => b = mb) W ((((W1.setCell ⟨p0 + 1 + 1, 0, none⟩ (.int .i64 (0))).setCell ⟨p0 + 1 + 1, 1, none⟩ (.int .i64 (0))).setCell ⟨p0 + 1 + 1, 2, none⟩ (.int .i64 (0))).setCell ⟨p0 + 1 + 1, 3, none⟩ (.int .i64 (0))) := ⟨fr1.os, fr1.tape, fr1.output, by simp; exact fr1.size, fun k hk hn => by
        have := HP0.out
        rw [Below.heap_setCell _ _ _ k (by show k ≠ p0 + 1 + 1; omega), Below.heap_setCell _ _ _ k (by show k ≠ p0 + 1 + 1; omega), Below.heap_setCell _ _ _ k (by show k ≠ p0 + 1 + 1; omega), Below.heap_setCell _ _ _ k (by show k ≠ p0 + 1 + 1; omega)]
        exact fr1.block k hk hn⟩
      have hmz : MpIs keyV plV ((((W1.setCell ⟨p0 + 1 + 1, 0, none⟩ (.int .i64 (0))).setCell ⟨p0 + 1 + 1, 1, none⟩ (.int .i64 (0))).setCell ⟨p0 + 1 + 1, 2, none⟩ (.int .i64 (0))).setCell ⟨p0 + 1 + 1, 3, none⟩ (.int .i64 (0))) mb _ := mp1.of_block (by rw [Below.heap_setCell _ _ _ mb (by show mb ≠ p0 + 1 + 1; exact fun e => blk_neMap q6 mp1 e.symm), Below.heap_setCell _ _ _ mb (by show mb ≠ p0 + 1 + 1; exact fun e => blk_neMap q6 mp1 e.symm), Below.heap_setCell _ _ _ mb (by show mb ≠ p0 + 1 + 1; exact fun e => blk_neMap q6 mp1 e.symm), Below.heap_setCell _ _ _ mb (by show mb ≠ p0 + 1 + 1; exact fun e => blk_neMap q6 mp1 e.symm)])
      have HMZ := Lib.hid hmz
      clear hmz
      go_wp2_with fail
      refine bodyPost_ret (results_cell_row rfl _ _ (p0 + 1 + 1) 139 _ (0, 0) _ rfl qz rfl rfl rfl) rfl ?_
      exact ⟨⟨0, z3, F, rfl, by rw [HZ.out]; exact PlanIs.zero, HMZ.out, hko, hfz⟩⟩
    · have HZ := Lib.hid hz
      have hez : ∀ w, (Op.equalIn 10000 136 (.agg #[.int .i64 l.a, .int .i64 l.b, .int .i64 l.c]) (.agg #[.int .i64 0, .int .i64 0, .int .i64 0])).run Try.prog w = .ok false w := fun w => by have := eq_v3 l z3 w; rw [decide_eq_false hz] at this; exact this
      clear hz
      have hlk := MpIs.at2 (et := 139) Try.underlying137 hi0 hz0 keyV_fd mp1 l
      unfold keyV v3C at hlk
      cases hF : F l with
      | none =>
        rw [hF] at hlk
        clear hF
        have X9 := ex_alloc (ex_alloc (Below.refl W1.heap.size W1) (.cells #[.int .i64 0, .int .i64 0, .int .i64 0, .int .i64 0] 139)) (.cells #[.int .i64 7, .int .i64 0, .int .i64 0, .int .i64 0] 139)
        have q9 : Blk ((W1.alloc (.cells #[.int .i64 0, .int .i64 0, .int .i64 0, .int .i64 0] 139)).alloc (.cells #[.int .i64 7, .int .i64 0, .int .i64 0, .int .i64 0] 139)) (W1.heap.size + 1) 139 #[.int .i64 7, .int .i64 0, .int .i64 0, .int .i64 0] := Blk.new' _ _ _ (by simp)
        have q39 := q3.below X9 q3.lt
        have q49 := q4.below X9 q4.lt
        have q69 := q6.below X9 q6.lt
        have mp9 := mp1.below X9
        have B9 := ex_trans hb1 X9
        go_upto_region 7 with fail
        show Code.wp _ _ _ _ ((W1.alloc (.cells #[.int .i64 0, .int .i64 0, .int .i64 0, .int .i64 0] 139)).alloc (.cells #[.int .i64 7, .int .i64 0, .int .i64 0, .int .i64 0] 139))
        rw [hzz] at q9
        generalize (W1.alloc (.cells #[.int .i64 0, .int .i64 0, .int .i64 0, .int .i64 0] 139)).alloc (.cells #[.int .i64 7, .int .i64 0, .int .i64 0, .int .i64 0] 139) = W9 at *
        skip
        clear hlk hez
        have b09 : W9.cell? ⟨p0 + 1, 0, none⟩ = some (.int .i64 l.a) := q49.cell 0
        have b19 : W9.cell? ⟨p0 + 1, 1, none⟩ = some (.int .i64 l.b) := q49.cell 1
        have b29 : W9.cell? ⟨p0 + 1, 2, none⟩ = some (.int .i64 l.c) := q49.cell 2
        have lb9 := q49.lt
        have a09 : W9.cell? ⟨p0, 0, none⟩ = some (.slice Ar t.rates.length cr) := q39.cell 0
        have a19 : W9.cell? ⟨p0, 1, none⟩ = some (.slice Ah t.hours.length ch) := q39.cell 1
        have a29 : W9.cell? ⟨p0, 2, none⟩ = some (.int .i64 t.limit) := q39.cell 2
        have a39 : W9.cell? ⟨p0, 3, none⟩ = some (.int .i64 t.most) := q39.cell 3
        have la9 := q39.lt
        go_wp2_with fail
        have hdy := days_team t Ar Ah cr ch W9 ⟨(htm.rates.below B9).up B9.size, (htm.hours.below B9).up B9.size⟩ ht l hl
        unfold v3C at hdy
        refine hdy.mono ?_
        clear hdy
        rintro e Wd ⟨⟨A, cA, rfl, hds⟩, hd⟩
        obtain ⟨ds, hdsE⟩ : ∃ x, daysL t l = x := ⟨_, rfl⟩
        rw [hdsE] at hds ⊢
        have HDS := Lib.hid hdsE
        have hdl : ds.length ≤ 729 := by rw [← hdsE]; exact daysL_len ht hl
        clear hdsE
        have frd : Fr (fun b => b = mb) W Wd := Fr.below (ex_trans B9 hd)
        have q3d := q39.below hd q39.lt
        have q4d := q49.below hd q49.lt
        have q6d := q69.below hd q69.lt
        have q9d := q9.below hd q9.lt
        have mpd := mp9.below hd
        clear b09 b19 b29 lb9 a09 a19 a29 a39 la9
        have hW9s : p0 + 1 + 1 + 1 + 1 < W9.heap.size := q9.lt
        go_wp2_with fail
        refine wp_loop (fun a V => Rel (fun a V => ∃ k : Nat, k ≤ ds.length ∧ (∃ (m : Nat) (own : V3) (F' : V3 → Option (Nat × V3)), Looked t l (ds.take k) m own ∧ Blk V (p0 + 1 + 1 + 1 + 1) 139 #[.int .i64 (m : Int), .int .i64 own.a, .int .i64 own.b, .int .i64 own.c] ∧ MpIs keyV plV V mb F' ∧ KOk t F') ∧ Fr (fun b => b = mb) W V ∧ Blk V p0 59 #[.slice Ar t.rates.length cr, .slice Ah t.hours.length ch, .int .i64 t.limit, .int .i64 t.most] ∧ Blk V (p0 + 1) 136 #[.int .i64 l.a, .int .i64 l.b, .int .i64 l.c] ∧ Blk V (p0 + 1 + 1) 139 #[.int .i64 0, .int .i64 0, .int .i64 0, .int .i64 0] ∧ V.ownsRow W9.heap.size 136 3 (.slice A ds.length cA) ds.length (ds.flatMap cV3) ∧ ∃ u : Nat → Value, a = ⟨List.toArray (u 0 :: u 1 :: .map (some mb) :: .pointer (some ⟨p0, 0, none⟩) :: .pointer (some ⟨p0 + 1, 0, none⟩) :: u 5 :: .pointer (some ⟨p0 + 1 + 1, 0, none⟩) :: u 7 :: u 8 :: .pointer (some ⟨p0 + 1 + 1 + 1 + 1, 0, none⟩) :: u 10 :: u 11 :: u 12 :: u 13 :: u 14 :: u 15 :: u 16 :: u 17 :: u 18 :: u 19 :: u 20 :: u 21 :: u 22 :: u 23 :: u 24 :: u 25 :: u 26 :: u 27 :: u 28 :: u 29 :: .slice A ds.length cA :: .int .i64 (ds.length : Int) :: .int .i64 (k : Int) :: u 33 :: u 34 :: u 35 :: u 36 :: u 37 :: u 38 :: u 39 :: u 40 :: u 41 :: u 42 :: u 43 :: u 44 :: u 45 :: u 46 :: u 47 :: u 48 :: u 49 :: u 50 :: u 51 :: u 52 :: u 53 :: u 54 :: u 55 :: u 56 :: u 57 :: u 58 :: u 59 :: u 60 :: u 61 :: u 62 :: u 63 :: u 64 :: u 65 :: u 66 :: []), []⟩) a V) (fun a _ => ds.length - (intOf (a.tmps.getD 32 undef)).toNat) ⟨⟨0, by omega, ⟨7, z3, F, Looked.nil, q9d, mpd, hko⟩, frd, q3d, q4d, q6d, hds, exFrame (by kernel_rfl)⟩⟩ ?_
        clear q3d q4d q6d q9d mpd hds frd hd q39 q49 q69 q9 mp9 X9 B9
        rintro a V ⟨⟨k, hk, ⟨m, own, F', hL, q9, mp, ko⟩, frV, q3, q4, q6, hds, u, rfl⟩⟩
        have hm7 := hL.le
        by_cases hlt : k < ds.length
        · obtain ⟨g, rfl, hgb, hgl, e0, e1, e2⟩ := left_row hds hlt
          have hmem : ds[k] ∈ daysL t l := by rw [HDS.out]; exact List.getElem_mem hlt
          obtain ⟨hpart, hdz⟩ := (daysL_mem ht hl _).1 hmem
          obtain ⟨d, hd⟩ : ∃ d, ds[k] = d := ⟨_, rfl⟩
          rw [hd] at hpart hdz e0 e1 e2
          have HD := Lib.hid hd
          clear hd hmem
          have X12 := ex_alloc (ex_alloc (Below.refl V.heap.size V) (.cells #[.int .i64 d.a, .int .i64 d.b, .int .i64 d.c] 136)) (.cells #[.int .i64 l.a, .int .i64 l.b, .int .i64 l.c] 136)
          have t11 : Blk ((V.alloc (.cells #[.int .i64 d.a, .int .i64 d.b, .int .i64 d.c] 136)).alloc (.cells #[.int .i64 l.a, .int .i64 l.b, .int .i64 l.c] 136)) V.heap.size 136 #[.int .i64 d.a, .int .i64 d.b, .int .i64 d.c] := (Blk.new _ _ _).alloc _
          have t12 : Blk ((V.alloc (.cells #[.int .i64 d.a, .int .i64 d.b, .int .i64 d.c] 136)).alloc (.cells #[.int .i64 l.a, .int .i64 l.b, .int .i64 l.c] 136)) (V.heap.size + 1) 136 (v3C (subTo l d 0)) := Blk.new' _ _ _ (by simp)
          have b0 : V.cell? ⟨p0 + 1, 0, none⟩ = some (.int .i64 l.a) := q4.cell 0
          have b1 : V.cell? ⟨p0 + 1, 1, none⟩ = some (.int .i64 l.b) := q4.cell 1
          have b2 : V.cell? ⟨p0 + 1, 2, none⟩ = some (.int .i64 l.c) := q4.cell 2
          have lb := q4.lt
          go_upto_region 11 with fail
          show Code.wp _ _ _ _ ((V.alloc (.cells #[.int .i64 d.a, .int .i64 d.b, .int .i64 d.c] 136)).alloc (.cells #[.int .i64 l.a, .int .i64 l.b, .int .i64 l.c] 136))
          have q3x := q3.below X12 q3.lt
          have q4x := q4.below X12 q4.lt
          have q6x := q6.below X12 q6.lt
          have q9x := q9.below X12 q9.lt
          have mpx := mp.below X12
          have dsx := own_below hds X12
          have frx := frV.trans (Fr.below (R := fun b => b = mb) X12) (fun _ _ h => h)
          have hVs : ((V.alloc (.cells #[.int .i64 d.a, .int .i64 d.b, .int .i64 d.c] 136)).alloc (.cells #[.int .i64 l.a, .int .i64 l.b, .int .i64 l.c] 136)).heap.size = V.heap.size + 1 + 1 := by simp
          have hVl : p0 + 1 + 1 + 1 + 1 < V.heap.size := q9.lt
          generalize (V.alloc (.cells #[.int .i64 d.a, .int .i64 d.b, .int .i64 d.c] 136)).alloc (.cells #[.int .i64 l.a, .int .i64 l.b, .int .i64 l.c] 136) = Y at *
          obtain ⟨p11, hp11⟩ : ∃ p, V.heap.size = p := ⟨_, rfl⟩
          rw [hp11] at t11 t12 hVs hVl hgl ⊢
          clear hp11 b0 b1 b2 lb e0 e1 e2
          go_wp2_with fail
          refine wp_loop (fun a Z => Rel (fun a Z => ∃ j : Nat, j ≤ 3 ∧ Blk Z (p11 + 1) 136 (v3C (subTo l d j)) ∧ Fr (fun b => b = p11 + 1) Y Z ∧ ∃ u : Nat → Value, a = ⟨List.toArray (u 0 :: u 1 :: .map (some mb) :: .pointer (some ⟨p0, 0, none⟩) :: .pointer (some ⟨p0 + 1, 0, none⟩) :: u 5 :: .pointer (some ⟨p0 + 1 + 1, 0, none⟩) :: u 7 :: u 8 :: .pointer (some ⟨p0 + 1 + 1 + 1 + 1, 0, none⟩) :: u 10 :: .pointer (some ⟨p11, 0, none⟩) :: .pointer (some ⟨p11 + 1, 0, none⟩) :: u 13 :: u 14 :: u 15 :: u 16 :: u 17 :: u 18 :: u 19 :: u 20 :: u 21 :: u 22 :: u 23 :: u 24 :: u 25 :: u 26 :: u 27 :: u 28 :: u 29 :: .slice (some ⟨g, 0, none⟩) ds.length cA :: .int .i64 (ds.length : Int) :: .int .i64 (k : Int) :: u 33 :: u 34 :: u 35 :: u 36 :: .int .i64 (j : Int) :: u 38 :: u 39 :: u 40 :: u 41 :: u 42 :: u 43 :: u 44 :: u 45 :: u 46 :: u 47 :: u 48 :: u 49 :: u 50 :: u 51 :: u 52 :: u 53 :: u 54 :: u 55 :: u 56 :: u 57 :: u 58 :: u 59 :: u 60 :: u 61 :: u 62 :: u 63 :: u 64 :: u 65 :: u 66 :: []), []⟩) a Z) (fun a _ => 3 - (intOf (a.tmps.getD 37 undef)).toNat) ⟨⟨0, by omega, t12, Fr.refl _ _, exFrame (by kernel_rfl)⟩⟩ ?_
          rintro a Z ⟨⟨j, hj, s12, frz, u2, rfl⟩⟩
          by_cases hlj : j < 3
          · have s11 := t11.fr frz (by omega)
            have v1 := s12.cell j
            rw [v3_at _ hlj, subTo_get l d j hj, if_neg (by omega)] at v1
            have v2 : Z.cell? ⟨p11, j, none⟩ = _ := (s11.cell j).trans (v3_at d hlj)
            have hjl := hl.bd j hlj
            have hjd := hpart.bd j hlj
            have hs := s12.set_ j (.int .i64 (l.get j - d.get j))
            rw [v3_set _ hlj] at hs
            have hs' : (subTo l d j).set j (l.get j - d.get j) = subTo l d (j + 1) := rfl
            rw [hs'] at hs
            clear hs'
            obtain ⟨lj, hlj2⟩ : ∃ x, l.get j = x := ⟨_, rfl⟩
            obtain ⟨dj, hdj2⟩ : ∃ x, d.get j = x := ⟨_, rfl⟩
            rw [hlj2] at v1 hjl hjd hs
            rw [hdj2] at v2 hjd hs
            clear hlj2 hdj2
            have l12 := s12.lt
            have l11 := s11.lt
            have f12 := s12.frozen0
            have hj33 : (j : Int) < 3 := by omega
            have DD := (Below.refl Z.heap.size Z).drew
            go_upto_region 14 with fail
            refine wp_region_ext_mix 8 [(false, 0), (false, 1), (false, 2), (false, 3), (false, 4), (false, 5), (false, 6), (false, 7)] (by kernel_rfl) (by kernel_rfl) (by intro d _ _ _ _ h; cases d <;> exact h) ?_
            repeat (refine mix_quiet rfl ?_; go_big_quiet_step (fail); refine wpQuiet_nil ?_)
            refine mix_nil (r := [_]) rfl ?_
            have hs2 : Blk (Z.drew.setCell ⟨p11 + 1, j, none⟩ (.int .i64 (lj - dj))) (p11 + 1) 136 (v3C (subTo l d (j + 1))) := hs
            have frz2 : Fr (fun b => b = p11 + 1) Y (Z.drew.setCell ⟨p11 + 1, j, none⟩ (.int .i64 (lj - dj))) := (frz.trans (Fr.below (R := fun b => b = p11 + 1) DD) (fun _ _ h => h)).trans (Fr.set (R := fun b => b = p11 + 1) _ _ _ _ rfl) (fun _ _ h => h)
            go_wp2_with fail
            refine ⟨⟨⟨j + 1, by omega, hs2, frz2, exFrame (by kernel_rfl)⟩⟩, ?_⟩
            show 3 - (intOf (.int .i64 ((j : Int) + 1))).toNat < 3 - (intOf (.int .i64 (j : Int))).toNat
            simp [intOf]
            omega
          · obtain rfl : j = 3 := by omega
            rw [subTo_all] at s12
            have s11 := t11.fr frz (by omega)
            have q3z := q3x.fr frz (by omega)
            have q4z := q4x.fr frz (by omega)
            have q6z := q6x.fr frz (by omega)
            have q9z := q9x.fr frz (by omega)
            have mpz := mpx.fr frz (fun e => by have := blk_neMap t12 mpx; omega)
            have dsz := own_fr dsx frz (fun b hb e => by
              have hb : g = b := by simpa [Value.ownBlock] using hb
              omega)
            have frW := frx.trans frz (fun x hx e => by have := frV.size; have := HP0.out; omega)
            clear t11 t12 q3x q4x q6x q9x mpx dsx frx frz frV X12 q3 q4 q6 q9 mp hds
            obtain ⟨e', he'⟩ : ∃ e, l.sub d = e := ⟨_, rfl⟩
            have hhr := hpart.hr hl
            have hsm := part_sum hpart hdz
            rw [he'] at s12 hhr hsm
            have HE' := Lib.hid he'
            clear he'
            have a0 : Z.cell? ⟨p0, 0, none⟩ = some (.slice Ar t.rates.length cr) := q3z.cell 0
            have a1 : Z.cell? ⟨p0, 1, none⟩ = some (.slice Ah t.hours.length ch) := q3z.cell 1
            have a2 : Z.cell? ⟨p0, 2, none⟩ = some (.int .i64 t.limit) := q3z.cell 2
            have a3 : Z.cell? ⟨p0, 3, none⟩ = some (.int .i64 t.most) := q3z.cell 3
            have la := q3z.lt
            have c0 : Z.cell? ⟨p11 + 1, 0, none⟩ = some (.int .i64 e'.a) := s12.cell 0
            have c1 : Z.cell? ⟨p11 + 1, 1, none⟩ = some (.int .i64 e'.b) := s12.cell 1
            have c2 : Z.cell? ⟨p11 + 1, 2, none⟩ = some (.int .i64 e'.c) := s12.cell 2
            have lc := s12.lt
            have HH := HIH.out e' F' Z (by omega) hhr.2 ⟨(htm.rates.frm hmp frW).up frW.size, (htm.hours.frm hmp frW).up frW.size⟩ mpz ko
            unfold v3C at HH
            go_wp2_with fail
            refine HH.mono ?_
            clear HH
            rintro e Z2 ⟨⟨m2, own2, F2, rfl, hp2, mp2, ko2, fr2⟩⟩
            have hfp := field_plan0
            have hm2 : m2 ≤ 7 := by rcases hp2.few with h | h <;> omega
            have q3y := q3z.frm mpz fr2
            have q4y := q4z.frm mpz fr2
            have q6y := q6z.frm mpz fr2
            have q9y := q9z.frm mpz fr2
            have s11y := s11.frm mpz fr2
            have dsy := own_fr dsz fr2 (fun b hb e => own_neMap dsz mpz (by rw [hb, e]))
            have frY := frW.trans fr2 (fun _ _ h => h)
            have hstep := hL.step hpart hdz (k := m2) (by rw [HE'.out]; exact hp2.few)
            have HTK : Hid (ds.take (k + 1) = ds.take k ++ [d]) := Lib.hid (by rw [List.take_succ_eq_append_getElem hlt, HD.out])
            clear a0 a1 a2 a3 la c0 c1 c2 lc s12
            have y0 : Z2.cell? ⟨p0 + 1 + 1 + 1 + 1, 0, none⟩ = some (.int .i64 (m : Int)) := q9y.cell 0
            have y1 : Z2.cell? ⟨p0 + 1 + 1 + 1 + 1, 1, none⟩ = some (.int .i64 own.a) := q9y.cell 1
            have y2 : Z2.cell? ⟨p0 + 1 + 1 + 1 + 1, 2, none⟩ = some (.int .i64 own.b) := q9y.cell 2
            have y3 : Z2.cell? ⟨p0 + 1 + 1 + 1 + 1, 3, none⟩ = some (.int .i64 own.c) := q9y.cell 3
            have l9 := q9y.lt
            have f9 := q9y.frozen0
            have x0 : Z2.cell? ⟨p11, 0, none⟩ = some (.int .i64 d.a) := s11y.cell 0
            have x1 : Z2.cell? ⟨p11, 1, none⟩ = some (.int .i64 d.b) := s11y.cell 1
            have x2 : Z2.cell? ⟨p11, 2, none⟩ = some (.int .i64 d.c) := s11y.cell 2
            have l11 := s11y.lt
            by_cases hless : m2 + 1 < m
            · rw [if_pos hless, if_pos hless] at hstep
              have hl2 : (m2 : Int) + 1 < (m : Int) := by omega
              have HST : Hid (Looked t l (ds.take (k + 1)) (m2 + 1) d) := Lib.hid (by rw [HTK.out]; exact hstep)
              clear hstep
              have q9n := (((q9y.set_ 0 (.int .i64 ((m2 : Int) + 1))).set_ 1 (.int .i64 d.a)).set_ 2 (.int .i64 d.b)).set_ 3 (.int .i64 d.c)
              simp only [List.setIfInBounds_toArray, List.set_cons_zero, List.set_cons_succ] at q9n
              have frs : Fr (fun b => b = p0 + 1 + 1 + 1 + 1) Z2 ((((Z2.setCell ⟨p0 + 1 + 1 + 1 + 1, 0, none⟩ (.int .i64 ((m2 : Int) + 1))).setCell ⟨p0 + 1 + 1 + 1 + 1, 1, none⟩ (.int .i64 (d.a))).setCell ⟨p0 + 1 + 1 + 1 + 1, 2, none⟩ (.int .i64 (d.b))).setCell ⟨p0 + 1 + 1 + 1 + 1, 3, none⟩ (.int .i64 (d.c))) := (((Fr.set (R := fun b => b = p0 + 1 + 1 + 1 + 1) _ _ _ _ rfl).trans (Fr.set (R := fun b => b = p0 + 1 + 1 + 1 + 1) _ _ _ _ rfl) (fun _ _ h => h)).trans (Fr.set (R := fun b => b = p0 + 1 + 1 + 1 + 1) _ _ _ _ rfl) (fun _ _ h => h)).trans (Fr.set (R := fun b => b = p0 + 1 + 1 + 1 + 1) _ _ _ _ rfl) (fun _ _ h => h)
              have q3n := q3y.fr frs (by omega)
              have q4n := q4y.fr frs (by omega)
              have q6n := q6y.fr frs (by omega)
              have mpn := mp2.fr frs (fun e => blk_neMap q9y mp2 e.symm)
              have dsn := own_fr dsy frs (fun b hb e => by have hb : g = b := by simpa [Value.ownBlock] using hb
                                                           omega)
              have frn := frY.trans frs (fun x hx e => by have := HP0.out; omega)
              go_wp2_with fail
              refine ⟨⟨⟨k + 1, by omega, ⟨m2 + 1, d, F2, HST.out, q9n, mpn, ko2⟩, frn, q3n, q4n, q6n, dsn, exFrame (by kernel_rfl)⟩⟩, ?_⟩
              show ds.length - (intOf (.int .i64 ((k : Int) + 1))).toNat < ds.length - (intOf (.int .i64 (k : Int))).toNat
              simp [intOf]
              omega
            · rw [if_neg hless, if_neg hless] at hstep
              have hl2 : ¬ ((m2 : Int) + 1 < (m : Int)) := by omega
              have HST : Hid (Looked t l (ds.take (k + 1)) m own) := Lib.hid (by rw [HTK.out]; exact hstep)
              clear hstep
              go_wp2_with fail
              refine ⟨⟨⟨k + 1, by omega, ⟨m, own, F2, HST.out, q9y, mp2, ko2⟩, frY, q3y, q4y, q6y, dsy, exFrame (by kernel_rfl)⟩⟩, ?_⟩
              show ds.length - (intOf (.int .i64 ((k : Int) + 1))).toNat < ds.length - (intOf (.int .i64 (k : Int))).toNat
              simp [intOf]
              omega
        · obtain rfl : k = ds.length := by omega
          rw [List.take_length] at hL
          have hpl := hL.plan HZ.out (fun d h1 h2 => by rw [← HDS.out]; exact (daysL_mem ht hl d).2 ⟨h1, h2⟩)
          have HPL := Lib.hid hpl
          clear hpl
          have b0 : V.cell? ⟨p0 + 1, 0, none⟩ = some (.int .i64 l.a) := q4.cell 0
          have b1 : V.cell? ⟨p0 + 1, 1, none⟩ = some (.int .i64 l.b) := q4.cell 1
          have b2 : V.cell? ⟨p0 + 1, 2, none⟩ = some (.int .i64 l.c) := q4.cell 2
          have lb := q4.lt
          have y0 : V.cell? ⟨p0 + 1 + 1 + 1 + 1, 0, none⟩ = some (.int .i64 (m : Int)) := q9.cell 0
          have y1 : V.cell? ⟨p0 + 1 + 1 + 1 + 1, 1, none⟩ = some (.int .i64 own.a) := q9.cell 1
          have y2 : V.cell? ⟨p0 + 1 + 1 + 1 + 1, 2, none⟩ = some (.int .i64 own.b) := q9.cell 2
          have y3 : V.cell? ⟨p0 + 1 + 1 + 1 + 1, 3, none⟩ = some (.int .i64 own.c) := q9.cell 3
          have l9 := q9.lt
          obtain ⟨ob, hup, mpu⟩ := MpIs.put (et := 139) Try.underlying137 keyV_fd mp l ((m, own) : Nat × V3)
          unfold keyV plV v3C at hup
          have frp := fr_putO (fun b => b = mb) V mb ob rfl
          have q6p := q6.frm mp frp
          have q9p := q9.frm mp frp
          have frq := frV.trans frp (fun _ _ h => h)
          go_upto_region 21 with fail
          generalize V.putObj mb ob = U at *
          clear hup y0 y1 y2 y3 l9 b0 b1 b2 lb
          have y0 : U.cell? ⟨p0 + 1 + 1 + 1 + 1, 0, none⟩ = some (.int .i64 (m : Int)) := q9p.cell 0
          have y1 : U.cell? ⟨p0 + 1 + 1 + 1 + 1, 1, none⟩ = some (.int .i64 own.a) := q9p.cell 1
          have y2 : U.cell? ⟨p0 + 1 + 1 + 1 + 1, 2, none⟩ = some (.int .i64 own.b) := q9p.cell 2
          have y3 : U.cell? ⟨p0 + 1 + 1 + 1 + 1, 3, none⟩ = some (.int .i64 own.c) := q9p.cell 3
          have l9 := q9p.lt
          have zc0p : U.cell? ⟨p0 + 1 + 1, 0, none⟩ = some (.int .i64 0) := q6p.cell 0
          have zc1p : U.cell? ⟨p0 + 1 + 1, 1, none⟩ = some (.int .i64 0) := q6p.cell 1
          have zc2p : U.cell? ⟨p0 + 1 + 1, 2, none⟩ = some (.int .i64 0) := q6p.cell 2
          have zc3p : U.cell? ⟨p0 + 1 + 1, 3, none⟩ = some (.int .i64 0) := q6p.cell 3
          have lzp := q6p.lt
          have fzp := q6p.frozen0
          have qz := (((q6p.set_ 0 (.int .i64 ((m : Int)))).set_ 1 (.int .i64 (own.a))).set_ 2 (.int .i64 (own.b))).set_ 3 (.int .i64 (own.c))
          simp only [List.setIfInBounds_toArray, List.set_cons_zero, List.set_cons_succ] at qz
          have hfz : Fr (fun b => b = mb) W ((((U.setCell ⟨p0 + 1 + 1, 0, none⟩ (.int .i64 ((m : Int)))).setCell ⟨p0 + 1 + 1, 1, none⟩ (.int .i64 (own.a))).setCell ⟨p0 + 1 + 1, 2, none⟩ (.int .i64 (own.b))).setCell ⟨p0 + 1 + 1, 3, none⟩ (.int .i64 (own.c))) := ⟨frq.os, frq.tape, frq.output, by simp; exact frq.size, fun k hk hn => by
            have := HP0.out
            rw [Below.heap_setCell _ _ _ k (by show k ≠ p0 + 1 + 1; omega), Below.heap_setCell _ _ _ k (by show k ≠ p0 + 1 + 1; omega), Below.heap_setCell _ _ _ k (by show k ≠ p0 + 1 + 1; omega), Below.heap_setCell _ _ _ k (by show k ≠ p0 + 1 + 1; omega)]
            exact frq.block k hk hn⟩
          have hmz : MpIs keyV plV ((((U.setCell ⟨p0 + 1 + 1, 0, none⟩ (.int .i64 ((m : Int)))).setCell ⟨p0 + 1 + 1, 1, none⟩ (.int .i64 (own.a))).setCell ⟨p0 + 1 + 1, 2, none⟩ (.int .i64 (own.b))).setCell ⟨p0 + 1 + 1, 3, none⟩ (.int .i64 (own.c))) mb _ := mpu.of_block (by rw [Below.heap_setCell _ _ _ mb (by show mb ≠ p0 + 1 + 1; exact fun e => blk_neMap q6p mpu e.symm), Below.heap_setCell _ _ _ mb (by show mb ≠ p0 + 1 + 1; exact fun e => blk_neMap q6p mpu e.symm), Below.heap_setCell _ _ _ mb (by show mb ≠ p0 + 1 + 1; exact fun e => blk_neMap q6p mpu e.symm), Below.heap_setCell _ _ _ mb (by show mb ≠ p0 + 1 + 1; exact fun e => blk_neMap q6p mpu e.symm)])
          have HMZ := Lib.hid hmz
          clear hmz
          go_wp2_with fail
          refine bodyPost_ret (results_cell_row rfl _ _ (p0 + 1 + 1) 139 _ (0, 0) _ rfl qz rfl rfl rfl) rfl ?_
          exact ⟨⟨m, own, _, rfl, HPL.out, HMZ.out, ko.put HPL.out, hfz⟩⟩
      | some x =>
        obtain ⟨m, own⟩ := x
        have hpl := hko l _ hF
        have HPL := Lib.hid hpl
        rw [hF] at hlk
        clear hF hpl
        unfold plV at hlk
        have X7 := ex_alloc (Below.refl W1.heap.size W1) (.cells #[.int .i64 (m : Int), .int .i64 own.a, .int .i64 own.b, .int .i64 own.c] 139)
        have q7 : Blk (W1.alloc (.cells #[.int .i64 (m : Int), .int .i64 own.a, .int .i64 own.b, .int .i64 own.c] 139)) W1.heap.size 139 #[.int .i64 (m : Int), .int .i64 own.a, .int .i64 own.b, .int .i64 own.c] := Blk.new _ _ _
        have q67 := q6.below X7 q6.lt
        have mp7 := mp1.below X7
        have fr7 := Fr.below (R := fun b => b = mb) (ex_trans hb1 X7)
        go_upto_region 5 with fail
        rw [hzz] at q7
        generalize W1.alloc (.cells #[.int .i64 (m : Int), .int .i64 own.a, .int .i64 own.b, .int .i64 own.c] 139) = W7 at *
        skip
        have y0 : W7.cell? ⟨p0 + 1 + 1 + 1, 0, none⟩ = some (.int .i64 (m : Int)) := q7.cell 0
        have y1 : W7.cell? ⟨p0 + 1 + 1 + 1, 1, none⟩ = some (.int .i64 own.a) := q7.cell 1
        have y2 : W7.cell? ⟨p0 + 1 + 1 + 1, 2, none⟩ = some (.int .i64 own.b) := q7.cell 2
        have y3 : W7.cell? ⟨p0 + 1 + 1 + 1, 3, none⟩ = some (.int .i64 own.c) := q7.cell 3
        have ly := q7.lt
        have zc07 : W7.cell? ⟨p0 + 1 + 1, 0, none⟩ = some (.int .i64 0) := q67.cell 0
        have zc17 : W7.cell? ⟨p0 + 1 + 1, 1, none⟩ = some (.int .i64 0) := q67.cell 1
        have zc27 : W7.cell? ⟨p0 + 1 + 1, 2, none⟩ = some (.int .i64 0) := q67.cell 2
        have zc37 : W7.cell? ⟨p0 + 1 + 1, 3, none⟩ = some (.int .i64 0) := q67.cell 3
        have lz7 := q67.lt
        have fz7 := q67.frozen0
        have qz := (((q67.set_ 0 (.int .i64 ((m : Int)))).set_ 1 (.int .i64 (own.a))).set_ 2 (.int .i64 (own.b))).set_ 3 (.int .i64 (own.c))
        simp only [List.setIfInBounds_toArray, List.set_cons_zero, List.set_cons_succ] at qz
        have hfz : Fr (fun b => b = mb) W ((((W7.setCell ⟨p0 + 1 + 1, 0, none⟩ (.int .i64 ((m : Int)))).setCell ⟨p0 + 1 + 1, 1, none⟩ (.int .i64 (own.a))).setCell ⟨p0 + 1 + 1, 2, none⟩ (.int .i64 (own.b))).setCell ⟨p0 + 1 + 1, 3, none⟩ (.int .i64 (own.c))) := ⟨fr7.os, fr7.tape, fr7.output, by simp; exact fr7.size, fun k hk hn => by
          have := HP0.out
          rw [Below.heap_setCell _ _ _ k (by show k ≠ p0 + 1 + 1; omega), Below.heap_setCell _ _ _ k (by show k ≠ p0 + 1 + 1; omega), Below.heap_setCell _ _ _ k (by show k ≠ p0 + 1 + 1; omega), Below.heap_setCell _ _ _ k (by show k ≠ p0 + 1 + 1; omega)]
          exact fr7.block k hk hn⟩
        have hmz : MpIs keyV plV ((((W7.setCell ⟨p0 + 1 + 1, 0, none⟩ (.int .i64 ((m : Int)))).setCell ⟨p0 + 1 + 1, 1, none⟩ (.int .i64 (own.a))).setCell ⟨p0 + 1 + 1, 2, none⟩ (.int .i64 (own.b))).setCell ⟨p0 + 1 + 1, 3, none⟩ (.int .i64 (own.c))) mb _ := mp7.of_block (by rw [Below.heap_setCell _ _ _ mb (by show mb ≠ p0 + 1 + 1; exact fun e => blk_neMap q67 mp7 e.symm), Below.heap_setCell _ _ _ mb (by show mb ≠ p0 + 1 + 1; exact fun e => blk_neMap q67 mp7 e.symm), Below.heap_setCell _ _ _ mb (by show mb ≠ p0 + 1 + 1; exact fun e => blk_neMap q67 mp7 e.symm), Below.heap_setCell _ _ _ mb (by show mb ≠ p0 + 1 + 1; exact fun e => blk_neMap q67 mp7 e.symm)])
        have HMZ := Lib.hid hmz
        clear hmz
        go_wp2_with fail
        refine bodyPost_ret (results_cell_row rfl _ _ (p0 + 1 + 1) 139 _ (0, 0) _ rfl qz rfl rfl rfl) rfl ?_
        exact ⟨⟨m, own, F, rfl, HPL.out, HMZ.out, hko, hfz⟩⟩
end Go.Proofs.Ythihdiilokdidaa
end

section
namespace Go.Proofs.Ythihdiilokdidaa
open Go.RowKit
def gL (l : List (List Int)) (k : Nat) : List Int := l.getD k []
structure Tt where
  fs : List Int
  vs : List (List Int)
  gs : List Int
def Tt.F (t : Tt) : Nat → Int := gI t.fs
def Tt.V (t : Tt) : Nat → Nat → Int := fun r d => gI (gL t.vs r) d
def Tt.G (t : Tt) : Nat → Int := gI t.gs
structure Bk where
  fs : List Int
  gs : List Int
def rowT (s : Ws) (t : Tt) (i : Nat) : Bool := inB (gI t.fs i) (gRm s.rooms i).fst.lo (gRm s.rooms i).fst.hi && (decide (((gL t.vs i).length : Int) = s.days) && allTo (fun d => inB (gI (gL t.vs i) d) (gRm s.rooms i).vap.lo (gRm s.rooms i).vap.hi) (gL t.vs i).length)
def movT (s : Ws) (gs : List Int) (i : Nat) : Bool := inB (gI gs i) (gMv s.moves i).g.lo (gMv s.moves i).g.hi
def lenT (s : Ws) (t : Tt) : Bool := decide (t.fs.length = s.rooms.length) && (decide (t.vs.length = s.rooms.length) && decide (t.gs.length = s.moves.length))
def truT (s : Ws) (t : Tt) : Bool := lenT s t && (allTo (rowT s t) s.rooms.length && allTo (movT s t.gs) s.moves.length)
theorem lenT_iff {s : Ws} {t : Tt} : lenT s t = true ↔ t.fs.length = s.rooms.length ∧ t.vs.length = s.rooms.length ∧ t.gs.length = s.moves.length := by simp [lenT]
theorem truT_iff {s : Ws} {t : Tt} (hd : s.days = (s.wo.days : Int)) : truT s t = true ↔ (t.fs.length = s.rooms.length ∧ t.vs.length = s.rooms.length ∧ t.gs.length = s.moves.length) ∧ (∀ r, r < s.rooms.length → (gL t.vs r).length = s.wo.days) ∧ TruF s.wo t.F t.V t.G := by
  unfold truT
  rw [Bool.and_eq_true, Bool.and_eq_true, lenT_iff, allTo_iff, allTo_iff]
  constructor
  · rintro ⟨h1, h2, h3⟩
    have hr : ∀ r, r < s.rooms.length → inR (gI t.fs r) (gRm s.rooms r).fst ∧ (gL t.vs r).length = s.wo.days ∧ ∀ d, d < (gL t.vs r).length → inR (gI (gL t.vs r) d) (gRm s.rooms r).vap := fun r hr => by
      have := h2 r hr
      unfold rowT at this
      rw [Bool.and_eq_true, Bool.and_eq_true, inB_iff, decide_eq_true_eq, allTo_iff] at this
      refine ⟨this.1, by have := this.2.1; omega, fun d hd' => inB_iff.1 (this.2.2 d hd')⟩
    exact ⟨h1, fun r h => (hr r h).2.1, ⟨fun r h => (hr r h).1, fun r d h hd' => (hr r h).2.2 d (by have := (hr r h).2.1; have e : s.wo.rooms.length = s.rooms.length := rfl; omega), fun i hi => inB_iff.1 (h3 i hi)⟩⟩
  · rintro ⟨h1, h2, h3⟩
    refine ⟨h1, fun r hr => ?_, fun i hi => inB_iff.2 (h3.mov i hi)⟩
    unfold rowT
    rw [Bool.and_eq_true, Bool.and_eq_true, inB_iff, decide_eq_true_eq, allTo_iff]
    exact ⟨h3.fst r hr, by rw [h2 r hr, hd], fun d hd' => inB_iff.2 (h3.vap r d hr (by have := h2 r hr; omega))⟩
def bookB (s : Ws) (b : Bk) : Bool := decide (b.fs.length = s.rooms.length) && (decide (b.gs.length = s.moves.length) && (allTo (fun k => inB (gI b.fs k) 0 2000) b.fs.length && allTo (fun k => inB (gI b.gs k) 0 2000) b.gs.length))
theorem bookB_iff {s : Ws} {b : Bk} : bookB s b = true ↔ b.fs.length = s.rooms.length ∧ b.gs.length = s.moves.length ∧ (∀ k, k < s.rooms.length → 0 ≤ gI b.fs k ∧ gI b.fs k ≤ 2000) ∧ ∀ k, k < s.moves.length → 0 ≤ gI b.gs k ∧ gI b.gs k ≤ 2000 := by
  unfold bookB
  rw [Bool.and_eq_true, Bool.and_eq_true, Bool.and_eq_true, decide_eq_true_eq, decide_eq_true_eq, allTo_iff, allTo_iff]
  constructor
  · rintro ⟨h1, h2, h3, h4⟩
    exact ⟨h1, h2, fun k hk => inB_iff.1 (h3 k (by omega)), fun k hk => inB_iff.1 (h4 k (by omega))⟩
  · rintro ⟨h1, h2, h3, h4⟩
    exact ⟨h1, h2, fun k hk => inB_iff.2 (h3 k (by omega)), fun k hk => inB_iff.2 (h4 k (by omega))⟩
def saysF (w : Wo) (b : Bk) (r d : Nat) : Int := gI b.fs r + esum (fun e : Nat => comes w (gI b.gs) r e w.moves.length) (List.range (d + 1))
theorem comes_succ (w : Wo) (G : Nat → Int) (r d : Int) (k : Nat) : comes w G r d (k + 1) = comes w G r d k + if (gMv w.moves k).day = d then (if (gMv w.moves k).dst = r then G k else 0) - (if (gMv w.moves k).src = r then G k else 0) else 0 := by
  unfold comes
  rw [List.range_succ, esum_app]
  simp [esum]
theorem comes_bd (w : Wo) {G : Nat → Int} (r d : Int) : ∀ k : Nat, (∀ i, i < k → 0 ≤ G i ∧ G i ≤ 2000) → -(2000 * k) ≤ comes w G r d k ∧ comes w G r d k ≤ 2000 * k
  | 0, _ => by simp [comes, esum]
  | k + 1, h => by
    have ih := comes_bd w r d k (fun i hi => h i (by omega))
    have hk := h k (by omega)
    rw [comes_succ]
    split <;> (try split) <;> (try split) <;> omega
theorem saysF_succ (w : Wo) (b : Bk) (r d : Nat) : gI b.fs r + esum (fun e : Nat => comes w (gI b.gs) r e w.moves.length) (List.range (d + 1)) = (gI b.fs r + esum (fun e : Nat => comes w (gI b.gs) r e w.moves.length) (List.range d)) + comes w (gI b.gs) r d w.moves.length := by
  rw [List.range_succ, esum_app]
  simp [esum]
  omega
structure TtIn (w : World) (B : Nat) (t : Tt) (Af Av Ag : Option Addr) (rV : Nat → Option Addr) (rcV : Nat → Nat) : Prop where
  fs : SlAt w B 1 Af t.fs.length (fI t.fs)
  vs : SlAt w B 1 Av t.vs.length (fun k _ => .slice (rV k) (gL t.vs k).length (rcV k))
  row : ∀ k, k < t.vs.length → SlAt w B 1 (rV k) (gL t.vs k).length (fI (gL t.vs k))
  gs : SlAt w B 1 Ag t.gs.length (fI t.gs)
theorem TtIn.go {w w' : World} {t : Tt} {Af Av Ag : Option Addr} {rV : Nat → Option Addr} {rcV : Nat → Nat} (h : TtIn w w.heap.size t Af Av Ag rV rcV) (hb : Below w.heap.size w w') : TtIn w' w'.heap.size t Af Av Ag rV rcV :=
  ⟨(h.fs.below hb).up hb.size, (h.vs.below hb).up hb.size, fun k hk => ((h.row k hk).below hb).up hb.size, (h.gs.below hb).up hb.size⟩
theorem TtIn.below {w w' : World} {B : Nat} {t : Tt} {Af Av Ag : Option Addr} {rV : Nat → Option Addr} {rcV : Nat → Nat} (h : TtIn w B t Af Av Ag rV rcV) (hb : Below B w w') : TtIn w' B t Af Av Ag rV rcV :=
  ⟨h.fs.below hb, h.vs.below hb, fun k hk => (h.row k hk).below hb, h.gs.below hb⟩
structure SmT (t : Tt) : Prop where
  fs : t.fs.length ≤ 1000
  vs : t.vs.length ≤ 1000
  gs : t.gs.length ≤ 1000
  row : ∀ k, k < t.vs.length → (gL t.vs k).length ≤ 1000
structure MatIn (w : World) (B : Nat) (A : Option Addr) (n D : Nat) (L : Nat → Nat → Int) (rA : Nat → Option Addr) (rc : Nat → Nat) : Prop where
  out : SlAt w B 1 A n (fun k _ => .slice (rA k) D (rc k))
  row : ∀ k, k < n → SlAt w B 1 (rA k) D (fun d _ => .int .i64 (L k d))
theorem MatIn.go {w w' : World} {A : Option Addr} {n D : Nat} {L : Nat → Nat → Int} {rA : Nat → Option Addr} {rc : Nat → Nat} (h : MatIn w w.heap.size A n D L rA rc) (hb : Below w.heap.size w w') : MatIn w' w'.heap.size A n D L rA rc :=
  ⟨(h.out.below hb).up hb.size, fun k hk => ((h.row k hk).below hb).up hb.size⟩
abbrev IRow := Option Addr × Nat × List Int
def cIR (x : IRow) : List Value := [.slice x.1 x.2.2.length x.2.1]
def cI1 (n : Int) : List Value := [.int .i64 n]
abbrev IOwn (W : World) (B : Nat) (v : Value) (X : List IRow) : Prop := NOwn 28 1 3 1 cIR (fun x => x.1) (fun x => x.2.2.length) (fun x => fI x.2.2) W B v X
theorem IOwn.lays {W : World} {B n D : Nat} {v : Value} {X : List IRow} {L : Nat → Nat → Int} (h : IOwn W B v X) (hX : X.map (fun x => x.2.2) = (List.range n).map fun r => (List.range D).map (L r)) : ∃ A c rA rc, v = .slice A n c ∧ MatIn W W.heap.size A n D L rA rc := by
  have hl : X.length = n := by have := congrArg List.length hX; simpa using this
  have hx : ∀ (k : Nat) (hk : k < X.length), (X[k]).2.2 = (List.range D).map (L k) := fun k hk => by
    have h1 : (X.map (fun x => x.2.2))[k]? = some (X[k]).2.2 := by simp [hk]
    rw [hX] at h1
    have hk' : k < n := by omega
    have h2 : ((List.range n).map fun r => (List.range D).map (L r))[k]? = some ((List.range D).map (L k)) := by simp [hk']
    rw [h2] at h1
    exact (Option.some.inj h1).symm
  obtain ⟨A, c, e, _, _, hr⟩ := own_row (c := cIR) (sz := 1) (fun _ => rfl) (f := fun k _ => .slice (X.getD k default).1 D (X.getD k default).2.1) (fun k hk j hj => by
      have hj0 : j = 0 := by omega
      subst hj0
      have hlen : (X[k]).2.2.length = D := by rw [hx k hk]; simp
      simp [cIR, hk, hlen]) h.own
  refine ⟨A, c, fun k => (X.getD k default).1, fun k => (X.getD k default).2.1, by rw [e, hl], ?_, fun k hk => ?_⟩
  · have := hr.sl
    rw [hl] at this
    exact this
  · have hkX : k < X.length := by omega
    have h1 := (NOwn.ins h X[k] (List.getElem_mem hkX)).sl
    have e1 := hx k hkX
    have e2 : X.getD k default = X[k] := by simp [hkX]
    show SlAt W W.heap.size 1 (X.getD k default).1 D (fun d _ => .int .i64 (L k d))
    change SlAt W W.heap.size 1 (X[k]).1 (X[k]).2.2.length (fI (X[k]).2.2) at h1
    rw [e2]
    rw [e1] at h1
    rw [List.length_map, List.length_range] at h1
    intro hD
    obtain ⟨b, off, hA, hb, hc⟩ := h1 hD
    refine ⟨b, off, hA, hb, fun d j hd hj => ?_⟩
    rw [hc d j hd hj]
    have hg : gI ((List.range D).map (L k)) d = L k d := by simp [gI, hd]
    simp [fI, hg]
theorem lay_ints {W : World} {B : Nat} {v : Value} {l : List Int} (h : W.ownsRow B 3 1 v l.length (l.flatMap cI1)) : ∃ A k, v = .slice A l.length k ∧ l.length ≤ k ∧ k ≤ maxLen ∧ RowAt W B 3 1 A l.length (fI l) :=
  own_row (c := cI1) (sz := 1) (fun _ => rfl) (fun k hk j hj => by
    have hg : gI l k = l[k] := by simp [gI, hk]
    have hj0 : j = 0 := by omega
    subst hj0
    simp [cI1, fI, hg]) h
end Go.Proofs.Ythihdiilokdidaa
end

section
namespace Go.Proofs.Ythihdiilokdidaa
open Go.Shelf
def laysNm215_ren : Go.Shelf.Ren := ⟨fun | 15 => 71 | n => n, fun | 22 => 28 | 3 => 3 | 4 => 4 | n => n, fun | n => n⟩
theorem laysNm215 : Go.Proofs.Lays2.n15 Try.prog laysNm215_ren := {
  mixed := by kernel_rfl
  f15 := Try.func71.trans (congrArg some (by kernel_rfl))
  t3 := Try.underlying3
  a3 := Try.isAgg3
  z3 := Try.sizeOf3
  v3 := Try.zeroValue3
  t4 := Try.underlying4
  a4 := Try.isAgg4
  z4 := Try.sizeOf4
  v4 := Try.zeroValue4
  t22 := Try.underlying28
  a22 := Try.isAgg28
  z22 := Try.sizeOf28
  v22 := Try.zeroValue28
  i3 := by kernel_rfl }
open Go.RowKit Go.Lib in
theorem slices_Clone_int (b off n c : Nat) (zs : List Int) (w : World) (hz : n ≤ zs.length) (hbig : n * 8 ≤ 140737488355328) (hc : ∀ j, j < zs.length → w.cell? ⟨b, off + j, none⟩ = some (.int .i64 (zs.getD j 0))) :
    Calls Try.prog 71 #[.slice (some ⟨b, off, none⟩) n c] w fun e w' => ∃ v', e = .returned v' ∧ w'.ownsRow w.heap.size 3 1 v' n ((zs.take n).map (Value.int .i64)) ∧ v' ≠ .slice none 0 0 ∧ Below w.heap.size w w' := Any.slices_Clone_int laysNm215 b off n c zs w hz hbig hc
open Go.RowKit Go.Lib in
theorem slices_Clone_int_nil (n c : Nat) (w : World) :
    Calls Try.prog 71 #[.slice none n c] w fun e w' => e = .returned (.slice none 0 0) ∧ w' = w := Any.slices_Clone_int_nil laysNm215 n c w
end Go.Proofs.Ythihdiilokdidaa
end
