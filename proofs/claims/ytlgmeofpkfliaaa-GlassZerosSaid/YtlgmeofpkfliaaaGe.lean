/- Glass: pick, the function within lists (walk). · Glass: an append onto a row of the call's own, of which the elder row is told, too. · Glass: pick's loop (walk). · Glass: lists (walk). · Glass: Fewest, Blame (walks). · Glass: Blame (walk). -/
import Derived.Outline
import Derived.ArgAppend
import Derived.Test.YtlgmeofpkfliaaaGd
set_option linter.unusedVariables false
set_option linter.unusedSimpArgs false
set_option linter.unusedSectionVars false
section
namespace Go.Proofs.Ytlgmeofpkfliaaa
open Go.RowKit
attribute [local go_sem] Ex.cell? Ex.frozen? Gx.cell?

/-- what lies when pick begins: its boxes, the rows found so far, the row that is handed in. -/
structure PS (w0 : World) (rc : Array Value) (many pm pr po pp base : Nat) (vout vl : Value) (lv : List Int) (vals : List Value) (outL : List (List Int)) (w : World) : Prop where
  bw : Below w0.heap.size w0 w
  qm : Blk w pm 3 #[.int .i64 (many : Int)]
  qr : Blk w pr 103 rc
  qo : Blk w po 127 #[vout]
  qp : Blk w pp 152 #[.func (.func 86) #[] #[.pointer (some ⟨pm, 0, none⟩), .pointer (some ⟨pr, 0, none⟩), .pointer (some ⟨po, 0, none⟩), .pointer (some ⟨pp, 0, none⟩)]]
  oo : w.ownsRow base 54 1 vout vals.length vals
  ol : w.ownsRow base 3 1 vl lv.length (lv.map (Value.int .i64))
  rows : RowsAre w base vals outL
  ap : ∀ v ∈ vals, ∀ b, v.ownBlock = some b → vl.ownBlock ≠ some b
/-- which blocks pick may turn. -/
def PR (po : Nat) (vl vout : Value) (b : Nat) : Prop := b = po ∨ vl.ownBlock = some b ∨ vout.ownBlock = some b
/-- what pick leaves. -/
def PO (w0 : World) (rc : Array Value) (many pm pr po pp base : Nat) (vl : Value) (lv : List Int) (w : World) (vout : Value) (vals : List Value) (outL res : List (List Int)) (w' : World) : Prop :=
  ∃ vout' news, PS w0 rc many pm pr po pp base vout' vl lv (vals ++ news) (outL ++ res) w' ∧ Fr (PR po vl vout) w w' ∧ (∀ v ∈ news, ∀ b, v.ownBlock = some b → w.heap.size ≤ b) ∧ (∀ b, vout'.ownBlock = some b → vout.ownBlock = some b ∨ w.heap.size ≤ b)

theorem PS.fr (w0 : World) (rc : Array Value) (many pm pr po pp base : Nat) {vout vl : Value} {lv : List Int} {vals : List Value} {outL : List (List Int)} {w w' : World} (hB : w0.heap.size ≤ base) (h : PS w0 rc many pm pr po pp base vout vl lv vals outL w) (hb : Below w.heap.size w w') : PS w0 rc many pm pr po pp base vout vl lv vals outL w' := by
  have hf : Fr (fun _ => False) w w' := Fr.below hb
  exact ⟨h.bw.trans (hb.mono h.bw.size), h.qm.fr hf id, h.qr.fr hf id, h.qo.fr hf id, h.qp.fr hf id, own_fr h.oo hf (fun _ _ => id), own_fr h.ol hf (fun _ _ => id), h.rows.fr hf (fun _ _ _ _ => id), h.ap⟩

def oneL (r : Bool) (lv : List Int) : List (List Int) := if r then [lv] else []

set_option maxRecDepth 100000 in
set_option maxHeartbeats 3200000 in
theorem pick_one (g : Gl) (Ab Ad Ah Ai : Option Addr) (cb cd ch ci : Nat) (h : List Rg) (l : List Ic) (w0 : World) (hg : GlIn w0 w0.heap.size g Ab Ad) (hh : SlAt w0 w0.heap.size 2 Ah h.length (fR h)) (hi : SlAt w0 w0.heap.size 3 Ai l.length (fC l)) (hok : Ok g h) (h8 : l.length ≤ 8) (hbd : IcesBd l)
    (many pm pr po pp base : Nat) (hpo : w0.heap.size ≤ po) (hlt : pm < base ∧ pr < base ∧ po < base ∧ pp < base) (hB : w0.heap.size ≤ base) (hne : pm ≠ po ∧ pr ≠ po ∧ pp ≠ po) (hb4 : base ≤ pp + 1)
    (A : Option Addr) (c : Nat) (lv : List Int) (o : Nat → Bool) (n : Nat) (vout : Value) (vals : List Value) (outL : List (List Int)) (w : World) (hll : lv.length ≤ 8) (hvl : vals.length ≤ 100000) (hmany : lv.length = many)
    (hps : PS w0 #[.int .i64 g.base, .slice Ab g.bands.length cb, .slice Ad g.depths.length cd, .int .i64 g.blo, .int .i64 g.bhi, .slice Ah h.length ch, .slice Ai l.length ci] many pm pr po pp base vout (.slice A lv.length c) lv vals outL w) :
    Calls Try.prog 86 #[.slice A lv.length c, .agg #[.bool (o 0), .bool (o 1), .bool (o 2), .bool (o 3), .bool (o 4), .bool (o 5), .bool (o 6), .bool (o 7)], .int .i64 (n : Int), .pointer (some ⟨pm, 0, none⟩), .pointer (some ⟨pr, 0, none⟩), .pointer (some ⟨po, 0, none⟩), .pointer (some ⟨pp, 0, none⟩)] w fun e w' =>
      (∃ v, e = .returned v) ∧ PO w0 #[.int .i64 g.base, .slice Ab g.bands.length cb, .slice Ad g.depths.length cd, .int .i64 g.blo, .int .i64 g.bhi, .slice Ah h.length ch, .slice Ai l.length ci] many pm pr po pp base (.slice A lv.length c) lv w vout vals outL (oneL (agreeB g h l o) lv) w' := by
  obtain ⟨i0, hi0, hz0, hz1, hz2⟩ := info_parts ints_info
  have HI := Lib.hid hi0
  clear hi0
  have HPS := Lib.hid hps
  have hb1 := ex_alloc (Below.refl w.heap.size w) (.cells #[.bool (o 0), .bool (o 1), .bool (o 2), .bool (o 3), .bool (o 4), .bool (o 5), .bool (o 6), .bool (o 7)] 108)
  have hps1 := hps.fr _ _ _ _ _ _ _ _ hB hb1
  have q8 : Blk (w.alloc (.cells #[.bool (o 0), .bool (o 1), .bool (o 2), .bool (o 3), .bool (o 4), .bool (o 5), .bool (o 6), .bool (o 7)] 108)) w.heap.size 108 #[.bool (o 0), .bool (o 1), .bool (o 2), .bool (o 3), .bool (o 4), .bool (o 5), .bool (o 6), .bool (o 7)] := Blk.new _ _ _
  have hm1 : w.cell? ⟨pm, 0, none⟩ = some (.int .i64 (many : Int)) := hps.qm.cell 0
  have lm := hps.qm.lt
  have lr := hps.qr.lt
  have lo := hps.qo.lt
  have a0 := hps.qr.cell 0
  have a1 := hps.qr.cell 1
  have a2 := hps.qr.cell 2
  have a3 := hps.qr.cell 3
  have a4 := hps.qr.cell 4
  have a5 := hps.qr.cell 5
  have a6 := hps.qr.cell 6
  have ao : w.cell? ⟨po, 0, none⟩ = some vout := hps.qo.cell 0
  have fo := hps.qo.frozen 0
  simp at a0 a1 a2 a3 a4 a5 a6
  have hmb : ((lv.length : Int) == (many : Int)) = true := by simp [hmany]
  have hmb' : (lv.length == many) = true := by simp [hmany]
  have hbw := hps1.bw
  have HPS1 := Lib.hid hps1
  clear hmany hps hps1
  go_enter Try.func86, Try.ntmps86
  go_wp2_with fail
  refine (agree_any g _ _ _ _ _ _ _ _ h l o _ ((hg.below hbw).up hbw.size) ((hh.below hbw).up hbw.size) ((hi.below hbw).up hbw.size) hok h8 hbd).mono ?_
  rintro e w2 ⟨rfl, hb2⟩
  have hps2 := PS.fr _ _ _ _ _ _ _ _ hB HPS1.out hb2
  have hB2 := ex_trans hb1 hb2
  obtain ⟨r, hr⟩ : ∃ r, agreeB g h l o = r := ⟨_, rfl⟩
  rw [hr]
  have HR := Lib.hid hr
  clear hr
  cases r
  · have HPS2 := Lib.hid hps2
    clear hps2
    go_wp2
    refine bodyPost_ret (results_none rfl _ _ _) rfl ?_
    refine ⟨⟨_, rfl⟩, vout, [], ?_, Fr.below hB2, by simp, fun b hb => .inl hb⟩
    rw [List.append_nil, HR.out, oneL, if_neg (by simp), List.append_nil]
    exact HPS2.out
  · have lo2 := hps2.qo.lt
    have ao2 : w2.cell? ⟨po, 0, none⟩ = some vout := hps2.qo.cell 0
    have fo2 := hps2.qo.frozen 0
    have hno : ¬ some po = vout.ownBlock := fun e => own_blkne hps2.oo hps2.qo (by decide) e.symm
    have ho2 := hps2.ol
    have HPS2 := Lib.hid hps2
    clear hps2
    go_wp2_with fail
    refine wp_region_gx_held vout.ownBlock 5 [0, 1] [2, 3, 4] (by kernel_rfl) (by kernel_rfl) (by intro d _ _ _ _ h; cases d <;> exact h) ?_
    simp only [List.filterMap_cons, List.filterMap_nil, List.getElem?_cons_zero, List.getElem?_cons_succ, List.drop_succ_cons, List.drop_zero]
    show wpQuiet _ _ _ _ [_, _] _
    repeat (any_goals (go_big_quiet_step (fail)))
    refine wpQuiet_nil ?_
    simp only [wpLoud]
    go_wp2_with fail
    refine (clone_own (w := w2.drew) (by omega) ho2).mono ?_
    rintro e w3 ⟨vc, rfl, hoc, hb3⟩
    obtain ⟨Ac, cc, rfl, hcc, -⟩ := own_sl hoc
    have hb3' : Below w2.heap.size w2 w3 := (Below.refl w2.heap.size w2).drew.trans hb3
    have hps3 := PS.fr _ _ _ _ _ _ _ _ hB HPS2.out hb3'
    have ho3 := hps3.oo.alloc (.cells #[.slice Ac lv.length cc] 54)
    have lo3 := hps3.qo.lt
    have hbs : base ≤ w3.heap.size + 1 := by have := hps3.qp.lt; omega
    have ao3 := hps3.qo.alloc (.cells #[.slice Ac lv.length cc] 54)
    have fo3 := ao3.frozen 0
    have HPS3 := Lib.hid hps3
    have c63 : vals.length + 1 ≤ maxLen := by unfold maxLen; omega
    clear hps3 ho2
    go_wp2_with fail
    refine ⟨grown_row hb3', ?_⟩
    go_wp2_with fail
    refine ⟨(grown_row hb3').andThen (grown_of_below ((Below.refl _ _).alloc (Nat.le_refl _) _)) (fun j hj => by cases hj), ?_⟩
    go_wp2_with (at_builtin; refine wpList_append_lies _ rfl _ _ _ rfl base 54 i0 _ 1 24 Try.underlying127 HI.out hz0 hz1 hz2 rfl (by omega) vout _ _ rfl ho3 ⟨w3.heap.size, 0, none⟩ 1 1 [.slice Ac lv.length cc] rfl rfl (World.news_of_block (heap_alloc_new w3 _)) (by simp [Value.oneCell']) (by omega) c63 (by omega) (by simpa using hbs) (w3.heap.size + 1) (by simp) ?_; intro gg cap w4 hown' hgrow hat hlt')
    refine ⟨((grown_row hb3').andThen (grown_of_below ((Below.refl _ _).alloc (Nat.le_refl _) _)) (fun j hj => by cases hj)).andThen hgrow (fun j hj => .inr hj), ?_⟩
    have hno' : some po ≠ vout.ownBlock := hno
    have qo4 := ao3.grown hgrow hno'
    have ao4 : w4.cell? ⟨po, 0, none⟩ = some vout := qo4.cell 0
    have fo4 := qo4.frozen 0
    have lo4 := qo4.lt
    go_wp2
    refine bodyPost_ret (results_none rfl _ _ _) rfl ?_
    have P := HPS.out
    have hA1 : Fr (fun b => b = po ∨ vout.ownBlock = some b) w3 ((w4.setCell ⟨po, 0, none⟩ (.slice (some ⟨gg, 0, none⟩) (vals.length + 1) cap))) :=
      ((Fr.below ((Below.refl w3.heap.size w3).alloc (Nat.le_refl _) _)).trans (Fr.grown (R := fun b => b = po ∨ vout.ownBlock = some b) hgrow (fun b hb => .inl (.inr hb))) (fun _ _ h => h)).trans (Fr.set _ _ _ _ (.inl rfl)) (fun _ _ h => h)
    have hA2 : Fr (fun b => b = po ∨ vout.ownBlock = some b) w ((w4.setCell ⟨po, 0, none⟩ (.slice (some ⟨gg, 0, none⟩) (vals.length + 1) cap))) :=
      ((Fr.below hB2).trans (Fr.below hb3') (fun _ _ h => h)).trans hA1 (fun _ _ h => h)
    have hvo : ∀ b, vout.ownBlock = some b → base ≤ b ∧ b < w.heap.size := fun b hb => own_lt P.oo hb
    have hvl : ∀ b, (Value.slice A lv.length c).ownBlock = some b → base ≤ b ∧ b < w.heap.size := fun b hb => own_lt P.ol hb
    have hw2 := hB2.size
    have hw3 := hb3'.size
    have hsm : ∀ x, x < base → x ≠ po → ¬ (x = po ∨ vout.ownBlock = some x) := fun x h1 h2 h3 => by
      rcases h3 with h3 | h3
      · exact h2 h3
      · have := hvo x h3; omega
    refine ⟨⟨_, rfl⟩, .slice (some ⟨gg, 0, none⟩) (vals.length + 1) cap, [.slice Ac lv.length cc], ?_, ?_, ?_, ?_⟩
    · rw [HR.out, oneL, if_pos rfl]
      refine ⟨hA2.toBelow P.bw P.bw.size (fun x hx => ?_), P.qm.fr hA2 (hsm _ hlt.1 hne.1), P.qr.fr hA2 (hsm _ hlt.2.1 hne.2.1), qo4.set_ 0 _, P.qp.fr hA2 (hsm _ hlt.2.2.2 hne.2.2), ?_, ?_, ?_, ?_⟩
      · rcases hx with rfl | hx
        · exact hpo
        · have := hvo x hx; omega
      · have h1 := own_far hown' (p := ⟨po, 0, none⟩) (show po < base by omega) (.slice (some ⟨gg, 0, none⟩) (vals.length + 1) cap)
        simpa using h1
      · refine own_fr P.ol hA2 (fun b hb h3 => ?_)
        rcases h3 with h3 | h3
        · have := hvl b hb; omega
        · exact own_ownne P.ol P.oo (by decide) hb h3
      · refine RowsAre.snoc (own_fr (own_base hoc (by show base ≤ w2.heap.size; have := P.qp.lt; omega)) hA1 (fun b hb h3 => ?_)) (P.rows.fr hA2 (fun v hv b hb h3 => ?_))
        · have h4 : w2.heap.size ≤ b := (own_lt hoc hb).1
          rcases h3 with h3 | h3
          · omega
          · have := hvo b h3; omega
        · rcases h3 with h3 | h3
          · have := RowsAre.lt P.rows v hv b hb; omega
          · exact RowsAre.ne P.oo (by decide) P.rows v hv b hb h3
      · intro v hv b hb hx
        rcases List.mem_append.1 hv with hv | hv
        · exact P.ap v hv b hb hx
        · rw [List.mem_singleton.1 hv] at hb
          have h4 : w2.heap.size ≤ b := (own_lt hoc hb).1
          have := hvl b hx; omega
    · exact (Fr.refl _ w).trans hA2 (fun x _ h3 => by rcases h3 with h3 | h3; exact .inl h3; exact .inr (.inr h3))
    · intro v hv b hb
      rw [List.mem_singleton.1 hv] at hb
      have h4 : w2.heap.size ≤ b := (own_lt hoc hb).1
      omega
    · intro b hb
      have hgb : gg = b := by simpa [Value.ownBlock] using hb
      subst hgb
      rcases hat with h4 | h4
      · exact .inl h4
      · right; omega

end Go.Proofs.Ytlgmeofpkfliaaa
end

section
namespace Go.Proofs.Ytlgmeofpkfliaaa
open Go.RowKit

theorem wpList_append_two {ops : Array Oper} {rest : List Oper} {o : Oper} {a : Act} {Q : Exit → Act → World → Prop} (w : World) (hgd : o.guard = none) (s x : Operand)
    (ho : o.op = .call { callee := .builtin .append, args := #[s, x], argTypes := #[54, 54] }) (base : Nat) (A : Option Addr) (n c : Nat) (xs : List Value) (hs : a.eval s = .slice A n c)
    (hown : w.ownsRow base 3 1 (.slice A n c) n xs) (ad : Addr) (m : Nat) (u : Value) (hx : a.eval x = .slice (some ad) 1 m) (hc : w.cell? ad = some u) (hu : u.oneCell' = true) (hn : n ≤ 1000000) (hbase : base ≤ w.heap.size)
    (hK : ∀ gg c' w', w'.ownsRow base 3 1 (.slice (some ⟨gg, 0, none⟩) (n + 1) c') (n + 1) (xs ++ [u]) → w.grownBy w' (Value.slice A n c).ownBlock → ((Value.slice A n c).ownBlock = some gg ∨ w.heap.size ≤ gg) →
      (∀ W : World, W.ownsRow base 3 1 (.slice (some ⟨gg, 0, none⟩) (n + 1) c') (n + 1) (xs ++ [u]) → (∀ b, (Value.slice A n c).ownBlock = some b → b ≠ gg → W.heap[b]? = w'.heap[b]?) → W.ownsRow base 3 1 (.slice A n c) n xs) →
      wpList Try.prog ops Q rest (a.put o.dst (.slice (some ⟨gg, 0, none⟩) (n + 1) c')) w') : wpList Try.prog ops Q (o :: rest) a w := by
  obtain ⟨i0, hi0, hz0, hz1, hz2⟩ := info_parts int_info
  have hcc : ∀ j v, [u][j]? = some v → w.cell? (ad.add j) = some v := by
    intro j v hj
    match j, hj with
    | 0, hj => simpa [Addr.add] using (show w.cell? ad = some v by rw [hc]; simpa using hj)
  have h1 : ∀ v ∈ [u], v.oneCell' = true := fun v hv => by rw [List.mem_singleton.1 hv]; exact hu
  rcases hown.2 with ⟨hv, h0⟩ | ⟨g, cap, cur, hv, hbg, hh, hnc, hcm, hcs, htk⟩
  · injection hv with e1 e2 e3
    subst e1 e3
    have hxs : xs = [] := List.eq_nil_of_length_eq_zero (by rw [hown.1, h0])
    subst hxs h0
    refine wpList_append_grows w hgd s x _ ho 3 i0 _ 1 8 Try.underlying54 hi0 hz0 hz1 hz2 rfl (by omega) none 0 0 [] hs (fun _ => ⟨rfl, rfl⟩) rfl (fun b hb => by cases hb) ad 1 m [u] hx rfl hcc h1 (by omega) (by unfold maxLen; omega) (by omega) ?_
    intro v' w' ho' hg'
    obtain ⟨gg, c', hv', hge, hlt⟩ := ho'.form (by omega)
    subst hv'
    refine hK gg c' w' (own_base ho' hbase) (hg') (.inr hge) (fun W _ _ => ⟨rfl, .inl ⟨rfl, rfl⟩⟩)
  · injection hv with e1 e2 e3
    subst e1 e3
    by_cases hroom : n + 1 ≤ c
    · refine wpList_append_fits w hgd s x _ ho base 3 i0 1 Try.underlying54 hi0 hz1 g n c xs hs hown ad 1 m [u] hx rfl hcc h1 hroom ?_
      intro w' ho' hg'
      refine hK g c w' ho' hg' (.inl rfl) (fun W hW _ => ⟨hown.1, .inr ?_⟩)
      rcases hW.2 with ⟨hv2, _⟩ | ⟨g2, cap2, cur2, hv2, q1, q2, q3, q4, q5, q6⟩
      · cases hv2
      · injection hv2 with f1 f2 f3
        injection f1 with f1
        injection f1 with f1
        subst f1 f3
        refine ⟨g, c, cur2, rfl, q1, q2, hnc, q4, q5, ?_⟩
        have : (cur2.toList.take ((n + 1) * 1)).take (n * 1) = (xs ++ [u]).take (n * 1) := by rw [q6]
        rw [List.take_take, show min (n * 1) ((n + 1) * 1) = n * 1 by omega] at this
        rw [this, List.take_append_of_le_length (by rw [hown.1]; exact Nat.le_refl _), List.take_of_length_le (by rw [hown.1]; exact Nat.le_refl _)]
    · refine wpList_append_grows w hgd s x _ ho 3 i0 _ 1 8 Try.underlying54 hi0 hz0 hz1 hz2 rfl (by omega) (some ⟨g, 0, none⟩) n c xs hs (fun h => by cases h) hown.1 (fun b hb => by cases hb; exact hown.cells (g := g) rfl) ad 1 m [u] hx rfl hcc h1 (by omega) (by unfold maxLen; omega) (by omega) ?_
      intro v' w' ho' hg'
      obtain ⟨gg, c', hv', hge, hlt⟩ := ho'.form (by omega)
      subst hv'
      have hgw : g < w.heap.size := (Array.getElem?_eq_some_iff.1 hh).1
      refine hK gg c' w' (own_base ho' hbase) (grown_some hg') (.inr hge) (fun W _ hW => ⟨hown.1, .inr ⟨g, c, cur, rfl, hbg, ?_, hnc, hcm, hcs, htk⟩⟩)
      rw [hW g rfl (by omega), hg'.block g hgw (by simp)]
      exact hh

end Go.Proofs.Ytlgmeofpkfliaaa
end

section
namespace Go.Proofs.Ytlgmeofpkfliaaa
open Go.RowKit
attribute [local go_sem] Ex.cell? Ex.frozen? Gx.cell?

/-- what holds at the head of pick's loop, so many ices done. -/
def PL (A : (Nat → Bool) → Bool) (w0 : World) (rc : Array Value) (many pm pr po pp base : Nat) (vl : Value) (lv : List Int) (o : Nat → Bool) (m f n : Nat) (w1 : World) (q8 : Nat) (vout : Value) (vals : List Value) (outL : List (List Int)) (k : Nat) (wr : World) : Prop :=
  ∃ vout' news res, PS w0 rc many pm pr po pp base vout' vl lv (vals ++ news) (outL ++ res) wr ∧ Fr (PR po vl vout) w1 wr ∧ (∀ v ∈ news, ∀ b, v.ownBlock = some b → w1.heap.size ≤ b) ∧ (∀ b, vout'.ownBlock = some b → vout.ownBlock = some b ∨ w1.heap.size ≤ b) ∧
    Blk wr q8 108 #[.bool (o 0), .bool (o 1), .bool (o 2), .bool (o 3), .bool (o 4), .bool (o 5), .bool (o 6), .bool (o 7)] ∧ res ++ loopL A many (m - k) lv o k = loopL A many f lv o n ∧ news.length + wt (m - k) ≤ wt f

set_option maxRecDepth 100000 in
set_option maxHeartbeats 6400000 in
theorem pick_any (g : Gl) (Ab Ad Ah Ai : Option Addr) (cb cd ch ci : Nat) (h : List Rg) (l : List Ic) (w0 : World) (hg : GlIn w0 w0.heap.size g Ab Ad) (hh : SlAt w0 w0.heap.size 2 Ah h.length (fR h)) (hi : SlAt w0 w0.heap.size 3 Ai l.length (fC l)) (hok : Ok g h) (h8 : l.length ≤ 8) (hbd : IcesBd l)
    (many pm pr po pp base : Nat) (hpo : w0.heap.size ≤ po) (hlt : pm < base ∧ pr < base ∧ po < base ∧ pp < base) (hB : w0.heap.size ≤ base) (hne : pm ≠ po ∧ pr ≠ po ∧ pp ≠ po) (hb4 : base ≤ pp + 1) :
    ∀ (j f : Nat), f < j → ∀ (A : Option Addr) (c : Nat) (lv : List Int) (o : Nat → Bool) (n : Nat) (vout : Value) (vals : List Value) (outL : List (List Int)) (w : World), n + f = l.length → lv.length ≤ n → vals.length + wt f ≤ 100000 →
    PS w0 #[.int .i64 g.base, .slice Ab g.bands.length cb, .slice Ad g.depths.length cd, .int .i64 g.blo, .int .i64 g.bhi, .slice Ah h.length ch, .slice Ai l.length ci] many pm pr po pp base vout (.slice A lv.length c) lv vals outL w →
    Calls Try.prog 86 #[.slice A lv.length c, .agg #[.bool (o 0), .bool (o 1), .bool (o 2), .bool (o 3), .bool (o 4), .bool (o 5), .bool (o 6), .bool (o 7)], .int .i64 (n : Int), .pointer (some ⟨pm, 0, none⟩), .pointer (some ⟨pr, 0, none⟩), .pointer (some ⟨po, 0, none⟩), .pointer (some ⟨pp, 0, none⟩)] w fun e w' =>
      (∃ v, e = .returned v) ∧ PO w0 #[.int .i64 g.base, .slice Ab g.bands.length cb, .slice Ad g.depths.length cd, .int .i64 g.blo, .int .i64 g.bhi, .slice Ah h.length ch, .slice Ai l.length ci] many pm pr po pp base (.slice A lv.length c) lv w vout vals outL (pickL (agreeB g h l) many f lv o n) w' := by
  intro j
  induction j with
  | zero => intro f hf; omega
  | succ j ih =>
    intro f hf A c lv o n vout vals outL w hnf hln hcap hps
    have hwt := wt_pos f
    by_cases hmany : lv.length = many
    · have := pick_one g Ab Ad Ah Ai cb cd ch ci h l w0 hg hh hi hok h8 hbd many pm pr po pp base hpo hlt hB hne hb4 A c lv o n vout vals outL w (by omega) (by omega) hmany hps
      rw [show pickL (agreeB g h l) many f lv o n = oneL (agreeB g h l o) lv by unfold pickL oneL; rw [if_pos hmany]]
      exact this
    have HPK : Hid (pickL (agreeB g h l) many f lv o n = loopL (agreeB g h l) many f lv o n) := Lib.hid (by unfold pickL; rw [if_neg hmany])
    have HIH := Lib.hid ih
    clear ih
    have hmb : ((lv.length : Int) == (many : Int)) = false := by rw [beq_eq_false_iff_ne]; omega
    have hmb' : (lv.length == many) = false := by rw [beq_eq_false_iff_ne]; omega
    have hb1 := ex_alloc (Below.refl w.heap.size w) (.cells #[.bool (o 0), .bool (o 1), .bool (o 2), .bool (o 3), .bool (o 4), .bool (o 5), .bool (o 6), .bool (o 7)] 108)
    have hps1 := hps.fr _ _ _ _ _ _ _ _ hB hb1
    have q8 : Blk (w.alloc (.cells #[.bool (o 0), .bool (o 1), .bool (o 2), .bool (o 3), .bool (o 4), .bool (o 5), .bool (o 6), .bool (o 7)] 108)) w.heap.size 108 #[.bool (o 0), .bool (o 1), .bool (o 2), .bool (o 3), .bool (o 4), .bool (o 5), .bool (o 6), .bool (o 7)] := Blk.new _ _ _
    have hm1 : w.cell? ⟨pm, 0, none⟩ = some (.int .i64 (many : Int)) := hps.qm.cell 0
    have lm := hps.qm.lt
    have hP0 : PL (agreeB g h l) w0 #[.int .i64 g.base, .slice Ab g.bands.length cb, .slice Ad g.depths.length cd, .int .i64 g.blo, .int .i64 g.bhi, .slice Ah h.length ch, .slice Ai l.length ci] many pm pr po pp base (.slice A lv.length c) lv o l.length f n w w.heap.size vout vals outL n (w.alloc (.cells #[.bool (o 0), .bool (o 1), .bool (o 2), .bool (o 3), .bool (o 4), .bool (o 5), .bool (o 6), .bool (o 7)] 108)) :=
      ⟨vout, [], [], by rw [List.append_nil, List.append_nil]; exact hps1, Fr.below hb1, by simp, fun b hb => .inl hb, q8, by rw [show l.length - n = f by omega]; rfl, by rw [show l.length - n = f by omega]; simp⟩
    have HPS := Lib.hid hps
    have HNF := Lib.hid hnf
    have hnl : n ≤ l.length := by omega
    clear hnf hmany hps hps1
    go_enter Try.func86, Try.ntmps86
    go_wp2_with fail
    go_loopw [10, 11] (fun i _ wr => ∃ k : Nat, n ≤ k ∧ k ≤ l.length ∧ i = .int .i64 k ∧ PL (agreeB g h l) w0 #[.int .i64 g.base, .slice Ab g.bands.length cb, .slice Ad g.depths.length cd, .int .i64 g.blo, .int .i64 g.bhi, .slice Ah h.length ch, .slice Ai l.length ci] many pm pr po pp base (.slice A lv.length c) lv o l.length f n w w.heap.size vout vals outL k wr)
      (fun i _ _ => l.length - (intOf i).toNat)
    case atStart => exact ⟨n, by omega, by omega, rfl, hP0⟩
    case round =>
      clear hP0 q8 hm1 hb1
      obtain ⟨k, hnk, hk, rfl, vout', news, res, hps, hfr, hfresh, hvo', q8, hres, hwt2⟩ := hrel
      have lr := hps.qr.lt
      have l8 := q8.lt
      have lp := hps.qp.lt
      have lo := hps.qo.lt
      have a6 : wr.cell? ⟨pr, 6, none⟩ = some (.slice Ai l.length ci) := hps.qr.cell 6
      have ap : wr.cell? ⟨pp, 0, none⟩ = some (.func (.func 86) #[] #[.pointer (some ⟨pm, 0, none⟩), .pointer (some ⟨pr, 0, none⟩), .pointer (some ⟨po, 0, none⟩), .pointer (some ⟨pp, 0, none⟩)]) := hps.qp.cell 0
      have c0 : wr.cell? ⟨w.heap.size, 0, none⟩ = some (.bool (o 0)) := q8.cell 0
      have c1 : wr.cell? ⟨w.heap.size, 1, none⟩ = some (.bool (o 1)) := q8.cell 1
      have c2 : wr.cell? ⟨w.heap.size, 2, none⟩ = some (.bool (o 2)) := q8.cell 2
      have c3 : wr.cell? ⟨w.heap.size, 3, none⟩ = some (.bool (o 3)) := q8.cell 3
      have c4 : wr.cell? ⟨w.heap.size, 4, none⟩ = some (.bool (o 4)) := q8.cell 4
      have c5 : wr.cell? ⟨w.heap.size, 5, none⟩ = some (.bool (o 5)) := q8.cell 5
      have c6 : wr.cell? ⟨w.heap.size, 6, none⟩ = some (.bool (o 6)) := q8.cell 6
      have c7 : wr.cell? ⟨w.heap.size, 7, none⟩ = some (.bool (o 7)) := q8.cell 7
      have HPSR := Lib.hid hps
      have HRES := Lib.hid hres
      have HVO := Lib.hid hvo'
      have HFRESH := Lib.hid hfresh
      clear hps hres hvo' hfresh
      by_cases hkl : k < l.length
      · have hk8 : k < 8 := by omega
        obtain ⟨o', ho'⟩ : ∃ o', setO o k = o' := ⟨_, rfl⟩
        have hset : (([Value.bool (o 0), Value.bool (o 1), Value.bool (o 2), Value.bool (o 3), Value.bool (o 4), Value.bool (o 5), Value.bool (o 6), Value.bool (o 7)] : List Value).set k (Value.bool true)).toArray = #[.bool (o' 0), .bool (o' 1), .bool (o' 2), .bool (o' 3), .bool (o' 4), .bool (o' 5), .bool (o' 6), .bool (o' 7)] := by
          rw [← ho']
          exact (by simpa [offV] using offV_set o hk8)
        have HO := Lib.hid ho'
        have HSET := Lib.hid hset
        clear ho' hset
        have hbW := ex_alloc (Below.refl wr.heap.size wr) (.cells #[.bool (o' 0), .bool (o' 1), .bool (o' 2), .bool (o' 3), .bool (o' 4), .bool (o' 5), .bool (o' 6), .bool (o' 7)] 108)
        have hpsW := HPSR.out.fr _ _ _ _ _ _ _ _ hB hbW
        have y8 : Blk (wr.alloc (.cells #[.bool (o' 0), .bool (o' 1), .bool (o' 2), .bool (o' 3), .bool (o' 4), .bool (o' 5), .bool (o' 6), .bool (o' 7)] 108)) wr.heap.size 108 #[.bool (o' 0), .bool (o' 1), .bool (o' 2), .bool (o' 3), .bool (o' 4), .bool (o' 5), .bool (o' 6), .bool (o' 7)] := Blk.new _ _ _
        obtain ⟨row, hrow⟩ : ∃ row, (Value.slice A lv.length c).ownBlock = row := ⟨_, rfl⟩
        have hvl : ∀ b, (Value.slice A lv.length c).ownBlock = some b → base ≤ b ∧ b < w.heap.size := fun b hb => own_lt HPS.out.ol hb
        have hfs := hfr.size
        have hn1 : ¬ some pp = row := fun e => by have := hvl pp (hrow.trans e.symm); omega
        have hn2 : ¬ some wr.heap.size = row := fun e => by have := hvl _ (hrow.trans e.symm); omega
        have HROW := Lib.hid hrow
        clear hrow
        go_wp2_with fail
        rw [HSET.out]
        have hWs : (wr.alloc (.cells #[.bool (o' 0), .bool (o' 1), .bool (o' 2), .bool (o' 3), .bool (o' 4), .bool (o' 5), .bool (o' 6), .bool (o' 7)] 108)).heap.size = wr.heap.size + 1 := by simp
        have apW : (wr.alloc (.cells #[.bool (o' 0), .bool (o' 1), .bool (o' 2), .bool (o' 3), .bool (o' 4), .bool (o' 5), .bool (o' 6), .bool (o' 7)] 108)).cell? ⟨pp, 0, none⟩ = some (.func (.func 86) #[] #[.pointer (some ⟨pm, 0, none⟩), .pointer (some ⟨pr, 0, none⟩), .pointer (some ⟨po, 0, none⟩), .pointer (some ⟨pp, 0, none⟩)]) := hpsW.qp.cell 0
        have lpW := hpsW.qp.lt
        have ly := y8.lt
        have d0 : (wr.alloc (.cells #[.bool (o' 0), .bool (o' 1), .bool (o' 2), .bool (o' 3), .bool (o' 4), .bool (o' 5), .bool (o' 6), .bool (o' 7)] 108)).cell? ⟨wr.heap.size, 0, none⟩ = some (.bool (o' 0)) := y8.cell 0
        have d1 : (wr.alloc (.cells #[.bool (o' 0), .bool (o' 1), .bool (o' 2), .bool (o' 3), .bool (o' 4), .bool (o' 5), .bool (o' 6), .bool (o' 7)] 108)).cell? ⟨wr.heap.size, 1, none⟩ = some (.bool (o' 1)) := y8.cell 1
        have d2 : (wr.alloc (.cells #[.bool (o' 0), .bool (o' 1), .bool (o' 2), .bool (o' 3), .bool (o' 4), .bool (o' 5), .bool (o' 6), .bool (o' 7)] 108)).cell? ⟨wr.heap.size, 2, none⟩ = some (.bool (o' 2)) := y8.cell 2
        have d3 : (wr.alloc (.cells #[.bool (o' 0), .bool (o' 1), .bool (o' 2), .bool (o' 3), .bool (o' 4), .bool (o' 5), .bool (o' 6), .bool (o' 7)] 108)).cell? ⟨wr.heap.size, 3, none⟩ = some (.bool (o' 3)) := y8.cell 3
        have d4 : (wr.alloc (.cells #[.bool (o' 0), .bool (o' 1), .bool (o' 2), .bool (o' 3), .bool (o' 4), .bool (o' 5), .bool (o' 6), .bool (o' 7)] 108)).cell? ⟨wr.heap.size, 4, none⟩ = some (.bool (o' 4)) := y8.cell 4
        have d5 : (wr.alloc (.cells #[.bool (o' 0), .bool (o' 1), .bool (o' 2), .bool (o' 3), .bool (o' 4), .bool (o' 5), .bool (o' 6), .bool (o' 7)] 108)).cell? ⟨wr.heap.size, 5, none⟩ = some (.bool (o' 5)) := y8.cell 5
        have d6 : (wr.alloc (.cells #[.bool (o' 0), .bool (o' 1), .bool (o' 2), .bool (o' 3), .bool (o' 4), .bool (o' 5), .bool (o' 6), .bool (o' 7)] 108)).cell? ⟨wr.heap.size, 6, none⟩ = some (.bool (o' 6)) := y8.cell 6
        have d7 : (wr.alloc (.cells #[.bool (o' 0), .bool (o' 1), .bool (o' 2), .bool (o' 3), .bool (o' 4), .bool (o' 5), .bool (o' 6), .bool (o' 7)] 108)).cell? ⟨wr.heap.size, 7, none⟩ = some (.bool (o' 7)) := y8.cell 7
        clear c0 c1 c2 c3 c4 c5 c6 c7 a6 ap
        have HPSW := Lib.hid hpsW
        have HY8 := Lib.hid y8
        have HBW := Lib.hid hbW
        clear hpsW y8 hbW HSET
        generalize hW : wr.alloc (.cells #[.bool (o' 0), .bool (o' 1), .bool (o' 2), .bool (o' 3), .bool (o' 4), .bool (o' 5), .bool (o' 6), .bool (o' 7)] 108) = W at *
        have HWS := Lib.hid hWs
        clear hW
        have hWs' : wr.heap.size + 1 ≤ W.heap.size := by omega
        clear hWs
        refine wp_region_gx_held row 8 [0, 1, 2, 5, 6, 7] [3, 4] (by kernel_rfl) (by kernel_rfl) (by intro d _ _ _ _ h; cases d <;> exact h) ?_
        simp only [List.filterMap_cons, List.filterMap_nil, List.getElem?_cons_zero, List.getElem?_cons_succ, List.drop_succ_cons, List.drop_zero]
        show wpQuiet _ _ _ _ [_, _, _, _, _, _] _
        repeat (any_goals (go_big_quiet_step (fail)))
        refine wpQuiet_nil ?_
        simp only [wpLoud]
        go_wp2_with fail
        have hgA : W.grownBy (W.alloc (.cells #[.int .i64 (k : Int)] 3)).drew row := grown_row (((Below.refl W.heap.size W).alloc (Nat.le_refl _) _).drew)
        refine ⟨hgA, ?_⟩
        have holA : (W.alloc (.cells #[.int .i64 (k : Int)] 3)).drew.ownsRow base 3 1 (.slice A lv.length c) lv.length (lv.map (Value.int .i64)) := HPSW.out.ol.alloc _
        have hcA : (W.alloc (.cells #[.int .i64 (k : Int)] 3)).drew.cell? ⟨W.heap.size, 0, none⟩ = some (.int .i64 (k : Int)) := (Blk.new W _ _).cell 0
        have hbA : base ≤ (W.alloc (.cells #[.int .i64 (k : Int)] 3)).drew.heap.size := by simp; omega
        have hsA : (W.alloc (.cells #[.int .i64 (k : Int)] 3)).drew.heap.size = W.heap.size + 1 := by simp
        have HSA := Lib.hid hsA
        clear hsA
        generalize (W.alloc (.cells #[.int .i64 (k : Int)] 3)).drew = W3 at *
        go_wp2_with (at_builtin; refine wpList_append_two _ rfl _ _ rfl base A lv.length c _ rfl holA ⟨W.heap.size, 0, none⟩ 1 (.int .i64 (k : Int)) rfl hcA rfl (by omega) hbA ?_; intro gg c' w4 hown4 hgrow hat hback; have HBACK := Lib.hid hback; have HAT := Lib.hid hat; clear hat hback hcA)
        rw [HROW.out] at hgrow
        refine ⟨hgA.andThen hgrow (fun j hj => .inr hj), ?_⟩
        have P := HPSR.out
        have PW := HPSW.out
        have hA : Fr (fun b => (Value.slice A lv.length c).ownBlock = some b) W w4 := Fr.grown (hgA.andThen hgrow (fun j hj => .inr hj)) (fun b hb => .inl (by rw [HROW.out]; exact hb))
        have hsm : ∀ x, x < base → ¬ ((Value.slice A lv.length c).ownBlock = some x) := fun x h1 h2 => by have := hvl x h2; omega
        have h2W : w.heap.size ≤ W.heap.size := by omega
        have hlen : (lv ++ [(k : Int)]).length = lv.length + 1 := by simp
        have hps4 : PS w0 #[.int .i64 g.base, .slice Ab g.bands.length cb, .slice Ad g.depths.length cd, .int .i64 g.blo, .int .i64 g.bhi, .slice Ah h.length ch, .slice Ai l.length ci] many pm pr po pp base vout' (.slice (some ⟨gg, 0, none⟩) (lv ++ [(k : Int)]).length c') (lv ++ [(k : Int)]) (vals ++ news) (outL ++ res) w4 := by
          refine ⟨hA.toBelow PW.bw PW.bw.size (fun x hx => by have := hvl x hx; omega), PW.qm.fr hA (hsm _ hlt.1), PW.qr.fr hA (hsm _ hlt.2.1), PW.qo.fr hA (hsm _ hlt.2.2.1), PW.qp.fr hA (hsm _ hlt.2.2.2),
            own_fr PW.oo hA (fun b hb h3 => own_ownne PW.oo PW.ol (by decide) hb h3), by rw [hlen]; simpa using hown4, PW.rows.fr hA (fun v hv b hb h3 => PW.ap v hv b hb h3), fun v hv b hb h3 => ?_⟩
          have hgb : gg = b := by simpa [Value.ownBlock] using h3
          subst hgb
          rcases HAT.out with h4 | h4
          · exact PW.ap v hv _ hb h4
          · have h5 := (RowsAre.lt PW.rows v hv _ hb).2
            rw [HSA.out] at h4
            omega
        have hw3 : wt (l.length - k) = wt (l.length - (k + 1)) + wt (l.length - (k + 1)) := by rw [show l.length - k = (l.length - (k + 1)) + 1 by omega]; rfl
        have HH := HIH.out (l.length - (k + 1)) (by have := HNF.out; omega) (some ⟨gg, 0, none⟩) c' (lv ++ [(k : Int)]) o' (k + 1) vout' (vals ++ news) (outL ++ res) w4 (by omega) (by rw [hlen]; omega) (by rw [List.length_append]; omega) hps4
        rw [hlen] at HH hps4
        have HPS4 := Lib.hid hps4
        have HA := Lib.hid hA
        clear hps4 hA hgA hgrow hlen holA
        go_wp2_with fail
        refine HH.mono ?_
        rintro e w5 ⟨⟨v5, rfl⟩, vout5, news5, ps5, fr5, fresh5, vo5⟩
        have HW3 := Lib.hid hw3
        clear hw3 HH
        go_wp2
        go_roundw
        case measure => simp [intOf]; omega
        case rel =>
        have hA := HA.out
        have hs4 := hA.size
        have hgg : gg = gg := rfl
        have hlenr : news5.length = (pickL (agreeB g h l) many (l.length - (k + 1)) (lv ++ [(k : Int)]) o' (k + 1)).length := by
          have h1 := ps5.rows.len
          have h2 := P.rows.len
          simp only [List.length_append] at h1 h2
          omega
        have hpl := pickL_len (A := agreeB g h l) (many := many) (f := l.length - (k + 1)) (lv := lv ++ [(k : Int)]) (o := o') (n := k + 1)
        have hWr : Fr (PR po (Value.slice A lv.length c) vout) wr w4 := (Fr.below HBW.out).trans hA (fun x _ hx => .inr (.inl hx))
        refine ⟨k + 1, by omega, by omega, by go_num, vout5, news ++ news5, res ++ pickL (agreeB g h l) many (l.length - (k + 1)) (lv ++ [(k : Int)]) o' (k + 1), ?_, ?_, ?_, ?_, ?_, ?_, ?_⟩
        · refine ⟨ps5.bw, ps5.qm, ps5.qr, ps5.qo, ps5.qp, by rw [← List.append_assoc]; exact ps5.oo, ?_, by rw [← List.append_assoc, ← List.append_assoc]; exact ps5.rows, fun v hv b hb h3 => ?_⟩
          · refine HBACK.out w5 (by simpa using ps5.ol) (fun b hb hne' => fr5.block b (by have := hvl b hb; omega) (fun hr => ?_))
            rcases hr with hr | hr | hr
            · have := hvl b hb; omega
            · exact hne' (by have : gg = b := by simpa [Value.ownBlock] using hr
                             exact this.symm)
            · exact own_ownne P.ol P.oo (by decide) hb hr
          · rw [← List.append_assoc] at hv
            rcases List.mem_append.1 hv with hv | hv
            · exact P.ap v hv b hb h3
            · have h4 := fresh5 v hv b hb
              have h5 := hvl b h3
              omega
        · refine (hfr.trans hWr (fun x _ hx => hx)).trans fr5 (fun x hx hr => ?_)
          rcases hr with hr | hr | hr
          · exact .inl hr
          · have hgb : gg = x := by simpa [Value.ownBlock] using hr
            subst hgb
            rcases HAT.out with h4 | h4
            · exact .inr (.inl h4)
            · rw [HSA.out] at h4; omega
          · rcases HVO.out x hr with h4 | h4
            · exact .inr (.inr h4)
            · omega
        · intro v hv b hb
          rcases List.mem_append.1 hv with hv | hv
          · exact HFRESH.out v hv b hb
          · have h4 := fresh5 v hv b hb; omega
        · intro b hb
          rcases vo5 b hb with h4 | h4
          · exact HVO.out b h4
          · right; omega
        · have hlo := HPS.out.qo.lt
          refine ((q8.fr (Fr.below (R := fun _ => False) HBW.out) id).fr hA (fun h3 => by have := hvl _ h3; omega)).fr fr5 (fun hr => ?_)
          rcases hr with hr | hr | hr
          · omega
          · have hgb : gg = w.heap.size := by simpa [Value.ownBlock] using hr
            rcases HAT.out with h4 | h4
            · have := hvl gg h4; omega
            · rw [HSA.out] at h4; omega
          · exact own_blkne P.oo q8 (by decide) hr
        · rw [List.append_assoc, ← HRES.out, show l.length - k = (l.length - (k + 1)) + 1 by omega, loopL_succ, HO.out]
        · rw [List.length_append]
          have := HW3.out
          omega
      · have HKN : Hid (k = l.length) := Lib.hid (by omega)
        go_wp2
        refine bodyPost_end (results_none rfl _ _ _) rfl ?_
        refine ⟨⟨_, rfl⟩, vout', news, ?_, hfr, HFRESH.out, HVO.out⟩
        have h1 := HRES.out
        rw [HKN.out, Nat.sub_self] at h1
        rw [HPK.out, ← h1, loopL, List.append_nil]
        exact HPSR.out

end Go.Proofs.Ytlgmeofpkfliaaa
end

section
namespace Go.Proofs.Ytlgmeofpkfliaaa
open Go.RowKit
attribute [local go_sem] Ex.cell? Ex.frozen? run_store_func

theorem RowsAre.base {w : World} {base base' : Nat} (hb : base' ≤ base) : ∀ {vs : List Value} {ls : List (List Int)}, RowsAre w base vs ls → RowsAre w base' vs ls
  | [], [], _ => trivial
  | _ :: _, _ :: _, h => ⟨own_base h.1 hb, RowsAre.base hb h.2⟩

/-- all lists of so many ices. -/
noncomputable def listsL (g : Gl) (h : List Rg) (l : List Ic) (many : Nat) : List (List Int) := pickL (agreeB g h l) many l.length [] off0 0

set_option maxRecDepth 100000 in
set_option maxHeartbeats 1600000 in
theorem lists_any (g : Gl) (Ab Ad Ah Ai : Option Addr) (cb cd ch ci : Nat) (h : List Rg) (l : List Ic) (w : World) (hg : GlIn w w.heap.size g Ab Ad) (hh : SlAt w w.heap.size 2 Ah h.length (fR h)) (hi : SlAt w w.heap.size 3 Ai l.length (fC l)) (many : Nat) (hok : Ok g h) (h8 : l.length ≤ 8) (hbd : IcesBd l) :
    Calls Try.prog 66 #[.agg #[.int .i64 g.base, .slice Ab g.bands.length cb, .slice Ad g.depths.length cd, .int .i64 g.blo, .int .i64 g.bhi, .slice Ah h.length ch, .slice Ai l.length ci], .int .i64 (many : Int)] w fun e w' =>
      ∃ v vals, e = .returned v ∧ w'.ownsRow w.heap.size 54 1 v vals.length vals ∧ RowsAre w' w.heap.size vals (listsL g h l many) ∧ Below w.heap.size w w' := by
  have hmf : ∀ (fn : Fn) (first cap : Array Value) (w : World), (Instr.makeFunc fn first cap).run Try.prog w = .ok (.func fn first cap) w := fun _ _ _ _ => rfl
  go_enter Try.func66, Try.ntmps66
  have q0 : Blk ((((w.alloc (.cells #[.int .i64 g.base, .slice Ab g.bands.length cb, .slice Ad g.depths.length cd, .int .i64 g.blo, .int .i64 g.bhi, .slice Ah h.length ch, .slice Ai l.length ci] 103)).alloc (.cells #[.int .i64 (many : Int)] 3)).alloc (.cells #[.slice none 0 0] 127)).alloc (.cells #[.func (.func 86) #[] #[.pointer (some ⟨w.heap.size + 1, 0, none⟩), .pointer (some ⟨w.heap.size, 0, none⟩), .pointer (some ⟨w.heap.size + 1 + 1, 0, none⟩), .pointer (some ⟨w.heap.size + 1 + 1 + 1, 0, none⟩)]] 152)) w.heap.size 103 #[.int .i64 g.base, .slice Ab g.bands.length cb, .slice Ad g.depths.length cd, .int .i64 g.blo, .int .i64 g.bhi, .slice Ah h.length ch, .slice Ai l.length ci] := (((Blk.new _ _ _).alloc _).alloc _).alloc _
  have q1 : Blk ((((w.alloc (.cells #[.int .i64 g.base, .slice Ab g.bands.length cb, .slice Ad g.depths.length cd, .int .i64 g.blo, .int .i64 g.bhi, .slice Ah h.length ch, .slice Ai l.length ci] 103)).alloc (.cells #[.int .i64 (many : Int)] 3)).alloc (.cells #[.slice none 0 0] 127)).alloc (.cells #[.func (.func 86) #[] #[.pointer (some ⟨w.heap.size + 1, 0, none⟩), .pointer (some ⟨w.heap.size, 0, none⟩), .pointer (some ⟨w.heap.size + 1 + 1, 0, none⟩), .pointer (some ⟨w.heap.size + 1 + 1 + 1, 0, none⟩)]] 152)) (w.heap.size + 1) 3 #[.int .i64 (many : Int)] := ((Blk.new' _ _ _ (by simp)).alloc _).alloc _
  have q2 : Blk ((((w.alloc (.cells #[.int .i64 g.base, .slice Ab g.bands.length cb, .slice Ad g.depths.length cd, .int .i64 g.blo, .int .i64 g.bhi, .slice Ah h.length ch, .slice Ai l.length ci] 103)).alloc (.cells #[.int .i64 (many : Int)] 3)).alloc (.cells #[.slice none 0 0] 127)).alloc (.cells #[.func (.func 86) #[] #[.pointer (some ⟨w.heap.size + 1, 0, none⟩), .pointer (some ⟨w.heap.size, 0, none⟩), .pointer (some ⟨w.heap.size + 1 + 1, 0, none⟩), .pointer (some ⟨w.heap.size + 1 + 1 + 1, 0, none⟩)]] 152)) (w.heap.size + 1 + 1) 127 #[.slice none 0 0] := (Blk.new' _ _ _ (by simp)).alloc _
  have q3 : Blk ((((w.alloc (.cells #[.int .i64 g.base, .slice Ab g.bands.length cb, .slice Ad g.depths.length cd, .int .i64 g.blo, .int .i64 g.bhi, .slice Ah h.length ch, .slice Ai l.length ci] 103)).alloc (.cells #[.int .i64 (many : Int)] 3)).alloc (.cells #[.slice none 0 0] 127)).alloc (.cells #[.func (.func 86) #[] #[.pointer (some ⟨w.heap.size + 1, 0, none⟩), .pointer (some ⟨w.heap.size, 0, none⟩), .pointer (some ⟨w.heap.size + 1 + 1, 0, none⟩), .pointer (some ⟨w.heap.size + 1 + 1 + 1, 0, none⟩)]] 152)) (w.heap.size + 1 + 1 + 1) 152 #[.func (.func 86) #[] #[.pointer (some ⟨w.heap.size + 1, 0, none⟩), .pointer (some ⟨w.heap.size, 0, none⟩), .pointer (some ⟨w.heap.size + 1 + 1, 0, none⟩), .pointer (some ⟨w.heap.size + 1 + 1 + 1, 0, none⟩)]] := Blk.new' _ _ _ (by simp)
  have hb : Below w.heap.size w ((((w.alloc (.cells #[.int .i64 g.base, .slice Ab g.bands.length cb, .slice Ad g.depths.length cd, .int .i64 g.blo, .int .i64 g.bhi, .slice Ah h.length ch, .slice Ai l.length ci] 103)).alloc (.cells #[.int .i64 (many : Int)] 3)).alloc (.cells #[.slice none 0 0] 127)).alloc (.cells #[.func (.func 86) #[] #[.pointer (some ⟨w.heap.size + 1, 0, none⟩), .pointer (some ⟨w.heap.size, 0, none⟩), .pointer (some ⟨w.heap.size + 1 + 1, 0, none⟩), .pointer (some ⟨w.heap.size + 1 + 1 + 1, 0, none⟩)]] 152)) := ex_alloc (ex_alloc (ex_alloc (ex_alloc (Below.refl _ _) _) _) _) _
  have hwt : wt l.length ≤ 256 := by
    have : l.length = 0 ∨ l.length = 1 ∨ l.length = 2 ∨ l.length = 3 ∨ l.length = 4 ∨ l.length = 5 ∨ l.length = 6 ∨ l.length = 7 ∨ l.length = 8 := by omega
    rcases this with h | h | h | h | h | h | h | h | h <;> rw [h] <;> decide
  go_wp2_with fail
  have a3 := q3.cell 0
  simp at a3
  generalize hW : ((((w.alloc (.cells #[.int .i64 g.base, .slice Ab g.bands.length cb, .slice Ad g.depths.length cd, .int .i64 g.blo, .int .i64 g.bhi, .slice Ah h.length ch, .slice Ai l.length ci] 103)).alloc (.cells #[.int .i64 (many : Int)] 3)).alloc (.cells #[.slice none 0 0] 127)).alloc (.cells #[.func (.func 86) #[] #[.pointer (some ⟨w.heap.size + 1, 0, none⟩), .pointer (some ⟨w.heap.size, 0, none⟩), .pointer (some ⟨w.heap.size + 1 + 1, 0, none⟩), .pointer (some ⟨w.heap.size + 1 + 1 + 1, 0, none⟩)]] 152)) = W at *
  clear hW
  have HP := pick_any g Ab Ad Ah Ai cb cd ch ci h l w hg hh hi hok h8 hbd many (w.heap.size + 1) w.heap.size (w.heap.size + 1 + 1) (w.heap.size + 1 + 1 + 1) (w.heap.size + 1 + 1 + 1 + 1) (by omega) (by omega) (by omega) (by omega) (by omega) (l.length + 1) l.length (by omega)
    none 0 [] off0 0 (.slice none 0 0) [] [] W (by omega) (by simp) (by simp; omega) ⟨hb, q1, q0, q2, q3, ⟨rfl, .inl ⟨rfl, rfl⟩⟩, ⟨rfl, .inl ⟨rfl, rfl⟩⟩, trivial, fun v hv => by cases hv⟩
  refine HP.mono ?_
  rintro e w2 ⟨⟨v, rfl⟩, vout, news, ps, fr, fresh, vo⟩
  have po := ps.qo
  have ho := ps.oo
  have lo := po.lt
  have co : w2.cell? ⟨w.heap.size + 1 + 1, 0, none⟩ = some vout := po.cell 0
  have fo := po.frozen 0
  have hr := ps.rows
  have hbw := ps.bw
  rw [List.nil_append] at ho
  rw [List.nil_append, List.nil_append] at hr
  clear HP ps fr fresh vo
  obtain ⟨Av, cv, hv⟩ : ∃ A c, vout = .slice A news.length c := by
    rcases ho.2 with ⟨rfl, h0⟩ | ⟨g', cap, cur, rfl, _⟩
    · exact ⟨none, 0, by rw [h0]⟩
    · exact ⟨_, _, rfl⟩
  subst hv
  go_wp2
  have co' : (w2.setCell ⟨w.heap.size + 1 + 1, 0, none⟩ (.slice Av news.length cv)).cell? ⟨w.heap.size + 1 + 1, 0, none⟩ = some (.slice Av news.length cv) := (po.set_ 0 _).cell 0
  refine bodyPost_ret (v := .slice Av news.length cv) (by simp [results, Try.results66, go_sem, co']) rfl ?_
  have hf : Fr (fun b => b = w.heap.size + 1 + 1) w2 (w2.setCell ⟨w.heap.size + 1 + 1, 0, none⟩ (.slice Av news.length cv)) := Fr.set _ _ _ _ rfl
  refine ⟨_, news, rfl, own_base (own_fr ho hf (fun b hb h3 => by have := own_lt ho hb; omega)) (by omega), ?_, hbw.setCell (by show w.heap.size ≤ w.heap.size + 1 + 1; omega) _⟩
  have h1 := hr.fr hf (fun v hv b hb h3 => by have := RowsAre.lt hr v hv b hb; omega)
  exact RowsAre.base (by omega) h1

end Go.Proofs.Ytlgmeofpkfliaaa
end

section
namespace Go.Proofs.Ytlgmeofpkfliaaa
open Go.RowKit
attribute [local go_sem] Ex.cell? Ex.frozen?

theorem loopL_mem {A : (Nat → Bool) → Bool} {many : Nat} : ∀ {f : Nat} {lv : List Int} {o : Nat → Bool} {n : Nat} {L : List Int}, L ∈ loopL A many f lv o n → L.length = many
  | 0, _, _, _, _, h => by cases h
  | f + 1, lv, o, n, L, h => by
    rw [loopL] at h
    rcases List.mem_append.1 h with h | h
    · split at h
      · split at h
        · rw [List.mem_singleton.1 h]; assumption
        · cases h
      · exact loopL_mem h
    · exact loopL_mem h
theorem listsL_mem {g : Gl} {h : List Rg} {l : List Ic} {many : Nat} {L : List Int} (hL : L ∈ listsL g h l many) : L.length = many := by
  unfold listsL pickL at hL
  split at hL
  · split at hL
    · rw [List.mem_singleton.1 hL]; assumption
    · cases hL
  · exact loopL_mem hL

def seqL (n : Nat) : List Int := (List.range n).map fun k : Nat => (k : Int)
theorem seqL_succ (n : Nat) : seqL (n + 1) = seqL n ++ [(n : Int)] := by simp [seqL, List.range_succ]
theorem seqL_len (n : Nat) : (seqL n).length = n := by simp [seqL]
/-- the fewest: the first list of the first number that has any; all, if none has. -/
def FewIs (L : Nat → List (List Int)) (n : Nat) (r : List Int) : Prop :=
  (∃ k, k < n ∧ (∀ j, j < k → L j = []) ∧ ∃ ls, L k = r :: ls) ∨ ((∀ j, j < n → L j = []) ∧ r = seqL n)

set_option maxHeartbeats 800000 in
theorem Fewest_bad (g : Gl) (Ab Ad Ah Ai : Option Addr) (cb cd ch ci : Nat) (h : List Rg) (l : List Ic) (w : World) (hg : GlIn w w.heap.size g Ab Ad) (hh : SlAt w w.heap.size 2 Ah h.length (fR h)) (hi : SlAt w w.heap.size 3 Ai l.length (fC l)) (hne : iced g h l ≠ 0) :
    Calls Try.prog 32 #[.agg #[.int .i64 g.base, .slice Ab g.bands.length cb, .slice Ad g.depths.length cd, .int .i64 g.blo, .int .i64 g.bhi], .slice Ah h.length ch, .slice Ai l.length ci] w fun e w' => e = .returned (.tuple #[.slice none 0 0, .int .i64 (iced g h l)]) ∧ Below w.heap.size w w' := by
  have hb1 := ex_alloc (Below.refl w.heap.size w) (.cells #[.int .i64 g.base, .slice Ab g.bands.length cb, .slice Ad g.depths.length cd, .int .i64 g.blo, .int .i64 g.bhi] 39)
  have HNE := Lib.hid hne
  have hcb : (iced g h l == 0) = false := by simpa using hne
  have hcb' : (iced g h l != 0) = true := by simpa using hne
  clear hne
  go_enter Try.func32, Try.ntmps32
  go_wp2_with fail
  refine (iced_no g _ _ _ _ _ _ _ _ h l _ ((hg.below hb1).up hb1.size) ((hh.below hb1).up hb1.size) ((hi.below hb1).up hb1.size) HNE.out).mono ?_
  rintro e w2 ⟨rfl, hb2⟩
  go_wp2
  go_ret2
  exact ⟨rfl, ex_alloc (ex_trans hb1 hb2) _⟩

set_option maxRecDepth 100000 in
set_option maxHeartbeats 3200000 in
theorem Fewest_good (g : Gl) (Ab Ad Ah Ai : Option Addr) (cb cd ch ci : Nat) (h : List Rg) (l : List Ic) (w : World) (hg : GlIn w w.heap.size g Ab Ad) (hh : SlAt w w.heap.size 2 Ah h.length (fR h)) (hi : SlAt w w.heap.size 3 Ai l.length (fC l)) (heq : iced g h l = 0) :
    Calls Try.prog 32 #[.agg #[.int .i64 g.base, .slice Ab g.bands.length cb, .slice Ad g.depths.length cd, .int .i64 g.blo, .int .i64 g.bhi], .slice Ah h.length ch, .slice Ai l.length ci] w fun e w' => (∃ v r, e = .returned (.tuple #[v, .int .i64 0]) ∧ FewIs (listsL g h l) l.length r ∧ w'.ownsRow w.heap.size 3 1 v r.length (r.map (Value.int .i64))) ∧ Below w.heap.size w w' := by
  obtain ⟨i0, hi0, hz0, hz1, hz2⟩ := info_parts int_info
  have HI := Lib.hid hi0
  clear hi0
  have hb1 := ex_alloc (Below.refl w.heap.size w) (.cells #[.int .i64 g.base, .slice Ab g.bands.length cb, .slice Ad g.depths.length cd, .int .i64 g.blo, .int .i64 g.bhi] 39)
  have HE := Lib.hid heq
  have h8 := iced_len heq
  clear heq
  go_enter Try.func32, Try.ntmps32
  go_wp2_with fail
  refine (iced_ok g _ _ _ _ _ _ _ _ h l _ ((hg.below hb1).up hb1.size) ((hh.below hb1).up hb1.size) ((hi.below hb1).up hb1.size) HE.out).mono ?_
  rintro e w2 ⟨rfl, hb2⟩
  have hB2 := ex_trans hb1 hb2
  have hb3 := ex_alloc (ex_trans hb1 hb2) (.cells #[.int .i64 g.base, .slice Ab g.bands.length cb, .slice Ad g.depths.length cd, .int .i64 g.blo, .int .i64 g.bhi, .slice Ah h.length ch, .slice Ai l.length ci] 103)
  have hw2 := hB2.size
  go_wp2_with fail
  go_loopw [10, 11, 26] (fun _ _ i wr => ∃ k : Nat, k ≤ l.length ∧ i = .int .i64 k ∧ (∀ j, j < k → listsL g h l j = []) ∧ Below w.heap.size w wr ∧ Blk wr w2.heap.size 103 #[.int .i64 g.base, .slice Ab g.bands.length cb, .slice Ad g.depths.length cd, .int .i64 g.blo, .int .i64 g.bhi, .slice Ah h.length ch, .slice Ai l.length ci])
    (fun _ _ i _ => l.length - (intOf i).toNat)
  case atStart => exact ⟨0, by omega, rfl, fun j hj => by omega, hb3, Blk.new _ _ _⟩
  case round =>
    obtain ⟨k, hk, rfl, hag, hbl, hq⟩ := hrel
    have HAG := Lib.hid hag
    clear hag hb1 hb3
    by_cases hlt : k < l.length
    · have hc0 := hq.cell 0
      have hc1 := hq.cell 1
      have hc2 := hq.cell 2
      have hc3 := hq.cell 3
      have hc4 := hq.cell 4
      have hc5 := hq.cell 5
      have hc6 := hq.cell 6
      have hltq := hq.lt
      simp at hc0 hc1 hc2 hc3 hc4 hc5 hc6
      go_wp2_with fail
      refine (lists_any g _ _ _ _ _ _ _ _ h l _ ((hg.below hbl).up hbl.size) ((hh.below hbl).up hbl.size) ((hi.below hbl).up hbl.size) k (ok_of_iced HE.out) h8 (iced_bd HE.out)).mono ?_
      rintro e w5 ⟨v, vals, rfl, hov, hrows, hb5⟩
      have hB5 := ex_trans hbl hb5
      cases hL : listsL g h l k with
      | nil =>
        rw [hL] at hrows
        have HL := Lib.hid hL
        clear hL
        cases vals with
        | cons v1 vs1 => exact hrows.elim
        | nil =>
          obtain ⟨Av, cv, hv⟩ : ∃ A c, v = .slice A 0 c := by
            rcases hov.2 with ⟨rfl, h0⟩ | ⟨g', cap, cur, rfl, _⟩
            · exact ⟨none, 0, rfl⟩
            · exact ⟨_, _, rfl⟩
          subst hv
          have hq5 := hq.below hb5 hq.lt
          go_wp2
          go_roundw
          case rel => exact ⟨k + 1, by omega, by go_num, fun j hj => by rcases Nat.lt_succ_iff_lt_or_eq.1 hj with h | h; exact HAG.out j h; rw [h]; exact HL.out, hB5, hq5⟩
          case measure => simp [intOf]; omega
      | cons r ls =>
        rw [hL] at hrows
        have HL := Lib.hid hL
        clear hL
        cases vals with
        | nil => exact hrows.elim
        | cons v0 vs =>
          obtain ⟨hr0, hrs⟩ := hrows
          obtain ⟨gb, cap, rfl, hgb, hgb2, hcap, hcells⟩ := own_cells hov (by simp)
          have hcv : w5.cell? ⟨gb, 0, none⟩ = some v0 := by have := hcells 0 (by simp); simpa using this
          obtain ⟨A0, c0, rfl, hc0', -⟩ := own_sl hr0
          clear hcells hrs
          go_wp2
          go_ret2
          exact ⟨⟨_, r, rfl, .inl ⟨k, hlt, HAG.out, ls, HL.out⟩, own_base hr0 hbl.size⟩, hB5⟩
    · obtain rfl : k = l.length := by omega
      go_wp2_with fail
      go_loopw [12, 13, 41] (fun v _ i wr => ∃ k : Nat, k ≤ l.length ∧ i = .int .i64 k ∧ Below w.heap.size w wr ∧ wr.ownsRow w.heap.size 3 1 v (seqL k).length ((seqL k).map (Value.int .i64)))
        (fun _ _ i _ => l.length - (intOf i).toNat)
      case atStart => exact ⟨0, by omega, rfl, hbl, ⟨rfl, .inl ⟨rfl, rfl⟩⟩⟩
      case round =>
        clear hlt hk hbl hq
        obtain ⟨k, hk, rfl, hbl, hown⟩ := hrel
        have HS := Lib.hid (seqL_succ k)
        have hlen := seqL_len k
        by_cases hlt : k < l.length
        · have y4 := hown.alloc (.cells #[.int .i64 (k : Int)] 3)
          have c63 : (seqL k).length + 1 ≤ maxLen := by unfold maxLen; omega
          have cby : ((seqL k).length + 1) * 8 ≤ 140737488355328 := by omega
          have hbase : w.heap.size ≤ (wr.alloc (.cells #[.int .i64 (k : Int)] 3)).heap.size := by have := hbl.size; simp; omega
          have HLEN := Lib.hid hlen
          clear hlen
          go_wp2_with (at_builtin; refine wpList_append_lies _ rfl _ _ _ rfl w.heap.size 3 i0 _ 1 8 Try.underlying54 HI.out hz0 hz1 hz2 rfl (by omega) u12 _ _ rfl y4 ⟨wr.heap.size, 0, none⟩ 1 1 [.int .i64 (k : Int)] rfl rfl (World.news_of_block (heap_alloc_new wr _)) (by simp [Value.oneCell']) (by omega) c63 cby hbase (wr.heap.size + 1) (by simp) ?_; intro gg cap w1 hown' hgrow hat hlt')
          go_roundw
          case rel => exact ⟨k + 1, by omega, by go_num, (ex_alloc hbl _).grown hgrow (by simp; have := hbl.size; omega) (fun j hj => own_ge hown hj), by rw [HS.out]; exact own_snoc rfl hown'⟩
          case measure => simp [intOf]; omega
        · obtain rfl : k = l.length := by omega
          go_wp2
          go_ret2
          exact ⟨⟨_, _, rfl, .inr ⟨HAG.out, rfl⟩, hown⟩, hbl⟩

end Go.Proofs.Ytlgmeofpkfliaaa
end

section
namespace Go.Proofs.Ytlgmeofpkfliaaa
open Go.RowKit
attribute [local go_sem] Ex.cell? Ex.frozen?

/-- what Blame tells. -/
def BlameIs (agrees : Bool) (L1 : List (List Int)) (e : Ending) : Prop :=
  ((agrees = true ∨ L1.length ≠ 1) ∧ e = .returned (.tuple #[.int .i64 0, .int .i64 7])) ∨ (agrees = false ∧ ∃ x : Int, L1 = [[x]] ∧ e = .returned (.tuple #[.int .i64 x, .int .i64 0]))

set_option maxHeartbeats 800000 in
theorem Blame_bad (g : Gl) (Ab Ad Ah Ai : Option Addr) (cb cd ch ci : Nat) (h : List Rg) (l : List Ic) (w : World) (hg : GlIn w w.heap.size g Ab Ad) (hh : SlAt w w.heap.size 2 Ah h.length (fR h)) (hi : SlAt w w.heap.size 3 Ai l.length (fC l)) (hne : iced g h l ≠ 0) :
    Calls Try.prog 36 #[.agg #[.int .i64 g.base, .slice Ab g.bands.length cb, .slice Ad g.depths.length cd, .int .i64 g.blo, .int .i64 g.bhi], .slice Ah h.length ch, .slice Ai l.length ci] w fun e w' => e = .returned (.tuple #[.int .i64 0, .int .i64 (iced g h l)]) ∧ Below w.heap.size w w' := by
  have hb1 := ex_alloc (Below.refl w.heap.size w) (.cells #[.int .i64 g.base, .slice Ab g.bands.length cb, .slice Ad g.depths.length cd, .int .i64 g.blo, .int .i64 g.bhi] 39)
  have HNE := Lib.hid hne
  have hcb : (iced g h l == 0) = false := by simpa using hne
  have hcb' : (iced g h l != 0) = true := by simpa using hne
  clear hne
  go_enter Try.func36, Try.ntmps36
  go_wp2_with fail
  refine (iced_no g _ _ _ _ _ _ _ _ h l _ ((hg.below hb1).up hb1.size) ((hh.below hb1).up hb1.size) ((hi.below hb1).up hb1.size) HNE.out).mono ?_
  rintro e w2 ⟨rfl, hb2⟩
  go_wp2
  go_ret2
  exact ⟨rfl, ex_alloc (ex_trans hb1 hb2) _⟩

set_option maxRecDepth 100000 in
set_option maxHeartbeats 3200000 in
theorem Blame_good (g : Gl) (Ab Ad Ah Ai : Option Addr) (cb cd ch ci : Nat) (h : List Rg) (l : List Ic) (w : World) (hg : GlIn w w.heap.size g Ab Ad) (hh : SlAt w w.heap.size 2 Ah h.length (fR h)) (hi : SlAt w w.heap.size 3 Ai l.length (fC l)) (heq : iced g h l = 0) :
    Calls Try.prog 36 #[.agg #[.int .i64 g.base, .slice Ab g.bands.length cb, .slice Ad g.depths.length cd, .int .i64 g.blo, .int .i64 g.bhi], .slice Ah h.length ch, .slice Ai l.length ci] w fun e w' => BlameIs (agreeB g h l off0) (listsL g h l 1) e ∧ Below w.heap.size w w' := by
  have hb1 := ex_alloc (Below.refl w.heap.size w) (.cells #[.int .i64 g.base, .slice Ab g.bands.length cb, .slice Ad g.depths.length cd, .int .i64 g.blo, .int .i64 g.bhi] 39)
  have HE := Lib.hid heq
  have h8 := iced_len heq
  clear heq
  have HM := Lib.hid (fun L (hL : L ∈ listsL g h l 1) => listsL_mem hL)
  go_enter Try.func36, Try.ntmps36
  go_wp2_with fail
  refine (iced_ok g _ _ _ _ _ _ _ _ h l _ ((hg.below hb1).up hb1.size) ((hh.below hb1).up hb1.size) ((hi.below hb1).up hb1.size) HE.out).mono ?_
  rintro e w2 ⟨rfl, hb2⟩
  have hB2 := ex_trans hb1 hb2
  have hb3 := ex_alloc (ex_trans hb1 hb2) (.cells #[.int .i64 g.base, .slice Ab g.bands.length cb, .slice Ad g.depths.length cd, .int .i64 g.blo, .int .i64 g.bhi, .slice Ah h.length ch, .slice Ai l.length ci] 103)
  have hq3 : Blk (w2.alloc (.cells #[.int .i64 g.base, .slice Ab g.bands.length cb, .slice Ad g.depths.length cd, .int .i64 g.blo, .int .i64 g.bhi, .slice Ah h.length ch, .slice Ai l.length ci] 103)) w2.heap.size 103 #[.int .i64 g.base, .slice Ab g.bands.length cb, .slice Ad g.depths.length cd, .int .i64 g.blo, .int .i64 g.bhi, .slice Ah h.length ch, .slice Ai l.length ci] := Blk.new _ _ _
  go_wp2_with fail
  refine (lists_any g _ _ _ _ _ _ _ _ h l _ ((hg.below hb3).up hb3.size) ((hh.below hb3).up hb3.size) ((hi.below hb3).up hb3.size) 1 (ok_of_iced HE.out) h8 (iced_bd HE.out)).mono ?_
  rintro e w4 ⟨v, vals, rfl, hov, hrows, hb4⟩
  have hB4 := ex_trans hb3 hb4
  have hq := hq3.below hb4 hq3.lt
  have hc0 := hq.cell 0
  have hc1 := hq.cell 1
  have hc2 := hq.cell 2
  have hc3 := hq.cell 3
  have hc4 := hq.cell 4
  have hc5 := hq.cell 5
  have hc6 := hq.cell 6
  have hltq := hq.lt
  simp at hc0 hc1 hc2 hc3 hc4 hc5 hc6
  obtain ⟨r, hr⟩ : ∃ r, agreeB g h l off0 = r := ⟨_, rfl⟩
  have HR := Lib.hid hr
  clear hr
  obtain ⟨Av, cv, hv⟩ : ∃ A c, v = .slice A vals.length c := by
    rcases hov.2 with ⟨rfl, h0⟩ | ⟨g', cap, cur, rfl, _⟩
    · exact ⟨none, 0, by rw [h0]⟩
    · exact ⟨_, _, rfl⟩
  have hll := hrows.len
  cases r
  · by_cases h1 : vals.length = 1
    · obtain ⟨v0, rfl⟩ : ∃ v0, vals = [v0] := List.length_eq_one_iff.1 h1
      obtain ⟨gb, cap, hvv, hgb, hgb2, hcap, hcells⟩ := own_cells hov (by simp)
      have hcv : w4.cell? ⟨gb, 0, none⟩ = some v0 := by have := hcells 0 (by simp); simpa using this
      rw [hv] at hvv
      obtain ⟨r0, hL⟩ : ∃ r0, listsL g h l 1 = [r0] := List.length_eq_one_iff.1 (by rw [← hll]; rfl)
      rw [hL] at hrows
      obtain ⟨x, rfl⟩ : ∃ x, r0 = [x] := List.length_eq_one_iff.1 (HM.out r0 (by rw [hL]; simp))
      obtain ⟨g0, c0, hv0, _, hg0, _, hcell0⟩ := own_cells hrows.1 (by simp)
      subst hv0
      have hcx : w4.cell? ⟨g0, 0, none⟩ = some (.int .i64 x) := by have := hcell0 0 (by simp); simpa using this
      have HL := Lib.hid hL
      subst hv
      rw [hvv]
      simp only [List.length_singleton, List.length_cons, List.length_nil, Nat.zero_add] at hcv ⊢
      clear hL hcells hcell0 hvv hll h1 HM hov hrows
      go_wp2_with fail
      refine (agree_any g _ _ _ _ _ _ _ _ h l off0 _ ((hg.below hB4).up hB4.size) ((hh.below hB4).up hB4.size) ((hi.below hB4).up hB4.size) (ok_of_iced HE.out) h8 (iced_bd HE.out)).mono ?_
      rintro e w5 ⟨rfl, hb5⟩
      rw [HR.out]
      obtain ⟨hcc, hff⟩ := bcell hb5
      go_wp2
      go_ret2
      exact ⟨.inr ⟨HR.out, x, HL.out, rfl⟩, ex_trans hB4 hb5⟩
    · have hne : ((vals.length : Int) != 1) = true := by rw [bne_iff_ne]; omega
      have hne' : (vals.length != 1) = true := by rw [bne_iff_ne]; omega
      have hne2 : ((vals.length : Int) == 1) = false := by rw [beq_eq_false_iff_ne]; omega
      have hne3 : (vals.length == 1) = false := by rw [beq_eq_false_iff_ne]; omega
      have HV : Hid ((listsL g h l 1).length ≠ 1) := Lib.hid (by omega)
      subst hv
      clear hll h1 HM hov hrows
      go_wp2_with fail
      refine (agree_any g _ _ _ _ _ _ _ _ h l off0 _ ((hg.below hB4).up hB4.size) ((hh.below hB4).up hB4.size) ((hi.below hB4).up hB4.size) (ok_of_iced HE.out) h8 (iced_bd HE.out)).mono ?_
      rintro e w5 ⟨rfl, hb5⟩
      rw [HR.out]
      go_wp2
      go_ret2
      exact ⟨.inl ⟨.inr HV.out, rfl⟩, ex_trans hB4 hb5⟩
  · subst hv
    clear hll HM hov hrows
    go_wp2_with fail
    refine (agree_any g _ _ _ _ _ _ _ _ h l off0 _ ((hg.below hB4).up hB4.size) ((hh.below hB4).up hB4.size) ((hi.below hB4).up hB4.size) (ok_of_iced HE.out) h8 (iced_bd HE.out)).mono ?_
    rintro e w5 ⟨rfl, hb5⟩
    rw [HR.out]
    go_wp2
    go_ret2
    exact ⟨.inl ⟨.inl HR.out, rfl⟩, ex_trans hB4 hb5⟩

end Go.Proofs.Ytlgmeofpkfliaaa
end
