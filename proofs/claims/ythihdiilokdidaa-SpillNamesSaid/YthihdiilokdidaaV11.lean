/- Spill: lists of weighings that are left out (walk; turned from Glass' texts by gen_GW.py). · Spill: Fewest, Blame (walks). · Spill's laws: what the chapter's examples show (plain). · Spill's laws: awake (walk). · Spill's laws: list, rows, Book, Truth (walks). · Spill's laws: Works (walk). · Spill's reference: In, span, Fault (walks). · Spill's laws: short, Thin, same (walks). · Spill's laws: readings of arguments: works, truths, books, teams, lists. · Spill's laws: word, picked (walks). · Spill's reference: Comes, Play (walks). -/
import Derived.Outline
import Derived.Test.YthihdiilokdidaaV8
import Derived.Test.YthihdiilokdidaaV3
import Derived.Test.YthihdiilokdidaaV2
import Derived.Test.YthihdiilokdidaaV9
import Derived.Test.YthihdiilokdidaaV10
import Derived.Test.YthihdiilokdidaaV0
set_option linter.unusedVariables false
set_option linter.unusedSimpArgs false
set_option linter.unusedSectionVars false
section
namespace Go.Proofs.Ythihdiilokdidaa
open Go.RowKit
attribute [local go_sem] Ex.cell? Ex.frozen? Gx.cell?
def setO (o : Nat → Bool) (n : Nat) : Nat → Bool := fun k => if k = n then true else o k
theorem offC_set (o : Nat → Bool) {n : Nat} (hn : n < 8) : (offC o).setIfInBounds n (.bool true) = offC (setO o n) := by
  match n, hn with
  | 0, _ => rfl
  | 1, _ => rfl
  | 2, _ => rfl
  | 3, _ => rfl
  | 4, _ => rfl
  | 5, _ => rfl
  | 6, _ => rfl
  | 7, _ => rfl

def loopL (A : (Nat → Bool) → Bool) (many : Nat) : Nat → List Int → (Nat → Bool) → Nat → List (List Int)
  | 0, _, _, _ => []
  | f + 1, lv, o, n => (if (lv ++ [(n : Int)]).length = many then (if A (setO o n) then [lv ++ [(n : Int)]] else []) else loopL A many f (lv ++ [(n : Int)]) (setO o n) (n + 1)) ++ loopL A many f lv o (n + 1)
def pickL (A : (Nat → Bool) → Bool) (many f : Nat) (lv : List Int) (o : Nat → Bool) (n : Nat) : List (List Int) :=
  if lv.length = many then (if A o then [lv] else []) else loopL A many f lv o n
theorem loopL_succ {A : (Nat → Bool) → Bool} {many f : Nat} {lv : List Int} {o : Nat → Bool} {n : Nat} :
    loopL A many (f + 1) lv o n = pickL A many f (lv ++ [(n : Int)]) (setO o n) (n + 1) ++ loopL A many f lv o (n + 1) := rfl
def wt : Nat → Nat
  | 0 => 1
  | n + 1 => wt n + wt n
theorem wt_pos : ∀ n, 1 ≤ wt n
  | 0 => Nat.le_refl _
  | n + 1 => by have := wt_pos n; rw [wt]; omega
theorem loopL_len {A : (Nat → Bool) → Bool} {many : Nat} : ∀ {f : Nat} {lv : List Int} {o : Nat → Bool} {n : Nat}, (loopL A many f lv o n).length + 1 ≤ wt f
  | 0, _, _, _ => by simp [loopL, wt]
  | f + 1, lv, o, n => by
    rw [loopL, wt, List.length_append]
    have h1 := loopL_len (A := A) (many := many) (f := f) (lv := lv) (o := o) (n := n + 1)
    have h2 := loopL_len (A := A) (many := many) (f := f) (lv := lv ++ [(n : Int)]) (o := setO o n) (n := n + 1)
    have h3 := wt_pos f
    have h4 : (if (lv ++ [(n : Int)]).length = many then (if A (setO o n) then [lv ++ [(n : Int)]] else []) else loopL A many f (lv ++ [(n : Int)]) (setO o n) (n + 1)).length ≤ wt f := by
      split
      · split <;> simp <;> omega
      · omega
    omega
theorem pickL_len {A : (Nat → Bool) → Bool} {many f : Nat} {lv : List Int} {o : Nat → Bool} {n : Nat} : (pickL A many f lv o n).length ≤ wt f := by
  have h1 := loopL_len (A := A) (many := many) (f := f) (lv := lv) (o := o) (n := n)
  have h3 := wt_pos f
  unfold pickL
  split
  · split <;> simp <;> omega
  · omega

theorem clone_own {w : World} {base : Nat} {v : Value} {l : List Int} (hl : l.length ≤ 1000000) (h : w.ownsRow base 3 1 v l.length (l.map (Value.int .i64))) :
    Calls Try.prog 71 #[v] w fun e w' => ∃ v', e = .returned v' ∧ w'.ownsRow w.heap.size 3 1 v' l.length (l.map (Value.int .i64)) ∧ Below w.heap.size w w' := by
  obtain ⟨A, c, rfl, hlc, hsl⟩ := own_sl h
  rcases h.2 with ⟨hv, h0⟩ | ⟨g, cap, cur, hv, hb, hh, rest⟩
  · injection hv with hv1 hv2 hv3
    subst hv1 hv3
    refine (slices_Clone_int_nil l.length 0 w).mono ?_
    rintro e w' ⟨rfl, rfl⟩
    exact ⟨_, rfl, ⟨by simp, .inl ⟨rfl, h0⟩⟩, Below.refl _ _⟩
  · injection hv with hv1 hv2 hv3
    subst hv1
    refine (slices_Clone_int g 0 l.length c l w (Nat.le_refl _) (by omega) (fun j hj => ?_)).mono ?_
    · obtain ⟨b, off, e, _, hc⟩ := hsl (by omega)
      injection e with e; injection e with e1 e2; subst e1 e2
      simpa [fI, gI] using hc j 0 hj (by omega)
    · rintro e w' ⟨v', rfl, ho, _, hb⟩
      rw [List.take_length] at ho
      exact ⟨v', rfl, ho, hb⟩


noncomputable def agrO (s : Ws) (o : Nat → Bool) : Bool := truB (Good s.wo o)

structure PS (w0 : World) (rc : Array Value) (many pm pr po pp base : Nat) (vout vl : Value) (lv : List Int) (vals : List Value) (outL : List (List Int)) (w : World) : Prop where
  bw : Below w0.heap.size w0 w
  qm : Blk w pm 3 #[.int .i64 (many : Int)]
  qr : Blk w pr 42 rc
  qo : Blk w po 29 #[vout]
  qp : Blk w pp 179 #[.func (.func 106) #[] #[.pointer (some ⟨pm, 0, none⟩), .pointer (some ⟨pr, 0, none⟩), .pointer (some ⟨po, 0, none⟩), .pointer (some ⟨pp, 0, none⟩)]]
  oo : w.ownsRow base 28 1 vout vals.length vals
  ol : w.ownsRow base 3 1 vl lv.length (lv.map (Value.int .i64))
  rows : RowsAre w base vals outL
  ap : ∀ v ∈ vals, ∀ b, v.ownBlock = some b → vl.ownBlock ≠ some b
def PR (po : Nat) (vl vout : Value) (b : Nat) : Prop := b = po ∨ vl.ownBlock = some b ∨ vout.ownBlock = some b
def PO (w0 : World) (rc : Array Value) (many pm pr po pp base : Nat) (vl : Value) (lv : List Int) (w : World) (vout : Value) (vals : List Value) (outL res : List (List Int)) (w' : World) : Prop :=
  ∃ vout' news, PS w0 rc many pm pr po pp base vout' vl lv (vals ++ news) (outL ++ res) w' ∧ Fr (PR po vl vout) w w' ∧ (∀ v ∈ news, ∀ b, v.ownBlock = some b → w.heap.size ≤ b) ∧ (∀ b, vout'.ownBlock = some b → vout.ownBlock = some b ∨ w.heap.size ≤ b)

theorem PS.fr (w0 : World) (rc : Array Value) (many pm pr po pp base : Nat) {vout vl : Value} {lv : List Int} {vals : List Value} {outL : List (List Int)} {w w' : World} (hB : w0.heap.size ≤ base) (h : PS w0 rc many pm pr po pp base vout vl lv vals outL w) (hb : Below w.heap.size w w') : PS w0 rc many pm pr po pp base vout vl lv vals outL w' := by
  have hf : Fr (fun _ => False) w w' := Fr.below hb
  exact ⟨h.bw.trans (hb.mono h.bw.size), h.qm.fr hf id, h.qr.fr hf id, h.qo.fr hf id, h.qp.fr hf id, own_fr h.oo hf (fun _ _ => id), own_fr h.ol hf (fun _ _ => id), h.rows.fr hf (fun _ _ _ _ => id), h.ap⟩

def oneL (r : Bool) (lv : List Int) : List (List Int) := if r then [lv] else []

set_option maxRecDepth 100000 in
set_option maxHeartbeats 3200000 in
theorem pick_one (s : Ws) (Ar Am Aw : Option Addr) (cr cm cw : Nat) (w0 : World) (hs : WsIn w0 w0.heap.size s Ar Am Aw) (hw : WoOk s.wo) (HDs : Hid (s.days = (s.wo.days : Int)))
    (many pm pr po pp base : Nat) (hpo : w0.heap.size ≤ po) (hlt : pm < base ∧ pr < base ∧ po < base ∧ pp < base) (hB : w0.heap.size ≤ base) (hne : pm ≠ po ∧ pr ≠ po ∧ pp ≠ po) (hb4 : base ≤ pp + 1)
    (A : Option Addr) (c : Nat) (lv : List Int) (o : Nat → Bool) (n : Nat) (vout : Value) (vals : List Value) (outL : List (List Int)) (w : World) (hll : lv.length ≤ 8) (hvl : vals.length ≤ 100000) (hmany : lv.length = many)
    (hps : PS w0 #[.slice Ar s.rooms.length cr, .int .i64 s.days, .slice Am s.moves.length cm, .slice Aw s.wgs.length cw] many pm pr po pp base vout (.slice A lv.length c) lv vals outL w) :
    Calls Try.prog 106 #[.slice A lv.length c, .agg #[.bool (o 0), .bool (o 1), .bool (o 2), .bool (o 3), .bool (o 4), .bool (o 5), .bool (o 6), .bool (o 7)], .int .i64 (n : Int), .pointer (some ⟨pm, 0, none⟩), .pointer (some ⟨pr, 0, none⟩), .pointer (some ⟨po, 0, none⟩), .pointer (some ⟨pp, 0, none⟩)] w fun e w' =>
      (∃ v, e = .returned v) ∧ PO w0 #[.slice Ar s.rooms.length cr, .int .i64 s.days, .slice Am s.moves.length cm, .slice Aw s.wgs.length cw] many pm pr po pp base (.slice A lv.length c) lv w vout vals outL (oneL (agrO s o) lv) w' := by
  obtain ⟨i0, hi0, hz0, hz1, hz2⟩ := info_parts ints_info
  have HI := Lib.hid hi0
  clear hi0
  have HPS := Lib.hid hps
  have hb1 := ex_alloc (Below.refl w.heap.size w) (.cells #[.bool (o 0), .bool (o 1), .bool (o 2), .bool (o 3), .bool (o 4), .bool (o 5), .bool (o 6), .bool (o 7)] 156)
  have hps1 := hps.fr _ _ _ _ _ _ _ _ hB hb1
  have q8 : Blk (w.alloc (.cells #[.bool (o 0), .bool (o 1), .bool (o 2), .bool (o 3), .bool (o 4), .bool (o 5), .bool (o 6), .bool (o 7)] 156)) w.heap.size 156 #[.bool (o 0), .bool (o 1), .bool (o 2), .bool (o 3), .bool (o 4), .bool (o 5), .bool (o 6), .bool (o 7)] := Blk.new _ _ _
  have hm1 : w.cell? ⟨pm, 0, none⟩ = some (.int .i64 (many : Int)) := hps.qm.cell 0
  have lm := hps.qm.lt
  have lr := hps.qr.lt
  have lo := hps.qo.lt
  have a0 := hps.qr.cell 0
  have a1 := hps.qr.cell 1
  have a2 := hps.qr.cell 2
  have a3 := hps.qr.cell 3
  have ao : w.cell? ⟨po, 0, none⟩ = some vout := hps.qo.cell 0
  have fo := hps.qo.frozen 0
  simp at a0 a1 a2 a3
  have hmb : ((lv.length : Int) == (many : Int)) = true := by simp [hmany]
  have hmb' : (lv.length == many) = true := by simp [hmany]
  have hbw := hps1.bw
  have HPS1 := Lib.hid hps1
  clear hmany hps hps1
  go_enter Try.func106, Try.ntmps106
  go_wp2_with fail
  have h8 : s.wgs.length ≤ 8 := hw.len.2.2.2
  refine (yard_any s Ar Am Aw cr cm cw _ ((hs.below hbw).up hbw.size) hw HDs.out o).mono ?_
  rintro e w1 ⟨⟨mm, rfl, hmm, FF, hmp, hFF⟩, hy1⟩
  have hby := ex_trans hbw hy1
  go_wp2_with fail
  refine (can_any s Ar Am Aw cr cm cw w1 ((hs.below hby).up hby.size) mm FF (stW s.wgs o s.wgs.length) hw HDs.out hmp hFF (stW_ok hw o _ (Nat.le_refl _))).mono ?_
  rintro e w2 ⟨rfl, hcz⟩
  have hb2 := ex_trans hy1 hcz
  rw [show truB (CanSt s.wo (stW s.wgs o s.wgs.length)) = agrO s o from truB_congr (canSt_good hw)]
  have hps2 := PS.fr _ _ _ _ _ _ _ _ hB HPS1.out hb2
  have hB2 := ex_trans hb1 hb2
  obtain ⟨r, hr⟩ : ∃ r, agrO s o = r := ⟨_, rfl⟩
  rw [hr]
  have HR := Lib.hid hr
  clear hr
  cases r
  · have HPS2 := Lib.hid hps2
    clear hps2
    go_wp2
    refine bodyPost_ret (results_none rfl _ _ _) rfl ?_
    refine ⟨⟨_, rfl⟩, vout, [], ?_, Fr.below hB2, by simp, fun b hb => .inl hb⟩
    rw [List.append_nil, HR.out, oneL, if_neg (by simp), List.append_nil]
    exact HPS2.out
  · have lo2 := hps2.qo.lt
    have ao2 : w2.cell? ⟨po, 0, none⟩ = some vout := hps2.qo.cell 0
    have fo2 := hps2.qo.frozen 0
    have hno : ¬ some po = vout.ownBlock := fun e => own_blkne hps2.oo hps2.qo (by decide) e.symm
    have ho2 := hps2.ol
    have HPS2 := Lib.hid hps2
    clear hps2
    go_wp2_with fail
    refine wp_region_gx_held vout.ownBlock 5 [0, 1] [2, 3, 4] (by kernel_rfl) (by kernel_rfl) (by intro d _ _ _ _ h; cases d <;> exact h) ?_
    simp only [List.filterMap_cons, List.filterMap_nil, List.getElem?_cons_zero, List.getElem?_cons_succ, List.drop_succ_cons, List.drop_zero]
    show wpQuiet _ _ _ _ [_, _] _
    repeat (any_goals (go_big_quiet_step (fail)))
    refine wpQuiet_nil ?_
    simp only [wpLoud]
    go_wp2_with fail
    refine (clone_own (w := w2.drew) (by omega) ho2).mono ?_
    rintro e w3 ⟨vc, rfl, hoc, hb3⟩
    obtain ⟨Ac, cc, rfl, hcc, -⟩ := own_sl hoc
    have hb3' : Below w2.heap.size w2 w3 := (Below.refl w2.heap.size w2).drew.trans hb3
    have hps3 := PS.fr _ _ _ _ _ _ _ _ hB HPS2.out hb3'
    have ho3 := hps3.oo.alloc (.cells #[.slice Ac lv.length cc] 28)
    have lo3 := hps3.qo.lt
    have hbs : base ≤ w3.heap.size + 1 := by have := hps3.qp.lt; omega
    have ao3 := hps3.qo.alloc (.cells #[.slice Ac lv.length cc] 28)
    have fo3 := ao3.frozen 0
    have HPS3 := Lib.hid hps3
    have c63 : vals.length + 1 ≤ maxLen := by unfold maxLen; omega
    clear hps3 ho2
    go_wp2_with fail
    refine ⟨grown_row hb3', ?_⟩
    go_wp2_with fail
    refine ⟨(grown_row hb3').andThen (grown_of_below ((Below.refl _ _).alloc (Nat.le_refl _) _)) (fun j hj => by cases hj), ?_⟩
    go_wp2_with (at_builtin; refine wpList_append_lies _ rfl _ _ _ rfl base 28 i0 _ 1 24 Try.underlying29 HI.out hz0 hz1 hz2 rfl (by omega) vout _ _ rfl ho3 ⟨w3.heap.size, 0, none⟩ 1 1 [.slice Ac lv.length cc] rfl rfl (World.news_of_block (heap_alloc_new w3 _)) (by simp [Value.oneCell']) (by omega) c63 (by omega) (by simpa using hbs) (w3.heap.size + 1) (by simp) ?_; intro gg cap w4 hown' hgrow hat hlt')
    refine ⟨((grown_row hb3').andThen (grown_of_below ((Below.refl _ _).alloc (Nat.le_refl _) _)) (fun j hj => by cases hj)).andThen hgrow (fun j hj => .inr hj), ?_⟩
    have hno' : some po ≠ vout.ownBlock := hno
    have qo4 := ao3.grown hgrow hno'
    have ao4 : w4.cell? ⟨po, 0, none⟩ = some vout := qo4.cell 0
    have fo4 := qo4.frozen 0
    have lo4 := qo4.lt
    go_wp2
    refine bodyPost_ret (results_none rfl _ _ _) rfl ?_
    have P := HPS.out
    have hA1 : Fr (fun b => b = po ∨ vout.ownBlock = some b) w3 ((w4.setCell ⟨po, 0, none⟩ (.slice (some ⟨gg, 0, none⟩) (vals.length + 1) cap))) :=
      ((Fr.below ((Below.refl w3.heap.size w3).alloc (Nat.le_refl _) _)).trans (Fr.grown (R := fun b => b = po ∨ vout.ownBlock = some b) hgrow (fun b hb => .inl (.inr hb))) (fun _ _ h => h)).trans (Fr.set _ _ _ _ (.inl rfl)) (fun _ _ h => h)
    have hA2 : Fr (fun b => b = po ∨ vout.ownBlock = some b) w ((w4.setCell ⟨po, 0, none⟩ (.slice (some ⟨gg, 0, none⟩) (vals.length + 1) cap))) :=
      ((Fr.below hB2).trans (Fr.below hb3') (fun _ _ h => h)).trans hA1 (fun _ _ h => h)
    have hvo : ∀ b, vout.ownBlock = some b → base ≤ b ∧ b < w.heap.size := fun b hb => own_lt P.oo hb
    have hvl : ∀ b, (Value.slice A lv.length c).ownBlock = some b → base ≤ b ∧ b < w.heap.size := fun b hb => own_lt P.ol hb
    have hw2 := hB2.size
    have hw3 := hb3'.size
    have hsm : ∀ x, x < base → x ≠ po → ¬ (x = po ∨ vout.ownBlock = some x) := fun x h1 h2 h3 => by
      rcases h3 with h3 | h3
      · exact h2 h3
      · have := hvo x h3; omega
    refine ⟨⟨_, rfl⟩, .slice (some ⟨gg, 0, none⟩) (vals.length + 1) cap, [.slice Ac lv.length cc], ?_, ?_, ?_, ?_⟩
    · rw [HR.out, oneL, if_pos rfl]
      refine ⟨hA2.toBelow P.bw P.bw.size (fun x hx => ?_), P.qm.fr hA2 (hsm _ hlt.1 hne.1), P.qr.fr hA2 (hsm _ hlt.2.1 hne.2.1), qo4.set_ 0 _, P.qp.fr hA2 (hsm _ hlt.2.2.2 hne.2.2), ?_, ?_, ?_, ?_⟩
      · rcases hx with rfl | hx
        · exact hpo
        · have := hvo x hx; omega
      · have h1 := own_far hown' (p := ⟨po, 0, none⟩) (show po < base by omega) (.slice (some ⟨gg, 0, none⟩) (vals.length + 1) cap)
        simpa using h1
      · refine own_fr P.ol hA2 (fun b hb h3 => ?_)
        rcases h3 with h3 | h3
        · have := hvl b hb; omega
        · exact own_ownne P.ol P.oo (by decide) hb h3
      · refine RowsAre.snoc (own_fr (own_base hoc (by show base ≤ w2.heap.size; have := P.qp.lt; omega)) hA1 (fun b hb h3 => ?_)) (P.rows.fr hA2 (fun v hv b hb h3 => ?_))
        · have h4 : w2.heap.size ≤ b := (own_lt hoc hb).1
          rcases h3 with h3 | h3
          · omega
          · have := hvo b h3; omega
        · rcases h3 with h3 | h3
          · have := RowsAre.lt P.rows v hv b hb; omega
          · exact RowsAre.ne P.oo (by decide) P.rows v hv b hb h3
      · intro v hv b hb hx
        rcases List.mem_append.1 hv with hv | hv
        · exact P.ap v hv b hb hx
        · rw [List.mem_singleton.1 hv] at hb
          have h4 : w2.heap.size ≤ b := (own_lt hoc hb).1
          have := hvl b hx; omega
    · exact (Fr.refl _ w).trans hA2 (fun x _ h3 => by rcases h3 with h3 | h3; exact .inl h3; exact .inr (.inr h3))
    · intro v hv b hb
      rw [List.mem_singleton.1 hv] at hb
      have h4 : w2.heap.size ≤ b := (own_lt hoc hb).1
      omega
    · intro b hb
      have hgb : gg = b := by simpa [Value.ownBlock] using hb
      subst hgb
      rcases hat with h4 | h4
      · exact .inl h4
      · right; omega


def PL (A : (Nat → Bool) → Bool) (w0 : World) (rc : Array Value) (many pm pr po pp base : Nat) (vl : Value) (lv : List Int) (o : Nat → Bool) (m f n : Nat) (w1 : World) (q8 : Nat) (vout : Value) (vals : List Value) (outL : List (List Int)) (k : Nat) (wr : World) : Prop :=
  ∃ vout' news res, PS w0 rc many pm pr po pp base vout' vl lv (vals ++ news) (outL ++ res) wr ∧ Fr (PR po vl vout) w1 wr ∧ (∀ v ∈ news, ∀ b, v.ownBlock = some b → w1.heap.size ≤ b) ∧ (∀ b, vout'.ownBlock = some b → vout.ownBlock = some b ∨ w1.heap.size ≤ b) ∧
    Blk wr q8 156 #[.bool (o 0), .bool (o 1), .bool (o 2), .bool (o 3), .bool (o 4), .bool (o 5), .bool (o 6), .bool (o 7)] ∧ res ++ loopL A many (m - k) lv o k = loopL A many f lv o n ∧ news.length + wt (m - k) ≤ wt f

set_option maxRecDepth 100000 in
set_option maxHeartbeats 6400000 in
theorem pick_any (s : Ws) (Ar Am Aw : Option Addr) (cr cm cw : Nat) (w0 : World) (hs : WsIn w0 w0.heap.size s Ar Am Aw) (hw : WoOk s.wo) (HDs : Hid (s.days = (s.wo.days : Int)))
    (many pm pr po pp base : Nat) (hpo : w0.heap.size ≤ po) (hlt : pm < base ∧ pr < base ∧ po < base ∧ pp < base) (hB : w0.heap.size ≤ base) (hne : pm ≠ po ∧ pr ≠ po ∧ pp ≠ po) (hb4 : base ≤ pp + 1) :
    ∀ (j f : Nat), f < j → ∀ (A : Option Addr) (c : Nat) (lv : List Int) (o : Nat → Bool) (n : Nat) (vout : Value) (vals : List Value) (outL : List (List Int)) (w : World), n + f = s.wgs.length → lv.length ≤ n → vals.length + wt f ≤ 100000 →
    PS w0 #[.slice Ar s.rooms.length cr, .int .i64 s.days, .slice Am s.moves.length cm, .slice Aw s.wgs.length cw] many pm pr po pp base vout (.slice A lv.length c) lv vals outL w →
    Calls Try.prog 106 #[.slice A lv.length c, .agg #[.bool (o 0), .bool (o 1), .bool (o 2), .bool (o 3), .bool (o 4), .bool (o 5), .bool (o 6), .bool (o 7)], .int .i64 (n : Int), .pointer (some ⟨pm, 0, none⟩), .pointer (some ⟨pr, 0, none⟩), .pointer (some ⟨po, 0, none⟩), .pointer (some ⟨pp, 0, none⟩)] w fun e w' =>
      (∃ v, e = .returned v) ∧ PO w0 #[.slice Ar s.rooms.length cr, .int .i64 s.days, .slice Am s.moves.length cm, .slice Aw s.wgs.length cw] many pm pr po pp base (.slice A lv.length c) lv w vout vals outL (pickL (agrO s) many f lv o n) w' := by
  intro j
  induction j with
  | zero => intro f hf; omega
  | succ j ih =>
    intro f hf A c lv o n vout vals outL w hnf hln hcap hps
    have hwt := wt_pos f
    have h8 : s.wgs.length ≤ 8 := hw.len.2.2.2
    by_cases hmany : lv.length = many
    · have := pick_one s Ar Am Aw cr cm cw w0 hs hw HDs many pm pr po pp base hpo hlt hB hne hb4 A c lv o n vout vals outL w (by omega) (by omega) hmany hps
      rw [show pickL (agrO s) many f lv o n = oneL (agrO s o) lv by unfold pickL oneL; rw [if_pos hmany]]
      exact this
    have HPK : Hid (pickL (agrO s) many f lv o n = loopL (agrO s) many f lv o n) := Lib.hid (by unfold pickL; rw [if_neg hmany])
    have HIH := Lib.hid ih
    clear ih
    have hmb : ((lv.length : Int) == (many : Int)) = false := by rw [beq_eq_false_iff_ne]; omega
    have hmb' : (lv.length == many) = false := by rw [beq_eq_false_iff_ne]; omega
    have hb1 := ex_alloc (Below.refl w.heap.size w) (.cells #[.bool (o 0), .bool (o 1), .bool (o 2), .bool (o 3), .bool (o 4), .bool (o 5), .bool (o 6), .bool (o 7)] 156)
    have hps1 := hps.fr _ _ _ _ _ _ _ _ hB hb1
    have q8 : Blk (w.alloc (.cells #[.bool (o 0), .bool (o 1), .bool (o 2), .bool (o 3), .bool (o 4), .bool (o 5), .bool (o 6), .bool (o 7)] 156)) w.heap.size 156 #[.bool (o 0), .bool (o 1), .bool (o 2), .bool (o 3), .bool (o 4), .bool (o 5), .bool (o 6), .bool (o 7)] := Blk.new _ _ _
    have hm1 : w.cell? ⟨pm, 0, none⟩ = some (.int .i64 (many : Int)) := hps.qm.cell 0
    have lm := hps.qm.lt
    have hP0 : PL (agrO s) w0 #[.slice Ar s.rooms.length cr, .int .i64 s.days, .slice Am s.moves.length cm, .slice Aw s.wgs.length cw] many pm pr po pp base (.slice A lv.length c) lv o s.wgs.length f n w w.heap.size vout vals outL n (w.alloc (.cells #[.bool (o 0), .bool (o 1), .bool (o 2), .bool (o 3), .bool (o 4), .bool (o 5), .bool (o 6), .bool (o 7)] 156)) :=
      ⟨vout, [], [], by rw [List.append_nil, List.append_nil]; exact hps1, Fr.below hb1, by simp, fun b hb => .inl hb, q8, by rw [show s.wgs.length - n = f by omega]; rfl, by rw [show s.wgs.length - n = f by omega]; simp⟩
    have HPS := Lib.hid hps
    have HNF := Lib.hid hnf
    have hnl : n ≤ s.wgs.length := by omega
    clear hnf hmany hps hps1
    go_enter Try.func106, Try.ntmps106
    go_wp2_with fail
    go_loopw [11, 12] (fun i _ wr => ∃ k : Nat, n ≤ k ∧ k ≤ s.wgs.length ∧ i = .int .i64 k ∧ PL (agrO s) w0 #[.slice Ar s.rooms.length cr, .int .i64 s.days, .slice Am s.moves.length cm, .slice Aw s.wgs.length cw] many pm pr po pp base (.slice A lv.length c) lv o s.wgs.length f n w w.heap.size vout vals outL k wr)
      (fun i _ _ => s.wgs.length - (intOf i).toNat)
    case atStart => exact ⟨n, by omega, by omega, rfl, hP0⟩
    case round =>
      clear hP0 q8 hm1 hb1
      obtain ⟨k, hnk, hk, rfl, vout', news, res, hps, hfr, hfresh, hvo', q8, hres, hwt2⟩ := hrel
      have lr := hps.qr.lt
      have l8 := q8.lt
      have lp := hps.qp.lt
      have lo := hps.qo.lt
      have a3 : wr.cell? ⟨pr, 3, none⟩ = some (.slice Aw s.wgs.length cw) := hps.qr.cell 3
      have ap : wr.cell? ⟨pp, 0, none⟩ = some (.func (.func 106) #[] #[.pointer (some ⟨pm, 0, none⟩), .pointer (some ⟨pr, 0, none⟩), .pointer (some ⟨po, 0, none⟩), .pointer (some ⟨pp, 0, none⟩)]) := hps.qp.cell 0
      have c0 : wr.cell? ⟨w.heap.size, 0, none⟩ = some (.bool (o 0)) := q8.cell 0
      have c1 : wr.cell? ⟨w.heap.size, 1, none⟩ = some (.bool (o 1)) := q8.cell 1
      have c2 : wr.cell? ⟨w.heap.size, 2, none⟩ = some (.bool (o 2)) := q8.cell 2
      have c3 : wr.cell? ⟨w.heap.size, 3, none⟩ = some (.bool (o 3)) := q8.cell 3
      have c4 : wr.cell? ⟨w.heap.size, 4, none⟩ = some (.bool (o 4)) := q8.cell 4
      have c5 : wr.cell? ⟨w.heap.size, 5, none⟩ = some (.bool (o 5)) := q8.cell 5
      have c6 : wr.cell? ⟨w.heap.size, 6, none⟩ = some (.bool (o 6)) := q8.cell 6
      have c7 : wr.cell? ⟨w.heap.size, 7, none⟩ = some (.bool (o 7)) := q8.cell 7
      have HPSR := Lib.hid hps
      have HRES := Lib.hid hres
      have HVO := Lib.hid hvo'
      have HFRESH := Lib.hid hfresh
      clear hps hres hvo' hfresh
      by_cases hkl : k < s.wgs.length
      · have hk8 : k < 8 := by omega
        obtain ⟨o', ho'⟩ : ∃ o', setO o k = o' := ⟨_, rfl⟩
        have hset : (([Value.bool (o 0), Value.bool (o 1), Value.bool (o 2), Value.bool (o 3), Value.bool (o 4), Value.bool (o 5), Value.bool (o 6), Value.bool (o 7)] : List Value).set k (Value.bool true)).toArray = #[.bool (o' 0), .bool (o' 1), .bool (o' 2), .bool (o' 3), .bool (o' 4), .bool (o' 5), .bool (o' 6), .bool (o' 7)] := by
          rw [← ho']
          exact (by simpa [offC] using offC_set o hk8)
        have HO := Lib.hid ho'
        have HSET := Lib.hid hset
        clear ho' hset
        have hbW := ex_alloc (Below.refl wr.heap.size wr) (.cells #[.bool (o' 0), .bool (o' 1), .bool (o' 2), .bool (o' 3), .bool (o' 4), .bool (o' 5), .bool (o' 6), .bool (o' 7)] 156)
        have hpsW := HPSR.out.fr _ _ _ _ _ _ _ _ hB hbW
        have y8 : Blk (wr.alloc (.cells #[.bool (o' 0), .bool (o' 1), .bool (o' 2), .bool (o' 3), .bool (o' 4), .bool (o' 5), .bool (o' 6), .bool (o' 7)] 156)) wr.heap.size 156 #[.bool (o' 0), .bool (o' 1), .bool (o' 2), .bool (o' 3), .bool (o' 4), .bool (o' 5), .bool (o' 6), .bool (o' 7)] := Blk.new _ _ _
        obtain ⟨row, hrow⟩ : ∃ row, (Value.slice A lv.length c).ownBlock = row := ⟨_, rfl⟩
        have hvl : ∀ b, (Value.slice A lv.length c).ownBlock = some b → base ≤ b ∧ b < w.heap.size := fun b hb => own_lt HPS.out.ol hb
        have hfs := hfr.size
        have hn1 : ¬ some pp = row := fun e => by have := hvl pp (hrow.trans e.symm); omega
        have hn2 : ¬ some wr.heap.size = row := fun e => by have := hvl _ (hrow.trans e.symm); omega
        have HROW := Lib.hid hrow
        clear hrow
        go_wp2_with fail
        rw [HSET.out]
        have hWs : (wr.alloc (.cells #[.bool (o' 0), .bool (o' 1), .bool (o' 2), .bool (o' 3), .bool (o' 4), .bool (o' 5), .bool (o' 6), .bool (o' 7)] 156)).heap.size = wr.heap.size + 1 := by simp
        have apW : (wr.alloc (.cells #[.bool (o' 0), .bool (o' 1), .bool (o' 2), .bool (o' 3), .bool (o' 4), .bool (o' 5), .bool (o' 6), .bool (o' 7)] 156)).cell? ⟨pp, 0, none⟩ = some (.func (.func 106) #[] #[.pointer (some ⟨pm, 0, none⟩), .pointer (some ⟨pr, 0, none⟩), .pointer (some ⟨po, 0, none⟩), .pointer (some ⟨pp, 0, none⟩)]) := hpsW.qp.cell 0
        have lpW := hpsW.qp.lt
        have ly := y8.lt
        have d0 : (wr.alloc (.cells #[.bool (o' 0), .bool (o' 1), .bool (o' 2), .bool (o' 3), .bool (o' 4), .bool (o' 5), .bool (o' 6), .bool (o' 7)] 156)).cell? ⟨wr.heap.size, 0, none⟩ = some (.bool (o' 0)) := y8.cell 0
        have d1 : (wr.alloc (.cells #[.bool (o' 0), .bool (o' 1), .bool (o' 2), .bool (o' 3), .bool (o' 4), .bool (o' 5), .bool (o' 6), .bool (o' 7)] 156)).cell? ⟨wr.heap.size, 1, none⟩ = some (.bool (o' 1)) := y8.cell 1
        have d2 : (wr.alloc (.cells #[.bool (o' 0), .bool (o' 1), .bool (o' 2), .bool (o' 3), .bool (o' 4), .bool (o' 5), .bool (o' 6), .bool (o' 7)] 156)).cell? ⟨wr.heap.size, 2, none⟩ = some (.bool (o' 2)) := y8.cell 2
        have d3 : (wr.alloc (.cells #[.bool (o' 0), .bool (o' 1), .bool (o' 2), .bool (o' 3), .bool (o' 4), .bool (o' 5), .bool (o' 6), .bool (o' 7)] 156)).cell? ⟨wr.heap.size, 3, none⟩ = some (.bool (o' 3)) := y8.cell 3
        have d4 : (wr.alloc (.cells #[.bool (o' 0), .bool (o' 1), .bool (o' 2), .bool (o' 3), .bool (o' 4), .bool (o' 5), .bool (o' 6), .bool (o' 7)] 156)).cell? ⟨wr.heap.size, 4, none⟩ = some (.bool (o' 4)) := y8.cell 4
        have d5 : (wr.alloc (.cells #[.bool (o' 0), .bool (o' 1), .bool (o' 2), .bool (o' 3), .bool (o' 4), .bool (o' 5), .bool (o' 6), .bool (o' 7)] 156)).cell? ⟨wr.heap.size, 5, none⟩ = some (.bool (o' 5)) := y8.cell 5
        have d6 : (wr.alloc (.cells #[.bool (o' 0), .bool (o' 1), .bool (o' 2), .bool (o' 3), .bool (o' 4), .bool (o' 5), .bool (o' 6), .bool (o' 7)] 156)).cell? ⟨wr.heap.size, 6, none⟩ = some (.bool (o' 6)) := y8.cell 6
        have d7 : (wr.alloc (.cells #[.bool (o' 0), .bool (o' 1), .bool (o' 2), .bool (o' 3), .bool (o' 4), .bool (o' 5), .bool (o' 6), .bool (o' 7)] 156)).cell? ⟨wr.heap.size, 7, none⟩ = some (.bool (o' 7)) := y8.cell 7
        clear c0 c1 c2 c3 c4 c5 c6 c7 a3 ap
        have HPSW := Lib.hid hpsW
        have HY8 := Lib.hid y8
        have HBW := Lib.hid hbW
        clear hpsW y8 hbW HSET
        generalize hW : wr.alloc (.cells #[.bool (o' 0), .bool (o' 1), .bool (o' 2), .bool (o' 3), .bool (o' 4), .bool (o' 5), .bool (o' 6), .bool (o' 7)] 156) = W at *
        have HWS := Lib.hid hWs
        clear hW
        have hWs' : wr.heap.size + 1 ≤ W.heap.size := by omega
        clear hWs
        refine wp_region_gx_held row 8 [0, 1, 2, 5, 6, 7] [3, 4] (by kernel_rfl) (by kernel_rfl) (by intro d _ _ _ _ h; cases d <;> exact h) ?_
        simp only [List.filterMap_cons, List.filterMap_nil, List.getElem?_cons_zero, List.getElem?_cons_succ, List.drop_succ_cons, List.drop_zero]
        show wpQuiet _ _ _ _ [_, _, _, _, _, _] _
        repeat (any_goals (go_big_quiet_step (fail)))
        refine wpQuiet_nil ?_
        simp only [wpLoud]
        go_wp2_with fail
        have hgA : W.grownBy (W.alloc (.cells #[.int .i64 (k : Int)] 3)).drew row := grown_row (((Below.refl W.heap.size W).alloc (Nat.le_refl _) _).drew)
        refine ⟨hgA, ?_⟩
        have holA : (W.alloc (.cells #[.int .i64 (k : Int)] 3)).drew.ownsRow base 3 1 (.slice A lv.length c) lv.length (lv.map (Value.int .i64)) := HPSW.out.ol.alloc _
        have hcA : (W.alloc (.cells #[.int .i64 (k : Int)] 3)).drew.cell? ⟨W.heap.size, 0, none⟩ = some (.int .i64 (k : Int)) := (Blk.new W _ _).cell 0
        have hbA : base ≤ (W.alloc (.cells #[.int .i64 (k : Int)] 3)).drew.heap.size := by simp; omega
        have hsA : (W.alloc (.cells #[.int .i64 (k : Int)] 3)).drew.heap.size = W.heap.size + 1 := by simp
        have HSA := Lib.hid hsA
        clear hsA
        generalize (W.alloc (.cells #[.int .i64 (k : Int)] 3)).drew = W3 at *
        go_wp2_with (at_builtin; refine wpList_append_two _ rfl _ _ rfl base A lv.length c _ rfl holA ⟨W.heap.size, 0, none⟩ 1 (.int .i64 (k : Int)) rfl hcA rfl (by omega) hbA ?_; intro gg c' w4 hown4 hgrow hat hback; have HBACK := Lib.hid hback; have HAT := Lib.hid hat; clear hat hback hcA)
        rw [HROW.out] at hgrow
        refine ⟨hgA.andThen hgrow (fun j hj => .inr hj), ?_⟩
        have P := HPSR.out
        have PW := HPSW.out
        have hA : Fr (fun b => (Value.slice A lv.length c).ownBlock = some b) W w4 := Fr.grown (hgA.andThen hgrow (fun j hj => .inr hj)) (fun b hb => .inl (by rw [HROW.out]; exact hb))
        have hsm : ∀ x, x < base → ¬ ((Value.slice A lv.length c).ownBlock = some x) := fun x h1 h2 => by have := hvl x h2; omega
        have h2W : w.heap.size ≤ W.heap.size := by omega
        have hlen : (lv ++ [(k : Int)]).length = lv.length + 1 := by simp
        have hps4 : PS w0 #[.slice Ar s.rooms.length cr, .int .i64 s.days, .slice Am s.moves.length cm, .slice Aw s.wgs.length cw] many pm pr po pp base vout' (.slice (some ⟨gg, 0, none⟩) (lv ++ [(k : Int)]).length c') (lv ++ [(k : Int)]) (vals ++ news) (outL ++ res) w4 := by
          refine ⟨hA.toBelow PW.bw PW.bw.size (fun x hx => by have := hvl x hx; omega), PW.qm.fr hA (hsm _ hlt.1), PW.qr.fr hA (hsm _ hlt.2.1), PW.qo.fr hA (hsm _ hlt.2.2.1), PW.qp.fr hA (hsm _ hlt.2.2.2),
            own_fr PW.oo hA (fun b hb h3 => own_ownne PW.oo PW.ol (by decide) hb h3), by rw [hlen]; simpa using hown4, PW.rows.fr hA (fun v hv b hb h3 => PW.ap v hv b hb h3), fun v hv b hb h3 => ?_⟩
          have hgb : gg = b := by simpa [Value.ownBlock] using h3
          subst hgb
          rcases HAT.out with h4 | h4
          · exact PW.ap v hv _ hb h4
          · have h5 := (RowsAre.lt PW.rows v hv _ hb).2
            rw [HSA.out] at h4
            omega
        have hw3 : wt (s.wgs.length - k) = wt (s.wgs.length - (k + 1)) + wt (s.wgs.length - (k + 1)) := by rw [show s.wgs.length - k = (s.wgs.length - (k + 1)) + 1 by omega]; rfl
        have HH := HIH.out (s.wgs.length - (k + 1)) (by have := HNF.out; omega) (some ⟨gg, 0, none⟩) c' (lv ++ [(k : Int)]) o' (k + 1) vout' (vals ++ news) (outL ++ res) w4 (by omega) (by rw [hlen]; omega) (by rw [List.length_append]; omega) hps4
        rw [hlen] at HH hps4
        have HPS4 := Lib.hid hps4
        have HA := Lib.hid hA
        clear hps4 hA hgA hgrow hlen holA
        go_wp2_with fail
        refine HH.mono ?_
        rintro e w5 ⟨⟨v5, rfl⟩, vout5, news5, ps5, fr5, fresh5, vo5⟩
        have HW3 := Lib.hid hw3
        clear hw3 HH
        go_wp2
        go_roundw
        case measure => simp [intOf]; omega
        case rel =>
        have hA := HA.out
        have hs4 := hA.size
        have hgg : gg = gg := rfl
        have hlenr : news5.length = (pickL (agrO s) many (s.wgs.length - (k + 1)) (lv ++ [(k : Int)]) o' (k + 1)).length := by
          have h1 := ps5.rows.len
          have h2 := P.rows.len
          simp only [List.length_append] at h1 h2
          omega
        have hpl := pickL_len (A := agrO s) (many := many) (f := s.wgs.length - (k + 1)) (lv := lv ++ [(k : Int)]) (o := o') (n := k + 1)
        have hWr : Fr (PR po (Value.slice A lv.length c) vout) wr w4 := (Fr.below HBW.out).trans hA (fun x _ hx => .inr (.inl hx))
        refine ⟨k + 1, by omega, by omega, by go_num, vout5, news ++ news5, res ++ pickL (agrO s) many (s.wgs.length - (k + 1)) (lv ++ [(k : Int)]) o' (k + 1), ?_, ?_, ?_, ?_, ?_, ?_, ?_⟩
        · refine ⟨ps5.bw, ps5.qm, ps5.qr, ps5.qo, ps5.qp, by rw [← List.append_assoc]; exact ps5.oo, ?_, by rw [← List.append_assoc, ← List.append_assoc]; exact ps5.rows, fun v hv b hb h3 => ?_⟩
          · refine HBACK.out w5 (by simpa using ps5.ol) (fun b hb hne' => fr5.block b (by have := hvl b hb; omega) (fun hr => ?_))
            rcases hr with hr | hr | hr
            · have := hvl b hb; omega
            · exact hne' (by have : gg = b := by simpa [Value.ownBlock] using hr
                             exact this.symm)
            · exact own_ownne P.ol P.oo (by decide) hb hr
          · rw [← List.append_assoc] at hv
            rcases List.mem_append.1 hv with hv | hv
            · exact P.ap v hv b hb h3
            · have h4 := fresh5 v hv b hb
              have h5 := hvl b h3
              omega
        · refine (hfr.trans hWr (fun x _ hx => hx)).trans fr5 (fun x hx hr => ?_)
          rcases hr with hr | hr | hr
          · exact .inl hr
          · have hgb : gg = x := by simpa [Value.ownBlock] using hr
            subst hgb
            rcases HAT.out with h4 | h4
            · exact .inr (.inl h4)
            · rw [HSA.out] at h4; omega
          · rcases HVO.out x hr with h4 | h4
            · exact .inr (.inr h4)
            · omega
        · intro v hv b hb
          rcases List.mem_append.1 hv with hv | hv
          · exact HFRESH.out v hv b hb
          · have h4 := fresh5 v hv b hb; omega
        · intro b hb
          rcases vo5 b hb with h4 | h4
          · exact HVO.out b h4
          · right; omega
        · have hlo := HPS.out.qo.lt
          refine ((q8.fr (Fr.below (R := fun _ => False) HBW.out) id).fr hA (fun h3 => by have := hvl _ h3; omega)).fr fr5 (fun hr => ?_)
          rcases hr with hr | hr | hr
          · omega
          · have hgb : gg = w.heap.size := by simpa [Value.ownBlock] using hr
            rcases HAT.out with h4 | h4
            · have := hvl gg h4; omega
            · rw [HSA.out] at h4; omega
          · exact own_blkne P.oo q8 (by decide) hr
        · rw [List.append_assoc, ← HRES.out, show s.wgs.length - k = (s.wgs.length - (k + 1)) + 1 by omega, loopL_succ, HO.out]
        · rw [List.length_append]
          have := HW3.out
          omega
      · have HKN : Hid (k = s.wgs.length) := Lib.hid (by omega)
        go_wp2
        refine bodyPost_end (results_none rfl _ _ _) rfl ?_
        refine ⟨⟨_, rfl⟩, vout', news, ?_, hfr, HFRESH.out, HVO.out⟩
        have h1 := HRES.out
        rw [HKN.out, Nat.sub_self] at h1
        rw [HPK.out, ← h1, loopL, List.append_nil]
        exact HPSR.out

section
attribute [local go_sem] run_store_func

theorem RowsAre.base {w : World} {base base' : Nat} (hb : base' ≤ base) : ∀ {vs : List Value} {ls : List (List Int)}, RowsAre w base vs ls → RowsAre w base' vs ls
  | [], [], _ => trivial
  | _ :: _, _ :: _, h => ⟨own_base h.1 hb, RowsAre.base hb h.2⟩

noncomputable def listsL (s : Ws) (many : Nat) : List (List Int) := pickL (agrO s) many s.wgs.length [] off0 0

set_option maxRecDepth 100000 in
set_option maxHeartbeats 1600000 in
theorem listsW_any (s : Ws) (Ar Am Aw : Option Addr) (cr cm cw : Nat) (w : World) (hs : WsIn w w.heap.size s Ar Am Aw) (many : Nat) (hw : WoOk s.wo) (HDs : Hid (s.days = (s.wo.days : Int))) :
    Calls Try.prog 79 #[.agg #[.slice Ar s.rooms.length cr, .int .i64 s.days, .slice Am s.moves.length cm, .slice Aw s.wgs.length cw], .int .i64 (many : Int)] w fun e w' =>
      ∃ v vals, e = .returned v ∧ w'.ownsRow w.heap.size 28 1 v vals.length vals ∧ RowsAre w' w.heap.size vals (listsL s many) ∧ Below w.heap.size w w' := by
  have hmf : ∀ (fn : Fn) (first cap : Array Value) (w : World), (Instr.makeFunc fn first cap).run Try.prog w = .ok (.func fn first cap) w := fun _ _ _ _ => rfl
  go_enter Try.func79, Try.ntmps79
  have q0 : Blk ((((w.alloc (.cells #[.slice Ar s.rooms.length cr, .int .i64 s.days, .slice Am s.moves.length cm, .slice Aw s.wgs.length cw] 42)).alloc (.cells #[.int .i64 (many : Int)] 3)).alloc (.cells #[.slice none 0 0] 29)).alloc (.cells #[.func (.func 106) #[] #[.pointer (some ⟨w.heap.size + 1, 0, none⟩), .pointer (some ⟨w.heap.size, 0, none⟩), .pointer (some ⟨w.heap.size + 1 + 1, 0, none⟩), .pointer (some ⟨w.heap.size + 1 + 1 + 1, 0, none⟩)]] 179)) w.heap.size 42 #[.slice Ar s.rooms.length cr, .int .i64 s.days, .slice Am s.moves.length cm, .slice Aw s.wgs.length cw] := (((Blk.new _ _ _).alloc _).alloc _).alloc _
  have q1 : Blk ((((w.alloc (.cells #[.slice Ar s.rooms.length cr, .int .i64 s.days, .slice Am s.moves.length cm, .slice Aw s.wgs.length cw] 42)).alloc (.cells #[.int .i64 (many : Int)] 3)).alloc (.cells #[.slice none 0 0] 29)).alloc (.cells #[.func (.func 106) #[] #[.pointer (some ⟨w.heap.size + 1, 0, none⟩), .pointer (some ⟨w.heap.size, 0, none⟩), .pointer (some ⟨w.heap.size + 1 + 1, 0, none⟩), .pointer (some ⟨w.heap.size + 1 + 1 + 1, 0, none⟩)]] 179)) (w.heap.size + 1) 3 #[.int .i64 (many : Int)] := ((Blk.new' _ _ _ (by simp)).alloc _).alloc _
  have q2 : Blk ((((w.alloc (.cells #[.slice Ar s.rooms.length cr, .int .i64 s.days, .slice Am s.moves.length cm, .slice Aw s.wgs.length cw] 42)).alloc (.cells #[.int .i64 (many : Int)] 3)).alloc (.cells #[.slice none 0 0] 29)).alloc (.cells #[.func (.func 106) #[] #[.pointer (some ⟨w.heap.size + 1, 0, none⟩), .pointer (some ⟨w.heap.size, 0, none⟩), .pointer (some ⟨w.heap.size + 1 + 1, 0, none⟩), .pointer (some ⟨w.heap.size + 1 + 1 + 1, 0, none⟩)]] 179)) (w.heap.size + 1 + 1) 29 #[.slice none 0 0] := (Blk.new' _ _ _ (by simp)).alloc _
  have q3 : Blk ((((w.alloc (.cells #[.slice Ar s.rooms.length cr, .int .i64 s.days, .slice Am s.moves.length cm, .slice Aw s.wgs.length cw] 42)).alloc (.cells #[.int .i64 (many : Int)] 3)).alloc (.cells #[.slice none 0 0] 29)).alloc (.cells #[.func (.func 106) #[] #[.pointer (some ⟨w.heap.size + 1, 0, none⟩), .pointer (some ⟨w.heap.size, 0, none⟩), .pointer (some ⟨w.heap.size + 1 + 1, 0, none⟩), .pointer (some ⟨w.heap.size + 1 + 1 + 1, 0, none⟩)]] 179)) (w.heap.size + 1 + 1 + 1) 179 #[.func (.func 106) #[] #[.pointer (some ⟨w.heap.size + 1, 0, none⟩), .pointer (some ⟨w.heap.size, 0, none⟩), .pointer (some ⟨w.heap.size + 1 + 1, 0, none⟩), .pointer (some ⟨w.heap.size + 1 + 1 + 1, 0, none⟩)]] := Blk.new' _ _ _ (by simp)
  have hb : Below w.heap.size w ((((w.alloc (.cells #[.slice Ar s.rooms.length cr, .int .i64 s.days, .slice Am s.moves.length cm, .slice Aw s.wgs.length cw] 42)).alloc (.cells #[.int .i64 (many : Int)] 3)).alloc (.cells #[.slice none 0 0] 29)).alloc (.cells #[.func (.func 106) #[] #[.pointer (some ⟨w.heap.size + 1, 0, none⟩), .pointer (some ⟨w.heap.size, 0, none⟩), .pointer (some ⟨w.heap.size + 1 + 1, 0, none⟩), .pointer (some ⟨w.heap.size + 1 + 1 + 1, 0, none⟩)]] 179)) := ex_alloc (ex_alloc (ex_alloc (ex_alloc (Below.refl _ _) _) _) _) _
  have h8 : s.wgs.length ≤ 8 := hw.len.2.2.2
  have hwt : wt s.wgs.length ≤ 256 := by
    have : s.wgs.length = 0 ∨ s.wgs.length = 1 ∨ s.wgs.length = 2 ∨ s.wgs.length = 3 ∨ s.wgs.length = 4 ∨ s.wgs.length = 5 ∨ s.wgs.length = 6 ∨ s.wgs.length = 7 ∨ s.wgs.length = 8 := by omega
    rcases this with h | h | h | h | h | h | h | h | h <;> rw [h] <;> decide
  go_wp2_with fail
  have a3 := q3.cell 0
  simp at a3
  generalize hW : ((((w.alloc (.cells #[.slice Ar s.rooms.length cr, .int .i64 s.days, .slice Am s.moves.length cm, .slice Aw s.wgs.length cw] 42)).alloc (.cells #[.int .i64 (many : Int)] 3)).alloc (.cells #[.slice none 0 0] 29)).alloc (.cells #[.func (.func 106) #[] #[.pointer (some ⟨w.heap.size + 1, 0, none⟩), .pointer (some ⟨w.heap.size, 0, none⟩), .pointer (some ⟨w.heap.size + 1 + 1, 0, none⟩), .pointer (some ⟨w.heap.size + 1 + 1 + 1, 0, none⟩)]] 179)) = W at *
  clear hW
  have HP := pick_any s Ar Am Aw cr cm cw w hs hw HDs many (w.heap.size + 1) w.heap.size (w.heap.size + 1 + 1) (w.heap.size + 1 + 1 + 1) (w.heap.size + 1 + 1 + 1 + 1) (by omega) (by omega) (by omega) (by omega) (by omega) (s.wgs.length + 1) s.wgs.length (by omega)
    none 0 [] off0 0 (.slice none 0 0) [] [] W (by omega) (by simp) (by simp; omega) ⟨hb, q1, q0, q2, q3, ⟨rfl, .inl ⟨rfl, rfl⟩⟩, ⟨rfl, .inl ⟨rfl, rfl⟩⟩, trivial, fun v hv => by cases hv⟩
  refine HP.mono ?_
  rintro e w2 ⟨⟨v, rfl⟩, vout, news, ps, fr, fresh, vo⟩
  have po := ps.qo
  have ho := ps.oo
  have lo := po.lt
  have co : w2.cell? ⟨w.heap.size + 1 + 1, 0, none⟩ = some vout := po.cell 0
  have fo := po.frozen 0
  have hr := ps.rows
  have hbw := ps.bw
  rw [List.nil_append] at ho
  rw [List.nil_append, List.nil_append] at hr
  clear HP ps fr fresh vo
  obtain ⟨Av, cv, hv⟩ : ∃ A c, vout = .slice A news.length c := by
    rcases ho.2 with ⟨rfl, h0⟩ | ⟨g', cap, cur, rfl, _⟩
    · exact ⟨none, 0, by rw [h0]⟩
    · exact ⟨_, _, rfl⟩
  subst hv
  go_wp2
  have co' : (w2.setCell ⟨w.heap.size + 1 + 1, 0, none⟩ (.slice Av news.length cv)).cell? ⟨w.heap.size + 1 + 1, 0, none⟩ = some (.slice Av news.length cv) := (po.set_ 0 _).cell 0
  refine bodyPost_ret (v := .slice Av news.length cv) (by simp [results, Try.results79, go_sem, co']) rfl ?_
  have hf : Fr (fun b => b = w.heap.size + 1 + 1) w2 (w2.setCell ⟨w.heap.size + 1 + 1, 0, none⟩ (.slice Av news.length cv)) := Fr.set _ _ _ _ rfl
  refine ⟨_, news, rfl, own_base (own_fr ho hf (fun b hb h3 => by have := own_lt ho hb; omega)) (by omega), ?_, hbw.setCell (by show w.heap.size ≤ w.heap.size + 1 + 1; omega) _⟩
  have h1 := hr.fr hf (fun v hv b hb h3 => by have := RowsAre.lt hr v hv b hb; omega)
  exact RowsAre.base (by omega) h1

end
end Go.Proofs.Ythihdiilokdidaa
end

section
namespace Go.Proofs.Ythihdiilokdidaa
open Go.RowKit
attribute [local go_sem] Ex.cell? Ex.frozen?

theorem loopL_mem {A : (Nat → Bool) → Bool} {many : Nat} : ∀ {f : Nat} {lv : List Int} {o : Nat → Bool} {n : Nat} {L : List Int}, L ∈ loopL A many f lv o n → L.length = many
  | 0, _, _, _, _, h => by cases h
  | f + 1, lv, o, n, L, h => by
    rw [loopL] at h
    rcases List.mem_append.1 h with h | h
    · split at h
      · split at h
        · rw [List.mem_singleton.1 h]; assumption
        · cases h
      · exact loopL_mem h
    · exact loopL_mem h
theorem listsL_mem {s : Ws} {many : Nat} {L : List Int} (hL : L ∈ listsL s many) : L.length = many := by
  unfold listsL pickL at hL
  split at hL
  · split at hL
    · rw [List.mem_singleton.1 hL]; assumption
    · cases hL
  · exact loopL_mem hL
noncomputable def fewK (s : Ws) : Int := firstOf (fun k => decide (0 < (listsL s k).length)) (s.wgs.length + 1)
noncomputable def fwE (s : Ws) : Int := if ckWs s = 0 then (if 0 ≤ fewK s then 0 else 9) else ckWs s
noncomputable def fwL (s : Ws) : List Int := if fwE s = 0 then (listsL s (fewK s).toNat).headD [] else []
noncomputable def bmE (s : Ws) : Int := if ckWs s = 0 then (if (listsL s 1).length = 1 ∧ agrO s off0 = false then 0 else 7) else ckWs s
noncomputable def bmV (s : Ws) : Int := if bmE s = 0 then ((listsL s 1).headD []).headD 0 else 0
structure FwV (s : Ws) (w' : World) (e : Ending) : Prop where
  out : ∃ A c, e = .returned (.tuple #[.slice A (fwL s).length c, .int .i64 (fwE s)]) ∧ SlAt w' w'.heap.size 1 A (fwL s).length (fI (fwL s))
theorem slice_form {w : World} {base : Nat} {e : TypeId} {sz n : Nat} {v : Value} {xs : List Value} (h : w.ownsRow base e sz v n xs) : ∃ A c, v = .slice A n c := by
  rcases h.2 with ⟨rfl, h0⟩ | ⟨g', cap, cur, rfl, _⟩
  · exact ⟨none, 0, by rw [h0]⟩
  · exact ⟨_, _, rfl⟩
set_option maxRecDepth 100000 in
set_option maxHeartbeats 3200000 in
theorem Fewest_any (s : Ws) (Ar Am Aw : Option Addr) (cr cm cw : Nat) (w : World) (hs : WsIn w w.heap.size s Ar Am Aw) :
    Calls Try.prog 33 #[.agg #[.slice Ar s.rooms.length cr, .int .i64 s.days, .slice Am s.moves.length cm, .slice Aw s.wgs.length cw]] w fun e w' => FwV s w' e ∧ Below w.heap.size w w' := by
  have hb1 := ex_alloc (Below.refl w.heap.size w) (.cells #[.slice Ar s.rooms.length cr, .int .i64 s.days, .slice Am s.moves.length cm, .slice Aw s.wgs.length cw] 42)
  have q0 : Blk (w.alloc (.cells #[.slice Ar s.rooms.length cr, .int .i64 s.days, .slice Am s.moves.length cm, .slice Aw s.wgs.length cw] 42)) w.heap.size 42 #[.slice Ar s.rooms.length cr, .int .i64 s.days, .slice Am s.moves.length cm, .slice Aw s.wgs.length cw] := Blk.new _ _ _
  have hs1 := hs.go hb1
  go_enter Try.func33, Try.ntmps33
  go_upto_region 1 with fail
  obtain ⟨p0, hp0⟩ : ∃ p, w.heap.size = p := ⟨_, rfl⟩
  rw [hp0] at q0 ⊢
  generalize w.alloc (.cells #[.slice Ar s.rooms.length cr, .int .i64 s.days, .slice Am s.moves.length cm, .slice Aw s.wgs.length cw] 42) = W1 at *
  clear hp0
  have a0 : W1.cell? ⟨p0, 0, none⟩ = some (.slice Ar s.rooms.length cr) := q0.cell 0
  have a1 : W1.cell? ⟨p0, 1, none⟩ = some (.int .i64 s.days) := q0.cell 1
  have a2 : W1.cell? ⟨p0, 2, none⟩ = some (.slice Am s.moves.length cm) := q0.cell 2
  have a3 : W1.cell? ⟨p0, 3, none⟩ = some (.slice Aw s.wgs.length cw) := q0.cell 3
  have l0 := q0.lt
  go_wp2_with fail
  refine (check_any s Ar Am Aw cr cm cw W1 hs1).mono ?_
  rintro e W2 ⟨rfl, h2⟩
  have B2 := ex_trans hb1 h2
  have q02 := q0.below h2 q0.lt
  have hs2 := hs1.go h2
  clear a0 a1 a2 a3 l0
  have a0 : W2.cell? ⟨p0, 0, none⟩ = some (.slice Ar s.rooms.length cr) := q02.cell 0
  have a1 : W2.cell? ⟨p0, 1, none⟩ = some (.int .i64 s.days) := q02.cell 1
  have a2 : W2.cell? ⟨p0, 2, none⟩ = some (.slice Am s.moves.length cm) := q02.cell 2
  have a3 : W2.cell? ⟨p0, 3, none⟩ = some (.slice Aw s.wgs.length cw) := q02.cell 3
  have l0 := q02.lt
  by_cases hc : ckWs s = 0
  · obtain ⟨hw, hd⟩ := ckWs_iff.1 hc
    have HC := Lib.hid hc
    have HDs := Lib.hid hd
    rw [hc]
    clear hc hd
    have h8 : s.wgs.length ≤ 8 := hw.len.2.2.2
    go_wp2_with fail
    refine wp_loop (fun a W => Rel (fun a W => ∃ k : Nat, k ≤ s.wgs.length + 1 ∧ Below W2.heap.size W2 W ∧ Hid (∀ j, j < k → decide (0 < (listsL s j).length) = false) ∧ ∃ u : Nat → Value, a = ⟨List.toArray (u 0 :: .pointer (some ⟨p0, 0, none⟩) :: u 2 :: u 3 :: u 4 :: u 5 :: u 6 :: u 7 :: u 8 :: u 9 :: u 10 :: u 11 :: u 12 :: u 13 :: u 14 :: .int .i64 ((s.wgs.length : Int) + 1) :: .int .i64 (k : Int) :: u 17 :: u 18 :: u 19 :: u 20 :: u 21 :: u 22 :: u 23 :: u 24 :: u 25 :: u 26 :: u 27 :: u 28 :: []), []⟩) a W) (fun a _ => (s.wgs.length + 1) - (intOf (a.tmps.getD 16 undef)).toNat) ⟨⟨0, by omega, Below.refl _ _, Lib.hid (fun j hj => by omega), exFrame (by kernel_rfl)⟩⟩ ?_
    clear a0 a1 a2 a3 l0
    rintro a W ⟨⟨k, hk, hb, HK, u, rfl⟩⟩
    have q03 := q02.below hb q02.lt
    have hs3 := hs2.go hb
    have a0 : W.cell? ⟨p0, 0, none⟩ = some (.slice Ar s.rooms.length cr) := q03.cell 0
    have a1 : W.cell? ⟨p0, 1, none⟩ = some (.int .i64 s.days) := q03.cell 1
    have a2 : W.cell? ⟨p0, 2, none⟩ = some (.slice Am s.moves.length cm) := q03.cell 2
    have a3 : W.cell? ⟨p0, 3, none⟩ = some (.slice Aw s.wgs.length cw) := q03.cell 3
    have l0 := q03.lt
    by_cases hlt : k < s.wgs.length + 1
    · go_wp2_with fail
      refine (listsW_any s Ar Am Aw cr cm cw W hs3 k hw HDs).mono ?_
      rintro e W4 ⟨v, vals, rfl, ho, hr, h4⟩
      have hb4 := ex_trans hb h4
      have hll := hr.len
      obtain ⟨Av, cv, rfl⟩ := slice_form ho
      cases hL : listsL s k with
      | nil =>
        rw [hL] at hll
        have h0 : vals = [] := List.eq_nil_of_length_eq_zero hll
        subst h0
        have HK2 : Hid (∀ j, j < k + 1 → decide (0 < (listsL s j).length) = false) := Lib.hid (fun j hj => by
          rcases Nat.lt_succ_iff_lt_or_eq.1 hj with h | h
          · exact HK.out j h
          · subst h; rw [hL]; rfl)
        clear hL hll
        go_wp2_with fail
        refine ⟨⟨⟨k + 1, by omega, hb4, HK2, exFrame (by kernel_rfl)⟩⟩, ?_⟩
        show (s.wgs.length + 1) - (intOf (.int .i64 ((k : Int) + 1))).toNat < (s.wgs.length + 1) - (intOf (.int .i64 (k : Int))).toNat
        simp [intOf]
        omega
      | cons r ls =>
        rw [hL] at hr
        cases vals with
        | nil => exact hr.elim
        | cons v0 vs =>
          obtain ⟨hr0, hrs⟩ := hr
          obtain ⟨gb, cap, hvv, hgb, hgb2, hcap, hcells⟩ := own_cells ho (by simp)
          injection hvv with e1 _ _
          subst e1
          have hcv : W4.cell? ⟨gb, 0, none⟩ = some v0 := by have := hcells 0 (by simp); simpa using this
          obtain ⟨A0, c0, rfl, hc0', hsl⟩ := own_sl hr0
          have HFK : Hid (fewK s = (k : Int)) := Lib.hid (firstOf_at hlt HK.out (by rw [hL]; rfl))
          have HE : Hid (fwE s = 0) := Lib.hid (by unfold fwE; rw [if_pos HC.out, if_pos (by rw [HFK.out]; omega)])
          have HL : Hid (fwL s = r) := Lib.hid (by unfold fwL; rw [if_pos HE.out, HFK.out, Int.toNat_natCast, hL]; rfl)
          skip
          clear hcells hrs hL hll
          go_wp2
          go_ret2
          exact ⟨⟨⟨A0, c0, by rw [HE.out, HL.out]; rfl, by rw [HL.out]; exact hsl⟩⟩, ex_trans B2 hb4⟩
    · have hkn : k = s.wgs.length + 1 := by omega
      have HFK : Hid (fewK s = -1) := Lib.hid (firstOf_neg (fun j hj => HK.out j (by omega)))
      have HE : Hid (fwE s = 9) := Lib.hid (by unfold fwE; rw [if_pos HC.out, if_neg (by rw [HFK.out]; decide)])
      have HL : Hid (fwL s = []) := Lib.hid (by unfold fwL; rw [if_neg (by rw [HE.out]; decide)])
      have hlt2 : ¬ ((k : Int) < (s.wgs.length : Int) + 1) := by omega
      clear hkn hlt
      go_wp2
      go_ret2
      exact ⟨⟨⟨none, 0, by rw [HE.out, HL.out]; rfl, by rw [HL.out]; intro h; simp at h⟩⟩, ex_trans B2 hb⟩
  · have HE : Hid (fwE s = ckWs s) := Lib.hid (by unfold fwE; rw [if_neg hc])
    have HL : Hid (fwL s = []) := Lib.hid (by unfold fwL; rw [if_neg (by rw [HE.out]; exact hc)])
    go_wp2
    go_ret2
    exact ⟨⟨⟨none, 0, by rw [HE.out, HL.out]; rfl, by rw [HL.out]; intro h; simp at h⟩⟩, B2⟩
set_option maxRecDepth 100000 in
set_option maxHeartbeats 3200000 in
theorem Blame_any (s : Ws) (Ar Am Aw : Option Addr) (cr cm cw : Nat) (w : World) (hs : WsIn w w.heap.size s Ar Am Aw) :
    Calls Try.prog 38 #[.agg #[.slice Ar s.rooms.length cr, .int .i64 s.days, .slice Am s.moves.length cm, .slice Aw s.wgs.length cw]] w fun e w' => e = .returned (.tuple #[.int .i64 (bmV s), .int .i64 (bmE s)]) ∧ Below w.heap.size w w' := by
  have hb1 := ex_alloc (Below.refl w.heap.size w) (.cells #[.slice Ar s.rooms.length cr, .int .i64 s.days, .slice Am s.moves.length cm, .slice Aw s.wgs.length cw] 42)
  have q0 : Blk (w.alloc (.cells #[.slice Ar s.rooms.length cr, .int .i64 s.days, .slice Am s.moves.length cm, .slice Aw s.wgs.length cw] 42)) w.heap.size 42 #[.slice Ar s.rooms.length cr, .int .i64 s.days, .slice Am s.moves.length cm, .slice Aw s.wgs.length cw] := Blk.new _ _ _
  have hs1 := hs.go hb1
  go_enter Try.func38, Try.ntmps38
  go_upto_region 1 with fail
  obtain ⟨p0, hp0⟩ : ∃ p, w.heap.size = p := ⟨_, rfl⟩
  rw [hp0] at q0 ⊢
  generalize w.alloc (.cells #[.slice Ar s.rooms.length cr, .int .i64 s.days, .slice Am s.moves.length cm, .slice Aw s.wgs.length cw] 42) = W1 at *
  clear hp0
  have a0 : W1.cell? ⟨p0, 0, none⟩ = some (.slice Ar s.rooms.length cr) := q0.cell 0
  have a1 : W1.cell? ⟨p0, 1, none⟩ = some (.int .i64 s.days) := q0.cell 1
  have a2 : W1.cell? ⟨p0, 2, none⟩ = some (.slice Am s.moves.length cm) := q0.cell 2
  have a3 : W1.cell? ⟨p0, 3, none⟩ = some (.slice Aw s.wgs.length cw) := q0.cell 3
  have l0 := q0.lt
  go_wp2_with fail
  refine (check_any s Ar Am Aw cr cm cw W1 hs1).mono ?_
  rintro e W2 ⟨rfl, h2⟩
  have B2 := ex_trans hb1 h2
  have q02 := q0.below h2 q0.lt
  have hs2 := hs1.go h2
  clear a0 a1 a2 a3 l0
  have a0 : W2.cell? ⟨p0, 0, none⟩ = some (.slice Ar s.rooms.length cr) := q02.cell 0
  have a1 : W2.cell? ⟨p0, 1, none⟩ = some (.int .i64 s.days) := q02.cell 1
  have a2 : W2.cell? ⟨p0, 2, none⟩ = some (.slice Am s.moves.length cm) := q02.cell 2
  have a3 : W2.cell? ⟨p0, 3, none⟩ = some (.slice Aw s.wgs.length cw) := q02.cell 3
  have l0 := q02.lt
  by_cases hc : ckWs s = 0
  · obtain ⟨hw, hd⟩ := ckWs_iff.1 hc
    have HC := Lib.hid hc
    have HDs := Lib.hid hd
    rw [hc]
    clear hc hd
    go_wp2_with fail
    refine (listsW_any s Ar Am Aw cr cm cw W2 hs2 1 hw HDs).mono ?_
    rintro e W4 ⟨v, vals, rfl, ho, hr, h4⟩
    have B4 := ex_trans B2 h4
    have hll := hr.len
    obtain ⟨Av, cv, rfl⟩ := slice_form ho
    have q04 := q02.below h4 q02.lt
    have hs4 := hs2.go h4
    clear a0 a1 a2 a3 l0
    have a0 : W4.cell? ⟨p0, 0, none⟩ = some (.slice Ar s.rooms.length cr) := q04.cell 0
    have a1 : W4.cell? ⟨p0, 1, none⟩ = some (.int .i64 s.days) := q04.cell 1
    have a2 : W4.cell? ⟨p0, 2, none⟩ = some (.slice Am s.moves.length cm) := q04.cell 2
    have a3 : W4.cell? ⟨p0, 3, none⟩ = some (.slice Aw s.wgs.length cw) := q04.cell 3
    have l0 := q04.lt
    by_cases h1 : vals.length = 1
    · obtain ⟨v0, rfl⟩ : ∃ v0, vals = [v0] := List.length_eq_one_iff.1 h1
      obtain ⟨r0, hL⟩ : ∃ r0, listsL s 1 = [r0] := List.length_eq_one_iff.1 (by rw [← hll]; rfl)
      obtain ⟨gb, cap, hvv, hgb, hgb2, hcap, hcells⟩ := own_cells ho (by simp)
      injection hvv with e1 _ _
      subst e1
      have hcv : W4.cell? ⟨gb, 0, none⟩ = some v0 := by have := hcells 0 (by simp); simpa using this
      rw [hL] at hr
      obtain ⟨x, rfl⟩ : ∃ x, r0 = [x] := List.length_eq_one_iff.1 (listsL_mem (s := s) (many := 1) (by rw [hL]; simp))
      obtain ⟨g0, c0, hv0, _, hg0, _, hcell0⟩ := own_cells hr.1 (by simp)
      subst hv0
      have hcx : W4.cell? ⟨g0, 0, none⟩ = some (.int .i64 x) := by have := hcell0 0 (by simp); simpa using this
      have HL := Lib.hid hL
      simp only [List.length_singleton, List.length_cons, List.length_nil, Nat.zero_add] at hcv ⊢
      clear hL hcells hcell0 hll h1 ho hr
      go_wp2_with fail
      refine (yard_any s Ar Am Aw cr cm cw _ hs4 hw HDs.out off0).mono ?_
      rintro e W5 ⟨⟨mm, rfl, hmm, FF, hmp, hFF⟩, h5⟩
      go_wp2_with fail
      refine (can_any s Ar Am Aw cr cm cw W5 (hs4.go h5) mm FF (stW s.wgs off0 s.wgs.length) hw HDs.out hmp hFF (stW_ok hw off0 _ (Nat.le_refl _))).mono ?_
      rintro e W6 ⟨rfl, h6⟩
      have B6 := ex_trans B4 (ex_trans h5 h6)
      rw [show truB (CanSt s.wo (stW s.wgs off0 s.wgs.length)) = agrO s off0 from truB_congr (canSt_good hw)]
      have c1 := (ex_trans h5 h6).cell (p := ⟨gb, 0, none⟩) hgb2
      have c2 := (ex_trans h5 h6).cell (p := ⟨g0, 0, none⟩) hg0
      rw [hcv] at c1
      rw [hcx] at c2
      have lg1 : gb < W6.heap.size := by have := (ex_trans h5 h6).size; omega
      have lg2 : g0 < W6.heap.size := by have := (ex_trans h5 h6).size; omega
      cases hA : agrO s off0
      · have HE : Hid (bmE s = 0) := Lib.hid (by unfold bmE; rw [if_pos HC.out, if_pos ⟨by rw [HL.out]; rfl, hA⟩])
        have HV : Hid (bmV s = x) := Lib.hid (by unfold bmV; rw [if_pos HE.out, HL.out]; rfl)
        clear hA
        go_wp2
        go_ret2
        exact ⟨by rw [HE.out, HV.out]; rfl, B6⟩
      · have HE : Hid (bmE s = 7) := Lib.hid (by unfold bmE; rw [if_pos HC.out, if_neg (fun h => by rw [hA] at h; cases h.2)])
        have HV : Hid (bmV s = 0) := Lib.hid (by unfold bmV; rw [if_neg (by rw [HE.out]; decide)])
        clear hA
        go_wp2
        go_ret2
        exact ⟨by rw [HE.out, HV.out]; rfl, B6⟩
    · have hne : ((vals.length : Int) != 1) = true := by rw [bne_iff_ne]; omega
      have hne' : (vals.length != 1) = true := by rw [bne_iff_ne]; omega
      have HE : Hid (bmE s = 7) := Lib.hid (by unfold bmE; rw [if_pos HC.out, if_neg (fun h => h1 (hll.trans h.1))])
      have HV : Hid (bmV s = 0) := Lib.hid (by unfold bmV; rw [if_neg (by rw [HE.out]; decide)])
      clear hll hr ho
      go_wp2
      go_ret2
      exact ⟨by rw [HE.out, HV.out]; rfl, B4⟩
  · have HE : Hid (bmE s = ckWs s) := Lib.hid (by unfold bmE; rw [if_neg hc])
    have HV : Hid (bmV s = 0) := Lib.hid (by unfold bmV; rw [if_neg (by rw [HE.out]; exact hc)])
    go_wp2
    go_ret2
    exact ⟨by rw [HE.out, HV.out]; rfl, B2⟩
end Go.Proofs.Ythihdiilokdidaa
end

section
namespace Go.Proofs.Ythihdiilokdidaa
open Go.RowKit
section
variable (lo hi : Int) (F : Nat → Int) (V : Nat → Nat → Int) (G : Nat → Int)
theorem cel_c (r d : Int) : comes (cellS lo hi).wo G r d 3 = (if 0 = d then (if 1 = r then G 0 else 0) - (if 0 = r then G 0 else 0) else 0) + ((if 1 = d then (if -1 = r then G 1 else 0) - (if 1 = r then G 1 else 0) else 0) + (if 2 = d then (if 1 = r then G 2 else 0) - (if 0 = r then G 2 else 0) else 0)) := by
  show _ + (_ + (_ + (0 : Int))) = _
  rw [Int.add_zero]
  rfl
theorem cel_s00 : stk (cellS lo hi).wo F V G 0 0 = F 0 - G 0 - V 0 0 := by
  show F 0 + (comes (cellS lo hi).wo G 0 0 3 - V 0 0) = _
  rw [cel_c]; simp; omega
theorem cel_s01 : stk (cellS lo hi).wo F V G 0 1 = F 0 - G 0 - V 0 0 - V 0 1 := by
  show stk (cellS lo hi).wo F V G 0 0 + (comes (cellS lo hi).wo G 0 1 3 - V 0 1) = _
  rw [cel_c, cel_s00]; simp; omega
theorem cel_s02 : stk (cellS lo hi).wo F V G 0 2 = F 0 - G 0 - V 0 0 - V 0 1 - G 2 - V 0 2 := by
  show stk (cellS lo hi).wo F V G 0 1 + (comes (cellS lo hi).wo G 0 2 3 - V 0 2) = _
  rw [cel_c, cel_s01]; simp; omega
theorem cel_s10 : stk (cellS lo hi).wo F V G 1 0 = F 1 + G 0 - V 1 0 := by
  show F 1 + (comes (cellS lo hi).wo G 1 0 3 - V 1 0) = _
  rw [cel_c]; simp; omega
theorem cel_s11 : stk (cellS lo hi).wo F V G 1 1 = F 1 + G 0 - V 1 0 - G 1 - V 1 1 := by
  show stk (cellS lo hi).wo F V G 1 0 + (comes (cellS lo hi).wo G 1 1 3 - V 1 1) = _
  rw [cel_c, cel_s10]; simp; omega
theorem cel_s12 : stk (cellS lo hi).wo F V G 1 2 = F 1 + G 0 - V 1 0 - G 1 - V 1 1 + G 2 - V 1 2 := by
  show stk (cellS lo hi).wo F V G 1 1 + (comes (cellS lo hi).wo G 1 2 3 - V 1 2) = _
  rw [cel_c, cel_s11]; simp; omega
structure CelT (b : Bool) : Prop where
  f0 : F 0 = 100
  f1 : 0 ≤ F 1 ∧ F 1 ≤ 5
  v00 : 1 ≤ V 0 0 ∧ V 0 0 ≤ 2
  v01 : 1 ≤ V 0 1 ∧ V 0 1 ≤ 2
  v02 : 1 ≤ V 0 2 ∧ V 0 2 ≤ 2
  v10 : 0 ≤ V 1 0 ∧ V 1 0 ≤ 1
  v11 : 0 ≤ V 1 1 ∧ V 1 1 ≤ 1
  v12 : 0 ≤ V 1 2 ∧ V 1 2 ≤ 1
  g0 : 40 ≤ G 0 ∧ G 0 ≤ 45
  g1 : G 1 = 20
  g2 : 0 ≤ G 2 ∧ G 2 ≤ 10
  w0 : b = false → lo ≤ F 1 + G 0 - V 1 0 - G 1 - V 1 1 ∧ F 1 + G 0 - V 1 0 - G 1 - V 1 1 ≤ hi
theorem cel_good (out : Nat → Bool) : GoodF (cellS lo hi).wo out F V G ↔ CelT lo hi F V G (out 0) := by
  constructor
  · intro h
    have a0 := h.tru.fst 0 (by show 0 < 2; omega)
    have a1 := h.tru.fst 1 (by show 1 < 2; omega)
    have m0 := h.tru.mov 0 (by show 0 < 3; omega)
    have m1 := h.tru.mov 1 (by show 1 < 3; omega)
    have m2 := h.tru.mov 2 (by show 2 < 3; omega)
    have v := fun (r d : Nat) (hr : r < 2) (hd : d < 3) => h.tru.vap r d hr hd
    have w := h.agr 0 (by show 0 < 1; omega)
    have e : ∀ x, inR x (gWg (cellS lo hi).wo.wgs 0).g ↔ lo ≤ x ∧ x ≤ hi := fun x => Iff.rfl
    rw [e, show (gWg (cellS lo hi).wo.wgs 0).room.toNat = 1 from rfl, show (gWg (cellS lo hi).wo.wgs 0).day.toNat = 1 from rfl, cel_s11] at w
    have a0' : 100 ≤ F 0 ∧ F 0 ≤ 100 := a0
    have m1' : 20 ≤ G 1 ∧ G 1 ≤ 20 := m1
    exact ⟨by omega, a1, v 0 0 (by decide) (by decide), v 0 1 (by decide) (by decide), v 0 2 (by decide) (by decide), v 1 0 (by decide) (by decide), v 1 1 (by decide) (by decide), v 1 2 (by decide) (by decide), m0, by omega, m2, w⟩
  · intro h
    refine ⟨⟨fun r hr => ?_, fun r d hr hd => ?_, fun i hii => ?_⟩, fun r d hr hd => ?_, fun i hii ho => ?_⟩
    · match r, hr with
      | 0, _ => exact ⟨by show (100 : Int) ≤ _; rw [h.f0]; omega, by show _ ≤ (100 : Int); rw [h.f0]; omega⟩
      | 1, _ => exact h.f1
    · match r, hr with
      | 0, _ =>
        match d, hd with
        | 0, _ => exact h.v00
        | 1, _ => exact h.v01
        | 2, _ => exact h.v02
      | 1, _ =>
        match d, hd with
        | 0, _ => exact h.v10
        | 1, _ => exact h.v11
        | 2, _ => exact h.v12
    · match i, hii with
      | 0, _ => exact h.g0
      | 1, _ => exact ⟨by show (20 : Int) ≤ _; rw [h.g1]; omega, by show _ ≤ (20 : Int); rw [h.g1]; omega⟩
      | 2, _ => exact h.g2
    · have := h.f0; have := h.f1; have := h.v00; have := h.v01; have := h.v02; have := h.v10; have := h.v11; have := h.v12; have := h.g0; have := h.g1; have := h.g2
      match r, hr with
      | 0, _ =>
        match d, hd with
        | 0, _ => rw [cel_s00]; omega
        | 1, _ => rw [cel_s01]; omega
        | 2, _ => rw [cel_s02]; omega
      | 1, _ =>
        match d, hd with
        | 0, _ => rw [cel_s10]; omega
        | 1, _ => rw [cel_s11]; omega
        | 2, _ => rw [cel_s12]; omega
    · have i0 : i < 1 := hii
      obtain rfl : i = 0 := by omega
      have e : ∀ x, inR x (gWg (cellS lo hi).wo.wgs 0).g ↔ lo ≤ x ∧ x ≤ hi := fun x => Iff.rfl
      rw [e, show (gWg (cellS lo hi).wo.wgs 0).room.toNat = 1 from rfl, show (gWg (cellS lo hi).wo.wgs 0).day.toNat = 1 from rfl, cel_s11]
      exact h.w0 ho
end
def cF (f1 : Int) : Nat → Int := fun r => if r = 0 then 100 else f1
def cV (a b c d e f : Int) : Nat → Nat → Int := fun r k => if r = 0 then (if k = 0 then a else if k = 1 then b else c) else (if k = 0 then d else if k = 1 then e else f)
def cG (a c : Int) : Nat → Int := fun i => if i = 0 then a else if i = 1 then 20 else c
theorem cel_mk (lo hi f1 a b c d e f x y : Int) (h1 : 0 ≤ f1 ∧ f1 ≤ 5) (ha : 1 ≤ a ∧ a ≤ 2) (hb : 1 ≤ b ∧ b ≤ 2) (hc : 1 ≤ c ∧ c ≤ 2) (hd : 0 ≤ d ∧ d ≤ 1) (he : 0 ≤ e ∧ e ≤ 1) (hf : 0 ≤ f ∧ f ≤ 1) (hx : 40 ≤ x ∧ x ≤ 45) (hy : 0 ≤ y ∧ y ≤ 10) (hw : lo ≤ f1 + x - d - 20 - e ∧ f1 + x - d - 20 - e ≤ hi) (out : Nat → Bool) :
    GoodF (cellS lo hi).wo out (cF f1) (cV a b c d e f) (cG x y) := (cel_good lo hi _ _ _ out).2 ⟨rfl, h1, ha, hb, hc, hd, he, hf, hx, rfl, hy, fun _ => hw⟩
theorem cel_ck {lo hi : Int} (h : 0 ≤ lo ∧ lo ≤ hi ∧ hi ≤ 2000) : ckWs (cellS lo hi) = 0 := by
  have h1 : goodWs (cellS lo hi) = toB lo hi 2000 := by
    show (_ && _) = _
    simp [cellS, allTo, roomB, moveB, wgB, toB, sideB, inB, gRm, gMv, gWg]
  unfold ckWs
  rw [show bigWs (cellS lo hi) = false from rfl, h1, (toB_iff.2 h : toB lo hi 2000 = true)]
  rfl
theorem cel_r00 : stkR (cellS 22 24).wo off0 0 0 = ⟨53, 59⟩ := rngOf_eq ⟨⟨_, _, _, cel_mk 22 24 0 2 1 1 1 0 0 45 0 (by decide) (by decide) (by decide) (by decide) (by decide) (by decide) (by decide) (by decide) (by decide) (by decide) off0, by rw [cel_s00]; rfl⟩, ⟨_, _, _, cel_mk 22 24 2 1 1 1 0 0 0 40 0 (by decide) (by decide) (by decide) (by decide) (by decide) (by decide) (by decide) (by decide) (by decide) (by decide) off0, by rw [cel_s00]; rfl⟩, fun z ⟨F, V, G, h, e⟩ => by
    have h := (cel_good 22 24 _ _ _ off0).1 h
    rw [cel_s00] at e; have := h.f0; have := h.v00; have := h.g0; omega⟩
theorem cel_r02 : stkR (cellS 22 24).wo off0 0 2 = ⟨39, 57⟩ := rngOf_eq ⟨⟨_, _, _, cel_mk 22 24 0 2 2 2 1 0 0 45 10 (by decide) (by decide) (by decide) (by decide) (by decide) (by decide) (by decide) (by decide) (by decide) (by decide) off0, by rw [cel_s02]; rfl⟩, ⟨_, _, _, cel_mk 22 24 2 1 1 1 0 0 0 40 0 (by decide) (by decide) (by decide) (by decide) (by decide) (by decide) (by decide) (by decide) (by decide) (by decide) off0, by rw [cel_s02]; rfl⟩, fun z ⟨F, V, G, h, e⟩ => by
    have h := (cel_good 22 24 _ _ _ off0).1 h
    rw [cel_s02] at e; have := h.f0; have := h.v00; have := h.v01; have := h.v02; have := h.g0; have := h.g2; omega⟩
theorem cel_r10 : stkR (cellS 22 24).wo off0 1 0 = ⟨42, 45⟩ := rngOf_eq ⟨⟨_, _, _, cel_mk 22 24 2 1 1 1 0 0 0 40 0 (by decide) (by decide) (by decide) (by decide) (by decide) (by decide) (by decide) (by decide) (by decide) (by decide) off0, by rw [cel_s10]; rfl⟩, ⟨_, _, _, cel_mk 22 24 0 1 1 1 0 1 0 45 0 (by decide) (by decide) (by decide) (by decide) (by decide) (by decide) (by decide) (by decide) (by decide) (by decide) off0, by rw [cel_s10]; rfl⟩, fun z ⟨F, V, G, h, e⟩ => by
    have h := (cel_good 22 24 _ _ _ off0).1 h
    rw [cel_s10] at e; have := h.w0 rfl; have := h.g1; have := h.v11; omega⟩
theorem cel_r12 : stkR (cellS 22 24).wo off0 1 2 = ⟨21, 34⟩ := rngOf_eq ⟨⟨_, _, _, cel_mk 22 24 2 1 1 1 0 0 1 40 0 (by decide) (by decide) (by decide) (by decide) (by decide) (by decide) (by decide) (by decide) (by decide) (by decide) off0, by rw [cel_s12]; rfl⟩, ⟨_, _, _, cel_mk 22 24 0 1 1 1 0 1 0 45 10 (by decide) (by decide) (by decide) (by decide) (by decide) (by decide) (by decide) (by decide) (by decide) (by decide) off0, by rw [cel_s12]; rfl⟩, fun z ⟨F, V, G, h, e⟩ => by
    have h := (cel_good 22 24 _ _ _ off0).1 h
    rw [cel_s12] at e; have := h.w0 rfl; have := h.v12; have := h.g2; omega⟩
theorem cel_yes : Good (cellS 22 24).wo off0 := ⟨_, _, _, cel_mk 22 24 2 1 1 1 0 0 0 40 0 (by decide) (by decide) (by decide) (by decide) (by decide) (by decide) (by decide) (by decide) (by decide) (by decide) off0⟩
theorem cel_stE : stE (cellS 22 24) = 0 := stE_zero.2 ⟨cel_ck (by decide), cel_yes⟩
def celB : Bk := ⟨[100, 5], [45, 20, 0]⟩
theorem cel_los : losR (cellS 22 24) celB 0 = 1 := by
  have h0 : lostB (cellS 22 24) celB 0 0 = false := by unfold lostB; rw [cel_r00]; decide
  have h1 : lostB (cellS 22 24) celB 0 1 = true := by unfold lostB; rw [cel_r10]; decide
  show firstOf (lostB (cellS 22 24) celB 0) 2 = 1
  simp [firstOf, h0, h1]
theorem cel_losD : losD (cellS 22 24) celB = 0 := by
  show firstOf (fun d => decide (0 ≤ losR (cellS 22 24) celB d)) 3 = 0
  simp [firstOf, cel_los]
theorem cel_losE : losE (cellS 22 24) celB = 0 := by
  unfold losE
  rw [if_pos (cel_ck (by decide)), show bookB (cellS 22 24) celB = true from rfl, if_pos rfl, if_pos (truB_iff.2 cel_yes), cel_losD]
  rfl
theorem cel_losV : losV (cellS 22 24) celB = (1, 0) := by
  unfold losV
  rw [if_pos cel_losE, cel_losD]
  show (losR (cellS 22 24) celB 0, _) = _
  rw [cel_los]
theorem cel_no : ¬ Good (cellS 35 40).wo off0 := fun ⟨F, V, G, h⟩ => by
  have h := (cel_good 35 40 _ _ _ off0).1 h
  have := h.w0 rfl; have := h.f1; have := h.g0; have := h.g1; have := h.v10; have := h.v11; omega
theorem cel_out : Good (cellS 35 40).wo (setO off0 0) := ⟨cF 2, cV 1 1 1 0 0 0, cG 40 0, (cel_good 35 40 _ _ _ _).2 ⟨rfl, by decide, by decide, by decide, by decide, by decide, by decide, by decide, by decide, rfl, by decide, fun h => by cases h⟩⟩
theorem cel_l0 : listsL (cellS 35 40) 0 = [] := by
  show (if agrO (cellS 35 40) off0 = true then _ else _) = _
  rw [if_neg (show ¬ agrO (cellS 35 40) off0 = true from fun h => cel_no (truB_iff.1 h))]
theorem cel_l1 : listsL (cellS 35 40) 1 = [[0]] := by
  show (if agrO (cellS 35 40) (setO off0 0) = true then [([0] : List Int)] else _) ++ [] = _
  rw [if_pos (show agrO (cellS 35 40) (setO off0 0) = true from truB_iff.2 cel_out)]
  rfl
theorem cel_few : fewK (cellS 35 40) = 1 := by
  show firstOf (fun k => decide (0 < (listsL (cellS 35 40) k).length)) 2 = 1
  simp [firstOf, cel_l0, cel_l1]
theorem cel_fwE : fwE (cellS 35 40) = 0 := by
  unfold fwE
  rw [if_pos (cel_ck (by decide)), cel_few]
  rfl
theorem cel_fwL : fwL (cellS 35 40) = [0] := by
  unfold fwL
  rw [if_pos cel_fwE, cel_few]
  show (listsL (cellS 35 40) 1).headD [] = _
  rw [cel_l1]
  rfl
theorem shf_ok : TmOk shiftT := ckTm_iff.1 rfl
theorem shf_h : hoursV shiftT = ⟨4, 3, 0⟩ := rfl
theorem shf_few : fewT shiftT = 2 := by
  refine (fewT_is shiftT).uniq ?_
  rw [shf_h]
  refine .inl ⟨by omega, ⟨⟨4, 1, 0⟩, ⟨fun i hi => ?_, by decide⟩, ⟨0, 2, 0⟩, ⟨fun i hi => ?_, by decide⟩, rfl⟩, fun k hk => ?_⟩
  · match i, hi with
    | 0, _ => decide
    | 1, _ => decide
    | 2, _ => decide
  · match i, hi with
    | 0, _ => decide
    | 1, _ => decide
    | 2, _ => decide
  · match k, hk with
    | 0, _ => intro h; exact absurd (show (⟨4, 3, 0⟩ : V3) = z3 from h) (by decide)
    | 1, _ =>
      rintro ⟨d, hd, hz⟩
      have e : (⟨4, 3, 0⟩ : V3).sub d = z3 := hz
      have e1 : (4 : Int) - d.a = 0 := congrArg V3.a e
      have e2 : (3 : Int) - d.b = 0 := congrArg V3.b e
      have e3 : (0 : Int) - d.c = 0 := congrArg V3.c e
      have hd' : d = ⟨4, 3, 0⟩ := by
        obtain ⟨a, b, c⟩ := d
        simp only at e1 e2 e3
        rw [show a = 4 by omega, show b = 3 by omega, show c = 0 by omega]
      have := hd.may
      rw [hd'] at this
      exact absurd this (by decide)
theorem shf_roE : roE shiftT = 0 := by
  unfold roE
  rw [if_pos (ckTm_iff.2 shf_ok), shf_few]
  rfl
theorem getD_l {α : Type} {l m : List α} {k : Nat} (z : α) (h : k < l.length) : (l ++ m).getD k z = l.getD k z := by
  rw [List.getD_eq_getElem?_getD, List.getElem?_append_left h, List.getD_eq_getElem?_getD]
theorem getD_r {α : Type} (l : List α) (x z : α) : (l ++ [x]).getD l.length z = x := by
  rw [List.getD_eq_getElem?_getD, List.getElem?_append_right (Nat.le_refl _), Nat.sub_self]
  rfl
theorem chain_at {t : Tm} {Ls : List V3} {l m : V3} (h : Chain t Ls l m) (hl : HrOk t l) : HrOk t m ∧ (∀ k, k < Ls.length → ∃ u, HrOk t u ∧ Part t (Ls.getD k z3) u) ∧ ∀ i, i < 3 → m.get i = l.get i - esum (fun k => (Ls.getD k z3).get i) (List.range Ls.length) := by
  induction h with
  | nil => exact ⟨hl, fun k hk => absurd hk (by simp), fun i hi => by simp [esum]⟩
  | snoc hc hp hz ih =>
    rename_i ds l m d
    obtain ⟨hm, hpart, hsum⟩ := ih hl
    refine ⟨(hp.hr hm).2, fun k hk => ?_, fun i hi => ?_⟩
    · rw [List.length_append] at hk
      by_cases h : k < ds.length
      · rw [getD_l _ h]; exact hpart k h
      · obtain rfl : k = ds.length := by simp at hk; omega
        refine ⟨m, hm, ?_⟩
        rw [getD_r]
        exact hp
    · rw [V3.sub_get, hsum i hi, List.length_append, show ds.length + [d].length = ds.length + 1 from rfl, List.range_succ, esum_app]
      have e1 : esum (fun k => ((ds ++ [d]).getD k z3).get i) (List.range ds.length) = esum (fun k => (ds.getD k z3).get i) (List.range ds.length) := esum_congr fun k hk => by
        rw [getD_l _ (List.mem_range.1 hk)]
      rw [e1]
      show _ = _ - (_ + (((ds ++ [d]).getD ds.length z3).get i + 0))
      rw [getD_r]
      omega
theorem hrsL_get (v : V3) {n i : Nat} (hn : n ≤ 3) (hi : i < n) : gI (hrsL v n) i = v.get i := by
  rw [hrsL_eq _ hn]
  unfold gI
  rw [List.getD_eq_getElem?_getD, List.getElem?_map, List.getElem?_range hi]
  rfl
theorem hrsL_len (v : V3) {n : Nat} (hn : n ≤ 3) : (hrsL v n).length = n := by rw [hrsL_eq _ hn]; simp
def rosL (t : Tm) (Ls : List V3) : List (List Int) := Ls.map fun v => hrsL v t.rates.length
theorem rosL_at (t : Tm) {Ls : List V3} {k : Nat} (hk : k < Ls.length) : gL (rosL t Ls) k = hrsL (Ls.getD k z3) t.rates.length := by
  unfold gL rosL
  rw [List.getD_eq_getElem?_getD, List.getElem?_map, List.getD_eq_getElem?_getD, List.getElem?_eq_getElem hk]
  rfl
theorem layV_hrs {t : Tm} (v : V3) (hn : t.rates.length ≤ 3) (hf : ∀ i, t.rates.length ≤ i → v.get i = 0) : layV (hrsL v t.rates.length) t.rates.length = v := V3.ext' fun i hi => by
  rw [layV_get _ _ hi]
  split
  · rename_i h; exact hrsL_get v hn h
  · rename_i h; rw [hf i (by omega)]
theorem done_chain {t : Tm} {Ls : List V3} (hn : t.rates.length ≤ 3) (hf : ∀ k, k < Ls.length → ∀ i, t.rates.length ≤ i → (Ls.getD k z3).get i = 0) (i : Nat) : ∀ k, k ≤ Ls.length → (doneV t (rosL t Ls) k).get i = esum (fun k => (Ls.getD k z3).get i) (List.range k)
  | 0, _ => by
    match i with
    | 0 => rfl
    | 1 => rfl
    | 2 => rfl
    | _ + 3 => rfl
  | k + 1, hk => by
    rw [doneV_get, done_chain hn hf i k (by omega), rosL_at t (by omega), layV_hrs _ hn (hf k (by omega)), List.range_succ, esum_app]
    show _ = _ + ((Ls.getD k z3).get i + 0)
    omega
theorem chain_prove {t : Tm} {Ls : List V3} {many : Int} (ht : TmOk t) (h : Chain t Ls (hoursV t) z3) (h6 : Ls.length ≤ 6) (hm : (Ls.length : Int) ≤ many) : proveR t (rosL t Ls) many = true := by
  obtain ⟨_, hp, hs⟩ := chain_at h (hoursV_ok ht)
  have hn := ht.len.2.1
  have hl : (rosL t Ls).length = Ls.length := by simp [rosL]
  have hfar : ∀ k, k < Ls.length → ∀ i, t.rates.length ≤ i → (Ls.getD k z3).get i = 0 := fun k hk i hi => by
    obtain ⟨u, hu, hpu⟩ := hp k hk
    exact (hpu.hr hu).1.far i hi
  unfold proveR
  rw [hl]
  simp only [Bool.and_eq_true, decide_eq_true_eq, allTo_iff]
  refine ⟨ckTm_iff.2 ht, hm, h6, fun k hk => ?_, ht.len.2.2.symm, fun i hi => ?_⟩
  · obtain ⟨u, hu, hpu⟩ := hp k hk
    rw [rosL_at t hk]
    unfold rowR
    simp only [Bool.and_eq_true, decide_eq_true_eq, allTo_iff]
    refine ⟨hrsL_len _ hn, fun i hi => ?_, ?_⟩
    · rw [hrsL_len _ hn] at hi
      rw [hrsL_get _ hn hi]
      have hb := hpu.bd i (by omega)
      have hmay := hpu.may
      unfold mayB at hmay
      simp only [Bool.and_eq_true, decide_eq_true_eq] at hmay
      refine inB_iff.2 ⟨hb.1, ?_⟩
      have hle : (Ls.getD k z3).get i ≤ hrsTo (Ls.getD k z3) t.rates.length := esum_mem (g := fun i => (Ls.getD k z3).get i) (fun e he => (hpu.bd e (by have := List.mem_range.1 he; omega)).1) (List.mem_range.2 hi)
      omega
    · rw [layV_hrs _ hn (hfar k hk)]; exact hpu.may
  · rw [done_chain hn hfar i _ (Nat.le_refl _)]
    have := hs i (by omega)
    rw [z3_get] at this
    have e : (hoursV t).get i = gI t.hours i := by
      unfold hoursV; rw [layV_get _ _ (by omega), if_pos hi]
    rw [e] at this
    show esum (fun k => (Ls.getD k z3).get i) (List.range Ls.length) = gI t.hours i
    generalize esum (fun k => (Ls.getD k z3).get i) (List.range Ls.length) = E at *
    omega
end Go.Proofs.Ythihdiilokdidaa
end

section
namespace Go.Proofs.Ythihdiilokdidaa
open Go.RowKit
attribute [local go_sem] Ex.cell? Ex.frozen?

theorem MatIn.lis {W : World} {B : Nat} {A : Option Addr} {t : Tm} {Ls : List V3} {rA : Nat → Option Addr} {rc : Nat → Nat} (hn : t.rates.length ≤ 3) (h : MatIn W B A Ls.length t.rates.length (fun k i => (Ls.getD k z3).get i) rA rc) : LisIn W B A (rosL t Ls) rA rc := by
  have hl : (rosL t Ls).length = Ls.length := by simp [rosL]
  have hr : ∀ k, k < Ls.length → (gL (rosL t Ls) k).length = t.rates.length := fun k hk => by rw [rosL_at t hk, hrsL_len _ hn]
  refine ⟨fun hp => ?_, fun k hk hp => ?_⟩
  · rw [hl] at hp ⊢
    obtain ⟨b, o, e, hb, x⟩ := h.out hp
    exact ⟨b, o, e, hb, fun k j hk hj => by
      rw [x k j hk hj]
      show some (Value.slice (rA k) t.rates.length (rc k)) = some (Value.slice (rA k) (gL (rosL t Ls) k).length (rc k))
      rw [hr k hk]⟩
  · rw [hl] at hk
    rw [hr k hk] at hp ⊢
    obtain ⟨b, o, e, hb, x⟩ := h.row k hk hp
    refine ⟨b, o, e, hb, fun i j hi hj => ?_⟩
    rw [x i j hi hj, rosL_at t hk]
    unfold fI
    rw [hrsL_get _ hn hi]
theorem rosL_len (t : Tm) (Ls : List V3) : (rosL t Ls).length = Ls.length := by simp [rosL]
theorem rosL_rows {t : Tm} {Ls : List V3} (hn : t.rates.length ≤ 3) : ∀ k, k < (rosL t Ls).length → (gL (rosL t Ls) k).length ≤ 1000 := fun k hk => by
  rw [rosL_at t (by rw [← rosL_len t Ls]; exact hk), hrsL_len _ hn]; omega
theorem cel_rg {L : Nat → Rg} {d : Nat} {a b : Int} (h : L d = ⟨a, b⟩) : fRg L d 0 = .int .i64 a ∧ fRg L d 1 = .int .i64 b := ⟨by show Value.int .i64 (L d).lo = _; rw [h], by show Value.int .i64 (L d).hi = _; rw [h]⟩
set_option maxRecDepth 100000 in
set_option maxHeartbeats 6400000 in
theorem awake_any (w : World) :
    Calls Try.prog 17 #[] w fun e w' => e = .returned (.bool true) ∧ Below w.heap.size w w' := by
  go_enter Try.func17, Try.ntmps17
  have B_w := Below.refl w.heap.size w
  go_wp2_with fail
  refine (cellar_any 22 24 w).mono ?_
  rintro e W1 ⟨⟨Ar1, Am1, Aw1, cr1, cm1, cw1, rfl, hs1⟩, hW1⟩
  have B_W1 := ex_trans B_w hW1
  go_wp2_with fail
  refine (Stocks_any (cellS 22 24) Ar1 Am1 Aw1 cr1 cm1 cw1 W1 hs1).mono ?_
  rintro e W2 ⟨⟨n2, As, cs, rAs, rcs, rfl, hv2⟩, hW2⟩
  replace hs1 := hs1.go hW2
  have B_W2 := ex_trans B_W1 hW2
  obtain ⟨hn2, hr⟩ := hv2.yes cel_stE
  have hn2' : n2 = 2 := hn2
  subst hn2'
  clear hn2 hv2 hs1
  rw [cel_stE]
  go_wp2_with fail
  refine (cellar_any 22 24 W2).mono ?_
  rintro e W3 ⟨⟨Ar3, Am3, Aw3, cr3, cm3, cw3, rfl, hs3⟩, hW3⟩
  replace hr := hr.go hW3
  have B_W3 := ex_trans B_W2 hW3
  go_wp2_with fail
  have N_W4 := ex_alloc (Below.refl W3.heap.size W3) (.cells #[.int .i64 100, .int .i64 5] 3)
  have qa : Blk (W3.alloc (.cells #[.int .i64 100, .int .i64 5] 3)) W3.heap.size 3 #[.int .i64 100, .int .i64 5] := Blk.new _ _ _
  replace hr := hr.go N_W4
  replace hs3 := hs3.go N_W4
  have B_W4 := ex_trans B_W3 N_W4
  have N_W5 := ex_alloc (Below.refl (W3.alloc (.cells #[.int .i64 100, .int .i64 5] 3)).heap.size (W3.alloc (.cells #[.int .i64 100, .int .i64 5] 3))) (.cells #[.int .i64 45, .int .i64 20, .int .i64 0] 3)
  have qb : Blk ((W3.alloc (.cells #[.int .i64 100, .int .i64 5] 3)).alloc (.cells #[.int .i64 45, .int .i64 20, .int .i64 0] 3)) (W3.alloc (.cells #[.int .i64 100, .int .i64 5] 3)).heap.size 3 #[.int .i64 45, .int .i64 20, .int .i64 0] := Blk.new _ _ _
  obtain ⟨pa, hpa⟩ : ∃ p, W3.heap.size = p := ⟨_, rfl⟩
  have hsz : (W3.alloc (.cells #[.int .i64 100, .int .i64 5] 3)).heap.size = pa + 1 := by simp [hpa]
  rw [hpa] at qa
  rw [hsz] at qb
  replace hr := hr.go N_W5
  replace hs3 := hs3.go N_W5
  replace qa := qa.below N_W5 qa.lt
  have B_W5 := ex_trans B_W4 N_W5
  try rw [hpa]
  clear hpa hsz
  generalize ((W3.alloc (.cells #[.int .i64 100, .int .i64 5] 3)).alloc (.cells #[.int .i64 45, .int .i64 20, .int .i64 0] 3)) = W5 at *
  have sa := blk_sl (sz := 1) (n := 2) (f := fI [100, 5]) qa (fun k j hk hj => by
    obtain rfl : j = 0 := by omega
    match k, hk with
    | 0, _ => rfl
    | 1, _ => rfl)
  have sb := blk_sl (sz := 1) (n := 3) (f := fI [45, 20, 0]) qb (fun k j hk hj => by
    obtain rfl : j = 0 := by omega
    match k, hk with
    | 0, _ => rfl
    | 1, _ => rfl
    | 2, _ => rfl)
  clear qa qb
  refine (Lost_any (cellS 22 24) Ar3 Am3 Aw3 cr3 cm3 cw3 W5 hs3 celB (some ⟨pa, 0, none⟩) (some ⟨pa + 1, 0, none⟩) 2 3 sa sb ⟨by show 2 ≤ _; omega, by show 3 ≤ _; omega⟩ ⟨by show 2 ≤ _; omega, by show 3 ≤ _; omega⟩).mono ?_
  rintro e W6 ⟨rfl, hW6⟩
  replace hr := hr.go hW6
  replace hs3 := hs3.go hW6
  have B_W6 := ex_trans B_W5 hW6
  rw [cel_losV, cel_losE]
  clear sa sb hs3
  go_wp2_with fail
  refine (cellar_any 35 40 W6).mono ?_
  rintro e W7 ⟨⟨Ar7, Am7, Aw7, cr7, cm7, cw7, rfl, hs7⟩, hW7⟩
  replace hr := hr.go hW7
  have B_W7 := ex_trans B_W6 hW7
  go_wp2_with fail
  refine (Fewest_any (cellS 35 40) Ar7 Am7 Aw7 cr7 cm7 cw7 W7 hs7).mono ?_
  rintro e W8 ⟨⟨Af, cf, rfl, slf⟩, hW8⟩
  replace hr := hr.go hW8
  replace hs7 := hs7.go hW8
  have B_W8 := ex_trans B_W7 hW8
  clear hs7
  rw [cel_fwL] at slf ⊢
  rw [cel_fwE]
  replace slf : SlAt W8 W8.heap.size 1 Af 1 (fI [0]) := slf
  skip
  go_wp2_with fail
  refine (shift_any W8).mono ?_
  rintro e W9 ⟨⟨Ah9, Ak9, ch9, ck9, rfl, ht9⟩, hW9⟩
  replace hr := hr.go hW9
  replace slf := (slf.below hW9).up hW9.size
  have B_W9 := ex_trans B_W8 hW9
  go_wp2_with fail
  refine (Roster_any shiftT Ah9 Ak9 ch9 ck9 W9 ht9 ⟨by show 2 ≤ _; omega, by show 2 ≤ _; omega⟩).mono ?_
  rintro e W10 ⟨⟨⟨Ax, nx, cx, rfl, hyes, _⟩⟩, hW10⟩
  replace hr := hr.go hW10
  replace slf := (slf.below hW10).up hW10.size
  replace ht9 := ht9.go hW10
  have B_W10 := ex_trans B_W9 hW10
  obtain ⟨Ls, rAx, rcx, hn, hn2, hch, hmat⟩ := hyes shf_roE
  rw [shf_few] at hn2
  subst hn2
  have HLs := Lib.hid hn
  rw [shf_roE]
  rw [HLs.out] at hmat
  have hlis := MatIn.lis (by show 2 ≤ _; omega) hmat
  have HCH := Lib.hid hch
  clear hyes hn hmat hch ht9
  go_wp2_with fail
  obtain ⟨b, o, rfl, hb, xo⟩ := hr.out (by show 0 < 2; omega)
  obtain ⟨b0, o0, e0, hb0, x0⟩ := hr.row 0 (by show 0 < 2; omega) (by show 0 < 3; omega)
  obtain ⟨b1, o1, e1, hb1, x1⟩ := hr.row 1 (by show 1 < 2; omega) (by show 0 < 3; omega)
  have y0 : W10.cell? ⟨b, o, none⟩ = some (.slice (some ⟨b0, o0, none⟩) 3 (rcs 0)) := (xo 0 0 (by show 0 < 2; omega) (by omega)).trans (by show some (Value.slice (rAs 0) 3 (rcs 0)) = _; rw [e0])
  have y1 : W10.cell? ⟨b, o + 1, none⟩ = some (.slice (some ⟨b1, o1, none⟩) 3 (rcs 1)) := (xo 1 0 (by show 1 < 2; omega) (by omega)).trans (by show some (Value.slice (rAs 1) 3 (rcs 1)) = _; rw [e1])
  have z000 : W10.cell? ⟨b0, o0, none⟩ = some (.int .i64 53) := by have := x0 0 0 (by show 0 < 3; omega) (by omega); rw [(cel_rg cel_r00).1] at this; exact this
  have z001 : W10.cell? ⟨b0, o0 + 1, none⟩ = some (.int .i64 59) := by have := x0 0 1 (by show 0 < 3; omega) (by omega); rw [(cel_rg cel_r00).2] at this; exact this
  have z020 : W10.cell? ⟨b0, o0 + 4, none⟩ = some (.int .i64 39) := by have := x0 2 0 (by show 2 < 3; omega) (by omega); rw [(cel_rg cel_r02).1] at this; exact this
  have z021 : W10.cell? ⟨b0, o0 + 5, none⟩ = some (.int .i64 57) := by have := x0 2 1 (by show 2 < 3; omega) (by omega); rw [(cel_rg cel_r02).2] at this; exact this
  have z100 : W10.cell? ⟨b1, o1, none⟩ = some (.int .i64 42) := by have := x1 0 0 (by show 0 < 3; omega) (by omega); rw [(cel_rg cel_r10).1] at this; exact this
  have z101 : W10.cell? ⟨b1, o1 + 1, none⟩ = some (.int .i64 45) := by have := x1 0 1 (by show 0 < 3; omega) (by omega); rw [(cel_rg cel_r10).2] at this; exact this
  have z120 : W10.cell? ⟨b1, o1 + 4, none⟩ = some (.int .i64 21) := by have := x1 2 0 (by show 2 < 3; omega) (by omega); rw [(cel_rg cel_r12).1] at this; exact this
  have z121 : W10.cell? ⟨b1, o1 + 5, none⟩ = some (.int .i64 34) := by have := x1 2 1 (by show 2 < 3; omega) (by omega); rw [(cel_rg cel_r12).2] at this; exact this
  clear hr xo x0 x1 e0 e1
  simp only [List.append_eq, List.cons_append, List.nil_append]
  refine wp_region_ext_tqF 92 (.quiet 0 (.quiet 1 (.quiet 2 (.quiet 3 (.quiet 4 (.quiet 5 (.quiet 6 (.quiet 7 (.quiet 8 (.quiet 9 (.quiet 10 (.quiet 11 (.quiet 12 (.quiet 13 (.quiet 14 (.quiet 15 (.quiet 16 (.quiet 17 (.quiet 18 (.quiet 19 (.quiet 20 (.quiet 21 (.quiet 22 (.quiet 23 (.quiet 24 (.quiet 25 (.quiet 26 (.loud 27 (.quiet 28 (.quiet 29 (.quiet 30 (.quiet 31 (.quiet 32 (.quiet 33 (.quiet 34 (.quiet 35 (.loud 36 (.quiet 37 (.quiet 38 (.quiet 39 (.quiet 40 (.quiet 41 (.quiet 42 (.quiet 43 (.quiet 44 (.loud 45 (.quiet 46 (.quiet 47 (.quiet 48 (.quiet 49 (.quiet 50 (.quiet 51 (.quiet 52 (.quiet 53 (.loud 54 (.quiet 55 (.quiet 56 (.quiet 57 (.quiet 58 (.quiet 59 (.quiet 60 (.quiet 61 (.quiet 62 (.quiet 63 (.quiet 64 (.quiet 65 (.quiet 66 (.quiet 67 (.quiet 68 (.quiet 69 (.quiet 70 (.quiet 71 (.quiet 72 (.quiet 73 (.quiet 74 (.loud 75 (.loud 76 (.quiet 77 (.quiet 78 (.quiet 79 (.quiet 80 (.quiet 81 (.quiet 82 (.quiet 83 (.quiet 84 (.quiet 85 (.quiet 86 (.quiet 87 (.quiet 89 (.loud 88 (.loud 90 (.quiet 91 .done)))))))))))))))))))))))))))))))))))))))))))))))))))))))))))))))))))))))))))))))))))))))))))) (by kernel_rfl) (by kernel_rfl) (by intro d _ _ _ _ h; cases d <;> exact h) ?_
  have D0 := (Below.refl W10.heap.size W10).drew
  repeat (refine tq_quiet rfl ?_; go_big_quiet_step (fail); refine wpQuiet_nil ?_)
  obtain ⟨Y, hY⟩ : ∃ Y, W10.drew = Y := ⟨_, rfl⟩
  rw [hY] at D0 ⊢
  clear hY
  replace slf := (slf.below D0).up D0.size
  replace hlis := hlis.go D0
  have B_Y := ex_trans B_W10 D0
  refine tq_loud rfl ?_
  go_wp2_with fail
  refine (between_any 53 59 Y).mono ?_
  rintro e Y0 ⟨rfl, hY0⟩
  replace slf := (slf.below hY0).up hY0.size
  replace hlis := hlis.go hY0
  have B_Y0 := ex_trans B_Y hY0
  have X_Y0 := ex_trans D0 hY0
  go_wp2_with fail
  refine ⟨inEx X_Y0, ?_⟩
  repeat (refine tq_quiet rfl ?_; go_big_quiet_step (fail); refine wpQuiet_nil ?_)
  refine tq_loud rfl ?_
  go_wp2_with fail
  refine (between_any 39 57 Y0).mono ?_
  rintro e Y1 ⟨rfl, hY1⟩
  replace slf := (slf.below hY1).up hY1.size
  replace hlis := hlis.go hY1
  have B_Y1 := ex_trans B_Y0 hY1
  have X_Y1 := ex_trans X_Y0 hY1
  go_wp2_with fail
  refine ⟨inEx X_Y1, ?_⟩
  repeat (refine tq_quiet rfl ?_; go_big_quiet_step (fail); refine wpQuiet_nil ?_)
  refine tq_loud rfl ?_
  go_wp2_with fail
  refine (between_any 42 45 Y1).mono ?_
  rintro e Y2 ⟨rfl, hY2⟩
  replace slf := (slf.below hY2).up hY2.size
  replace hlis := hlis.go hY2
  have B_Y2 := ex_trans B_Y1 hY2
  have X_Y2 := ex_trans X_Y1 hY2
  go_wp2_with fail
  refine ⟨inEx X_Y2, ?_⟩
  repeat (refine tq_quiet rfl ?_; go_big_quiet_step (fail); refine wpQuiet_nil ?_)
  refine tq_loud rfl ?_
  go_wp2_with fail
  refine (between_any 21 34 Y2).mono ?_
  rintro e Y3 ⟨rfl, hY3⟩
  replace slf := (slf.below hY3).up hY3.size
  replace hlis := hlis.go hY3
  have B_Y3 := ex_trans B_Y2 hY3
  have X_Y3 := ex_trans X_Y2 hY3
  go_wp2_with fail
  refine ⟨inEx X_Y3, ?_⟩
  repeat (refine tq_quiet rfl ?_; go_big_quiet_step (fail); refine wpQuiet_nil ?_)
  refine tq_loud rfl ?_
  go_wp2_with fail
  have N_Y5 := ex_alloc (Below.refl Y3.heap.size Y3) (.cells #[.int .i64 0] 3)
  have q0 : Blk (Y3.alloc (.cells #[.int .i64 0] 3)) Y3.heap.size 3 #[.int .i64 0] := Blk.new _ _ _
  replace slf := (slf.below N_Y5).up N_Y5.size
  replace hlis := hlis.go N_Y5
  have B_Y5 := ex_trans B_Y3 N_Y5
  have X_Y5 := ex_trans X_Y3 N_Y5
  clear N_Y5
  generalize Y3.alloc (.cells #[.int .i64 0] 3) = Y5 at *
  refine ⟨inEx X_Y5, ?_⟩
  repeat (refine tq_quiet rfl ?_; go_big_quiet_step (fail); refine wpQuiet_nil ?_)
  obtain ⟨pz, hpz⟩ : ∃ p, Y3.heap.size = p := ⟨_, rfl⟩
  rw [hpz] at q0 ⊢
  clear hpz
  have s0 := blk_sl (sz := 1) (n := 1) (f := fI [0]) q0 (fun k j hk hj => by
    obtain rfl : j = 0 := by omega
    match k, hk with
    | 0, _ => rfl)
  refine tq_loud rfl ?_
  go_wp2_with fail
  refine (ints_eq Af (some ⟨pz, 0, none⟩) cf 1 1 1 (gI [0]) (gI [0]) Y5 slf s0 (by omega) (by omega)).mono ?_
  rintro e Y6 ⟨rfl, hY6⟩
  replace slf := (slf.below hY6).up hY6.size
  replace hlis := hlis.go hY6
  replace q0 := q0.below hY6 q0.lt
  have B_Y6 := ex_trans B_Y5 hY6
  have X_Y6 := ex_trans X_Y5 hY6
  clear s0 q0 slf
  rw [show (decide (1 = 1) && allTo (fun i => decide (gI [0] i = gI [0] i)) 1) = true from rfl]
  go_wp2_with fail
  refine ⟨inEx X_Y6, ?_⟩
  repeat (refine tq_quiet rfl ?_; go_big_quiet_step (fail); refine wpQuiet_nil ?_)
  refine tq_loud rfl ?_
  go_wp2_with fail
  refine (shift_any Y6).mono ?_
  rintro e Y7 ⟨⟨Ah7, Ak7, ch7, ck7, rfl, ht7⟩, hY7⟩
  replace hlis := hlis.go hY7
  have B_Y7 := ex_trans B_Y6 hY7
  have X_Y7 := ex_trans X_Y6 hY7
  go_wp2_with fail
  refine ⟨inEx X_Y7, ?_⟩
  repeat (refine tq_quiet rfl ?_; go_big_quiet_step (fail); refine wpQuiet_nil ?_)
  have hpr := ProveR_any shiftT Ah7 Ak7 ch7 ck7 Y7 ht7 ⟨by show 2 ≤ _; omega, by show 2 ≤ _; omega⟩ (rosL shiftT Ls) Ax cx rAx rcx hlis ⟨by rw [rosL_len, ← HLs.out]; omega, rosL_rows (by show 2 ≤ _; omega)⟩ 2
  rw [rosL_len, ← HLs.out, chain_prove shf_ok HCH.out (by rw [← HLs.out]; omega) (by rw [← HLs.out]; omega)] at hpr
  refine tq_loud rfl ?_
  go_wp2_with fail
  refine hpr.mono ?_
  rintro e Y8 ⟨rfl, hY8⟩
  have B_Y8 := ex_trans B_Y7 hY8
  have X_Y8 := ex_trans X_Y7 hY8
  go_wp2_with fail
  refine ⟨inEx X_Y8, ?_⟩
  repeat (refine tq_quiet rfl ?_; go_big_quiet_step (fail); refine wpQuiet_nil ?_)
  refine tq_done (r := [_]) rfl ?_
  go_wp2
  go_ret
  exact ⟨rfl, B_Y8⟩
end Go.Proofs.Ythihdiilokdidaa
end

section
namespace Go.Proofs.Ythihdiilokdidaa
open Go.RowKit
attribute [local go_sem] Ex.cell? Ex.frozen? Gx.cell?

theorem IOwn.lis {W : World} {B : Nat} {v : Value} {X : List IRow} {L : List (List Int)} (h : IOwn W B v X) (hX : X.map (fun x => x.2.2) = L) : ∃ A c rA rc, v = .slice A L.length c ∧ LisIn W W.heap.size A L rA rc := by
  have hl : X.length = L.length := by have := congrArg List.length hX; simpa using this
  have hx : ∀ (k : Nat) (hk : k < X.length), (X[k]).2.2 = gL L k := fun k hk => by
    subst hX
    simp [gL, hk]
  obtain ⟨A, c, e, _, _, hr⟩ := own_row (c := cIR) (sz := 1) (fun _ => rfl) (f := fun k _ => .slice (X.getD k default).1 (gL L k).length (X.getD k default).2.1) (fun k hk j hj => by
      have hj0 : j = 0 := by omega
      subst hj0
      have hlen := hx k hk
      simp [cIR, hk, ← hlen]) h.own
  refine ⟨A, c, fun k => (X.getD k default).1, fun k => (X.getD k default).2.1, by rw [e, hl], ?_, fun k hk => ?_⟩
  · have := hr.sl
    rw [hl] at this
    exact this
  · have hkX : k < X.length := by omega
    have h1 := (NOwn.ins h X[k] (List.getElem_mem hkX)).sl
    have e1 := hx k hkX
    have e2 : X.getD k default = X[k] := by simp [hkX]
    show SlAt W W.heap.size 1 (X.getD k default).1 (gL L k).length (fI (gL L k))
    change SlAt W W.heap.size 1 (X[k]).1 (X[k]).2.2.length (fI (X[k]).2.2) at h1
    rw [e2]
    rw [e1] at h1
    exact h1
structure TtV (t : Tt) (w' : World) (e : Ending) : Prop where
  out : ∃ A1 A2 A3 c1 c2 c3 rA rc, e = .returned (.agg #[.slice A1 t.fs.length c1, .slice A2 t.vs.length c2, .slice A3 t.gs.length c3]) ∧ TtIn w' w'.heap.size t A1 A2 A3 rA rc
end Go.Proofs.Ythihdiilokdidaa
end

section
namespace Go.Proofs.Ythihdiilokdidaa
open Go.RowKit
attribute [local go_sem] Ex.cell? Ex.frozen? Gx.cell?

theorem RowAt.set {W : World} {B sz n : Nat} {T T' : TypeId} {A : Option Addr} {f : Nat → Nat → Value} (h : RowAt W B T sz A n f) {b : Nat} {cs : Array Value} (hq : Blk W b T' cs) (ht : T ≠ T') (i : Nat) (u : Value) : RowAt (W.setCell ⟨b, i, none⟩ u) B T sz A n f := by
 rcases h with h3 | ⟨g, cur, e, k1, k2, k3⟩
 ·
  exact .inl h3
 ·
  exact .inr ⟨g, cur, e, k1, k2.fr (Fr.set (R := fun x => x = b) W b i u rfl) (blk_ne k2 hq ht), k3⟩
def cRm (r : Rm) : List Value := [.int .i64 r.fst.lo, .int .i64 r.fst.hi, .int .i64 r.vap.lo, .int .i64 r.vap.hi]
def cMv (m : Mv) : List Value := [.int .i64 m.day, .int .i64 m.src, .int .i64 m.dst, .int .i64 m.g.lo, .int .i64 m.g.hi]
def cWg (x : Wg) : List Value := [.int .i64 x.room, .int .i64 x.day, .int .i64 x.g.lo, .int .i64 x.g.hi]
structure WsV (s : Ws) (w' : World) (e : Ending) : Prop where
 out : ∃ Ar Am Aw cr cm cw, e = .returned (.agg #[.slice Ar s.rooms.length cr, .int .i64 s.days, .slice Am s.moves.length cm, .slice Aw s.wgs.length cw]) ∧ WsIn w' w'.heap.size s Ar Am Aw
end Go.Proofs.Ythihdiilokdidaa
end

section
namespace Go.Proofs.Ythihdiilokdidaa
open Go.RowKit
attribute [local go_sem] Ex.cell? Ex.frozen?

section
variable {s : Ws} {k : Nat}
end
end Go.Proofs.Ythihdiilokdidaa
end

section
namespace Go.Proofs.Ythihdiilokdidaa
open Go.RowKit
attribute [local go_sem] Ex.cell? Ex.frozen?

def shortB (L : List (List Int)) : Bool := decide (L.length ≤ 9) && allTo (fun k => decide ((gL L k).length ≤ 9)) L.length
def thinB (s : Ws) (t : Tt) : Bool := decide (s.rooms.length ≤ 6) && (decide (s.moves.length ≤ 15) && (decide (s.wgs.length ≤ 11) && (decide (t.fs.length ≤ 9) && (decide (t.gs.length ≤ 18) && shortB t.vs))))
def rowS (nA nB : Nat → Nat) (La Lb : Nat → Nat → Int) (k : Nat) : Bool := decide (nA k = nB k) && allTo (fun i => decide (La k i = Lb k i)) (nA k)
def sameB (n m : Nat) (nA nB : Nat → Nat) (La Lb : Nat → Nat → Int) : Bool := decide (n = m) && allTo (rowS nA nB La Lb) n
set_option maxRecDepth 100000 in
set_option maxHeartbeats 3200000 in
theorem same_any (A B : Option Addr) (ca cb n m : Nat) (nA nB : Nat → Nat) (rA rB : Nat → Option Addr) (kA kB : Nat → Nat) (La Lb : Nat → Nat → Int) (w : World) (hA : SlAt w w.heap.size 1 A n (fun k _ => .slice (rA k) (nA k) (kA k))) (hB : SlAt w w.heap.size 1 B m (fun k _ => .slice (rB k) (nB k) (kB k)))
    (hAr : ∀ k, k < n → SlAt w w.heap.size 1 (rA k) (nA k) (fun i _ => .int .i64 (La k i))) (hBr : ∀ k, k < m → SlAt w w.heap.size 1 (rB k) (nB k) (fun i _ => .int .i64 (Lb k i))) (hnA : ∀ k, k < n → nA k ≤ 1000000) (hnB : ∀ k, k < m → nB k ≤ 1000000) (hn : n ≤ 1000000) (hm : m ≤ 1000000) :
    Calls Try.prog 56 #[.slice A n ca, .slice B m cb] w fun e w' => e = .returned (.bool (sameB n m nA nB La Lb)) ∧ Below w.heap.size w w' := by
  by_cases h : n = m
  · subst h
    go_enter Try.func56, Try.ntmps56
    go_wp2_with fail
    refine wp_loop (fun a W => Rel (fun a W => ∃ k : Nat, k ≤ n ∧ Below w.heap.size w W ∧ Hid (∀ j, j < k → (rowS nA nB La Lb) j = true) ∧ ∃ u : Nat → Value, a = ⟨List.toArray (.slice A n ca :: .slice B n cb :: u 2 :: u 3 :: u 4 :: .int .i64 (k : Int) :: u 6 :: u 7 :: u 8 :: u 9 :: u 10 :: u 11 :: u 12 :: u 13 :: u 14 :: u 15 :: u 16 :: u 17 :: u 18 :: u 19 :: u 20 :: u 21 :: u 22 :: u 23 :: u 24 :: u 25 :: u 26 :: []), []⟩) a W) (fun a _ => n - (intOf (a.tmps.getD 5 undef)).toNat) ⟨⟨0, by omega, Below.refl _ _, Lib.hid (fun j hj => by omega), exFrame (by kernel_rfl)⟩⟩ ?_
    rintro a W ⟨⟨k, hk, hb, HO, u, rfl⟩⟩
    by_cases hlt : k < n
    · obtain ⟨b1, o1, rfl, hb1, x1⟩ := (hA.below hb) (by omega)
      obtain ⟨b2, o2, rfl, hb2, x2⟩ := (hB.below hb) (by omega)
      have y1 : W.cell? ⟨b1, o1 + k, none⟩ = some (.slice (rA k) (nA k) (kA k)) := by have := x1 k 0 hlt (by omega); rw [show o1 + (k * 1 + 0) = o1 + k by omega] at this; exact this
      have y2 : W.cell? ⟨b2, o2 + k, none⟩ = some (.slice (rB k) (nB k) (kB k)) := by have := x2 k 0 hlt (by omega); rw [show o2 + (k * 1 + 0) = o2 + k by omega] at this; exact this
      clear x1 x2
      have hsz := hb.size
      have hb1W : b1 < W.heap.size := by omega
      have hb2W : b2 < W.heap.size := by omega
      have hkn : (k : Int) < (n : Int) := by omega
      have DD := (Below.refl W.heap.size W).drew
      have hb3 := ex_trans hb DD
      have hra := ((hAr k hlt).below hb3).up hb3.size
      have hrb := ((hBr k hlt).below hb3).up hb3.size
      have hla := hnA k hlt
      have hlb := hnB k hlt
      have HRK : Hid ((rowS nA nB La Lb) k = (decide (nA k = nB k) && allTo (fun i => decide (La k i = Lb k i)) (nA k))) := Lib.hid rfl
      obtain ⟨pa, hpa⟩ : ∃ x, rA k = x := ⟨_, rfl⟩
      rw [hpa] at y1 hra
      obtain ⟨na, hna⟩ : ∃ x, nA k = x := ⟨_, rfl⟩
      rw [hna] at y1 hra hla
      obtain ⟨ka, hka⟩ : ∃ x, kA k = x := ⟨_, rfl⟩
      rw [hka] at y1
      obtain ⟨pb, hpb⟩ : ∃ x, rB k = x := ⟨_, rfl⟩
      rw [hpb] at y2 hrb
      obtain ⟨nb, hnb⟩ : ∃ x, nB k = x := ⟨_, rfl⟩
      rw [hnb] at y2 hrb hlb
      obtain ⟨kb, hkb⟩ : ∃ x, kB k = x := ⟨_, rfl⟩
      rw [hkb] at y2
      obtain ⟨fa, hfa⟩ : ∃ x, La k = x := ⟨_, rfl⟩
      rw [hfa] at hra
      obtain ⟨fb, hfb⟩ : ∃ x, Lb k = x := ⟨_, rfl⟩
      rw [hfb] at hrb
      obtain ⟨rb, hrbe⟩ : ∃ x, (rowS nA nB La Lb) k = x := ⟨_, rfl⟩
      have HSM := Lib.hid hrbe
      have HRK2 : Hid ((decide (na = nb) && allTo (fun i => decide (fa i = fb i)) na) = rb) := Lib.hid (by rw [← hrbe, HRK.out, hna, hnb, hfa, hfb])
      clear hrbe
      clear HRK hpa hna hka hpb hnb hkb hfa hfb
      go_upto_region 6 with fail
      refine wp_region_ext_mix 9 [(false, 0), (false, 1), (false, 2), (false, 3), (false, 4), (false, 5), (false, 6), (false, 7), (true, 8)] (by kernel_rfl) (by kernel_rfl) (by intro d _ _ _ _ h; cases d <;> exact h) ?_
      repeat (refine mix_quiet rfl ?_; go_big_quiet_step (fail); refine wpQuiet_nil ?_)
      refine mix_loud rfl ?_
      go_wp2_with fail
      refine (ints_eq pa pb ka kb na nb fa fb W.drew hra hrb hla hlb).mono ?_
      rintro e W1 ⟨rfl, hx⟩
      rw [HRK2.out]
      have X1 := ex_trans DD hx
      have hb4 := ex_trans hb X1
      go_wp2_with fail
      refine ⟨inEx X1, ?_⟩
      refine mix_nil (r := [_]) rfl ?_
      cases rb
      · have HF : Hid (sameB n n nA nB La Lb = false) := Lib.hid (by unfold sameB; rw [allTo_false (f := (rowS nA nB La Lb)) hlt HSM.out, Bool.and_false])
        go_wp2
        go_ret
        exact ⟨ret_bool HF.out.symm, hb4⟩
      · have HO2 : Hid (∀ j, j < k + 1 → (rowS nA nB La Lb) j = true) := Lib.hid (fun j hj => by
          rcases Nat.lt_succ_iff_lt_or_eq.1 hj with h | h
          · exact HO.out j h
          · subst h; exact HSM.out)
        go_wp2_with fail
        refine ⟨⟨⟨k + 1, by omega, hb4, HO2, exFrame (by kernel_rfl)⟩⟩, ?_⟩
        show n - (intOf (.int .i64 ((k : Int) + 1))).toNat < n - (intOf (.int .i64 (k : Int))).toNat
        simp [intOf]
        omega
    · obtain rfl : k = n := by omega
      have HF : Hid (sameB k k nA nB La Lb = true) := Lib.hid (by unfold sameB; rw [decide_eq_true (rfl : k = k), (allTo_iff (f := (rowS nA nB La Lb))).2 HO.out]; rfl)
      go_wp2
      go_ret
      exact ⟨ret_bool HF.out.symm, hb⟩
  · have h1 : ((n : Int) != (m : Int)) = true := by rw [bne_iff_ne]; omega
    have HF : Hid (sameB n m nA nB La Lb = false) := Lib.hid (by unfold sameB; rw [decide_eq_false h]; rfl)
    clear h
    go_enter Try.func56, Try.ntmps56
    go_wp2
    go_ret
    exact ⟨ret_bool HF.out.symm, Below.refl _ _⟩
end Go.Proofs.Ythihdiilokdidaa
end

section
namespace Go.Proofs.Ythihdiilokdidaa
open Go.RowKit Go.ChangeShapes Go.WideShapes Go.Deep Go.ChangeAt
section
variable {H : Type} {enc : TypeId × Value → H} {w : World} {base : Nat} {spare : Nat → Bool} {held : Bool} {r : Reach} {b0 : Nat}
structure Lx where
 l : List Int
 A : Option Addr
 c : Nat
instance : Inhabited Lx := ⟨⟨[], none, 0⟩⟩
def cLx (x : Lx) : List Value := [.slice x.A x.l.length x.c]
end
end Go.Proofs.Ythihdiilokdidaa
end

section
namespace Go.Proofs.Ythihdiilokdidaa
open Go.RowKit
attribute [local go_sem] Ex.cell? Ex.frozen? Gx.cell?

end Go.Proofs.Ythihdiilokdidaa
end

section
namespace Go.Proofs.Ythihdiilokdidaa
open Go.RowKit
attribute [local go_sem] Ex.cell? Ex.frozen?

theorem NOwn.base {α : Type} {T1 T2 : TypeId} {s1 s2 : Nat} {c : α → List Value} {A : α → Option Addr} {n : α → Nat} {f : α → Nat → Nat → Value} {W : World} {B B' : Nat} {v : Value} {X : List α} (h : NOwn T1 s1 T2 s2 c A n f W B v X) (hB : B' ≤ B) : NOwn T1 s1 T2 s2 c A n f W B' v X := ⟨own_base h.own hB, fun x hx => (h.ins x hx).base hB⟩
end Go.Proofs.Ythihdiilokdidaa
end
