/- Spill: whether grams can go (walk). · Spill: an end of what a stock can be (walk). -/
import Derived.Test.YthihdiilokdidaaV6
import Derived.Test.YthihdiilokdidaaV3
import Derived.Test.YthihdiilokdidaaV2
set_option linter.unusedVariables false
set_option linter.unusedSimpArgs false
set_option linter.unusedSectionVars false
section
namespace Go.Proofs.Ythihdiilokdidaa
open Go.RowKit Go.Shelf
attribute [local go_sem] Oper.semAt_some Ex.cell? Ex.frozen? Gx.cell? Kx.cell?

theorem results_cell_one {P : Program} {fn : Func} {p : Tmp} {ty : TypeId} (h : fn.results = #[.cell p ty]) (tmps : Array Value) (w : World) (g : Nat) (v : Value) (d : TypeDesc)
    (hp : tmps.getD p undef = .pointer (some ⟨g, 0, none⟩)) (hc : w.cell? ⟨g, 0, none⟩ = some v) (hu : P.underlying ty = some d) (hd : (match d with | .struct _ | .array _ _ => true | _ => false) = false) :
    (results fn tmps).run P w = .ok v w := by
  have hp' : tmps[p]?.getD undef = .pointer (some ⟨g, 0, none⟩) := by simpa using hp
  have hagg : (isAgg ty).run P w = .ok false w := by
    unfold isAgg
    rw [Sem.run_bind, run_underlying hu w]
    cases d <;> simp_all
  simp [results, h, hp', asAddr, loadVar, Sem.run_bind, hagg, go_sem, hc]
structure CanI (s : Ws) (Ar Am Aw : Option Addr) (cr cm cw m : Nat) (st : Sts) (w W5 : World) (L : List Lb) (W : World) : Prop where
  size : W5.heap.size ≤ W.heap.size
  bel : Below w.heap.size w W
  qy : Blk W w.heap.size 153 #[.slice Ar s.rooms.length cr, .int .i64 s.days, .slice Am s.moves.length cm, .slice Aw s.wgs.length cw, .map (some m)]
  res : Blk W (w.heap.size + 1) 4 #[.bool false]
  pn : Blk W (w.heap.size + 1 + 1 + 1 + 1) 181 #[.pointer (some ⟨w.heap.size + 1 + 1 + 1, 0, none⟩)]
  pm : Blk W (w.heap.size + 1 + 1 + 1 + 1 + 1 + 1) 186 #[.map (some (w.heap.size + 1 + 1 + 1 + 1 + 1))]
  net : ∃ sp es nd vo vals N, LaidP s.wo st sp L es nd ∧ NetM W w.heap.size (w.heap.size + 1 + 1 + 1) (w.heap.size + 1 + 1) sp sp.length (rowE es) vo vals ∧ MpIs keyI keyI W (w.heap.size + 1 + 1 + 1 + 1 + 1) N ∧ ∀ x : Nat, (N (x : Int)).getD 0 = nd x
  open_ : ∀ b ∈ L, (Lb.R s.wo st b).lo ≤ (Lb.R s.wo st b).hi
theorem CanI.grown {s : Ws} {Ar Am Aw : Option Addr} {cr cm cw m : Nat} {st : Sts} {w W5 W W' : World} {L : List Lb} {row : Option Nat} {B : Nat} (h : CanI s Ar Am Aw cr cm cw m st w W5 L W) (hg : W.grownBy W' row) (hr : RowOk B W row) (hB : w.heap.size + 8 ≤ B) : CanI s Ar Am Aw cr cm cw m st w W5 L W' := by
  obtain ⟨sp, es, nd, vo, vals, N, h1, h2, h3, h4⟩ := h.net
  exact ⟨Nat.le_trans h.size hg.size, below_grownR h.bel hg hr (by omega), h.qy.grownR hg hr, h.res.grownR hg hr, h.pn.grownR hg hr, h.pm.grownR hg hr, ⟨sp, es, nd, vo, vals, N, h1, h2.grown hg hr (by omega), h3.grown hg hr (by omega), h4⟩, h.open_⟩
structure CanX (s : Ws) (st : Sts) (w W5 W : World) : Prop where
  size : W5.heap.size ≤ W.heap.size
  bel : Below w.heap.size w W
  res : Blk W (w.heap.size + 1) 4 #[.bool false]
  bad : ∃ b ∈ labels s.wo, (Lb.R s.wo st b).hi < (Lb.R s.wo st b).lo
theorem CanX.grown {s : Ws} {st : Sts} {w W5 W W' : World} {row : Option Nat} {B : Nat} (h : CanX s st w W5 W) (hg : W.grownBy W' row) (hr : RowOk B W row) (hB : w.heap.size + 8 ≤ B) : CanX s st w W5 W' :=
  ⟨Nat.le_trans h.size hg.size, below_grownR h.bel hg hr (by omega), h.res.grownR hg hr, h.bad⟩
theorem KeepsN.putObj {B l : Nat} {W : World} {o o' : Obj} (hl : B ≤ l) (ho : W.heap[l]? = some o) (hc : o.isCells = false) : KeepsN B W (W.putObj l o') :=
  ⟨by simp, fun k hk _ => World.putObj_heap_other (by omega), fun k o1 ho1 hc1 _ => (World.putObj_heap_other (fun e => by subst e; rw [ho1] at ho; cases ho; rw [hc1] at hc; cases hc)).trans ho1⟩
theorem NetFr.from {base mb B : Nat} {w w' : World} (h : NetFr base mb w w') (hb : mb < B) : KeepsFrom B w w' :=
  ⟨h.size, fun k o hk ho hc => h.same k o ho (by omega) (fun ⟨cs, t, fr, e, _⟩ => by subst e; cases hc)⟩
theorem rowE_join (es : List Ed) (u v : Nat) (c : Int) : (fun i => rowE es i ++ if i = u then [(⟨v, c, (rowE es v).length⟩ : Ar)] else if i = v then [⟨u, 0, (rowE es u).length⟩] else []) = rowE (es ++ [edOf u v c]) := by
  funext i
  rw [rowE_snoc, rowE_len, rowE_len]
  unfold pieceE edOf
  by_cases h1 : i = u
  · subst h1; simp
  · have h1' : ¬ u = i := fun e => h1 e.symm
    by_cases h2 : i = v
    · subst h2; simp [h1, h1']
    · have h2' : ¬ v = i := fun e => h2 e.symm
      simp [h1, h2, h1', h2']
def bodyPostN (F : Fence) (n : Nat) (P : Program) (fn : Func) (R : Ending → World → Prop) : Exit → Act → World → Prop
  | .normal, a, w | .ret, a, w => LeavesInM F n P fn a.tmps R a.defers .returning w
  | .outgrown, _, w => R .outgrown w
  | _, _, _ => False
theorem calls_of_marksN {n : Nat} {P : Program} {f : FuncId} {fn : Func} {c : Code} {args : Array Value} {w : World} {R : Ending → World → Prop} (hf : P.funcs[f]? = some fn) (hb : fn.body = some c)
    (h : c.wp P (bodyPostN Fence.wide n P fn R) { tmps := args ++ Array.replicate (fn.ntmps - args.size) undef, defers := [] } w) : Calls P f args w R :=
  calls_of_marks (n := n) hf hb (Code.wp_mono (fun e a w h => by cases e <;> first | exact h | exact h.elim) h)
theorem NetM.node2 {W W1 : World} {base q mb N : Nat} {sp : List Spot} {R : Nat → List Ar} {vo vo' : Value} {vals : List Value} (h : NetM W base q mb sp N R vo vals) (hR : R N = []) (hR1 : R (N + 1) = []) (hg : W.grownBy W1 vo.ownBlock) (ho : W1.ownsRow base 205 1 vo' (vals.length + 2) (vals ++ [.slice none 0 0, .slice none 0 0]))
    (hat : ∀ b, vo'.ownBlock = some b → vo.ownBlock = some b ∨ W.heap.size ≤ b) : NetM (W1.setCell ⟨q, 1, none⟩ vo') base q mb sp (N + 2) R vo' (vals ++ [.slice none 0 0, .slice none 0 0]) ∧ NetFr base mb W (W1.setCell ⟨q, 1, none⟩ vo') := by
  have hF := Fr.grown (R := fun b => vo.ownBlock = some b) hg (fun b hb => .inl hb)
  have hq : ¬ vo.ownBlock = some q := own_blkne h.out h.blk (by decide)
  have hm : ¬ vo.ownBlock = some mb := own_isMap h.out h.num
  have t1 := h.blk.fr hF hq
  have t4 := h.num.fr hF hm
  have hF2 := Fr.set (R := fun b => b = q) W1 q 1 vo' rfl
  have hmq : ¬ mb = q := fun e => blk_isMap h.blk h.num e.symm
  have hset := t1.set_ 1 vo'
  simp only [List.setIfInBounds_toArray, List.set_cons_zero, List.set_cons_succ] at hset
  have hlen : (vals ++ [Value.slice none 0 0, Value.slice none 0 0]).length = vals.length + 2 := by simp
  have hv : ∀ j, j < N → vA (vals ++ [Value.slice none 0 0, Value.slice none 0 0]) j = vA vals j := fun j hj => by simp [vA, List.getElem?_append, show j < vals.length by rw [h.len]; exact hj]
  have hvN : ∀ j, ¬ j < N → j < N + 2 → vA (vals ++ [Value.slice none 0 0, Value.slice none 0 0]) j = .slice none 0 0 := fun j h1 h2 => by
    have : j = vals.length ∨ j = vals.length + 1 := by rw [h.len]; omega
    rcases this with rfl | rfl <;> simp [vA, List.getElem?_append]
  have hRj : ∀ j, ¬ j < N → j < N + 2 → R j = [] := fun j h1 h2 => by
    have : j = N ∨ j = N + 1 := by omega
    rcases this with rfl | rfl <;> assumption
  refine ⟨⟨hset, by rw [hlen]; exact own_fr ho hF2 (fun b hb e => own_blkne ho t1 (by decide) (by rw [hb, e])), by rw [hlen, h.len], fun j hj => ?_, fun j k b hj hk h1 h2 => ?_, t4.fr hF2 hmq, h.qb⟩, (NetFr.grown h.out (.inr (.inl rfl)) hg).trans (NetFr.set t1 (.inr (.inr rfl)) h.qb.1 _ _)⟩
  · by_cases hj0 : j < N
    · rw [hv j hj0]
      have := own_fr (h.rows j hj0) hF (fun b hb e => own_ownne (h.rows j hj0) h.out (by decide) hb e)
      exact own_fr this hF2 (fun b hb e => own_blkne this t1 (by decide) (by rw [hb, e]))
    · rw [hvN j hj0 hj, hRj j hj0 hj]
      exact ⟨by simp, .inl ⟨rfl, rfl⟩⟩
  · by_cases hj0 : j < N
    · by_cases hk0 : k < N
      · rw [hv j hj0] at h1; rw [hv k hk0] at h2; exact h.ne j k b hj0 hk0 h1 h2
      · rw [hvN k hk0 hk] at h2; simp [Value.ownBlock] at h2
    · rw [hvN j hj0 hj] at h1; simp [Value.ownBlock] at h1
structure CanL (w : World) (D : Nat) (N : Int → Option Int) (V : World) : Prop where
  bel : Below w.heap.size w V
  res : Blk V (w.heap.size + 1) 4 #[.bool false]
  pn : Blk V (w.heap.size + 1 + 1 + 1 + 1) 181 #[.pointer (some ⟨w.heap.size + 1 + 1 + 1, 0, none⟩)]
  pm : Blk V (w.heap.size + 1 + 1 + 1 + 1 + 1 + 1) 186 #[.map (some (w.heap.size + 1 + 1 + 1 + 1 + 1))]
  map : MpIs keyI keyI V (w.heap.size + 1 + 1 + 1 + 1 + 1) N
  dd : V.heap[D]? = some (.deferred (some []))
  sz : w.heap.size + 8 ≤ V.heap.size
theorem CanL.nf {w V V' : World} {D : Nat} {N : Int → Option Int} (h : CanL w D N V) (hf : NetFr w.heap.size (w.heap.size + 1 + 1) V V') (hD : w.heap.size + 8 ≤ D) : CanL w D N V' :=
  ⟨hf.toBelow h.bel (Nat.le_refl _) (by have := h.sz; omega), h.res.nf hf (by omega) (by unfold NetTy; decide), h.pn.nf hf (by omega) (by unfold NetTy; decide), h.pm.nf hf (by omega) (by unfold NetTy; decide), h.map.nf hf (by omega), hf.same D _ h.dd (by omega) (fun ⟨cs, t, fr, e, _⟩ => by cases e), Nat.le_trans h.sz hf.size⟩
theorem PushIs.cap_bd {M : Nat} {ps : List Pp} {es : List Ed} {left : Int} (h : PushIs M ps es left) (hb : ∀ p ∈ ps, 0 ≤ p.lo ∧ p.lo ≤ p.hi ∧ p.hi ≤ 1048576) (hn : ∀ x, -62914560 ≤ needs ps x ∧ needs ps x ≤ 62914560) : ∀ e ∈ es, e.cap ≤ 62914560 := by
  intro e he
  have h1 : e.shape ∈ es.map Ed.shape := List.mem_map_of_mem he
  rw [h.shape, List.mem_append] at h1
  rcases h1 with h1 | h1
  · obtain ⟨p, hp, e1⟩ := List.mem_map.1 h1
    have := hb p hp
    have e2 : p.hi - p.lo = e.cap := congrArg (fun x : Nat × Nat × Int => x.2.2) e1
    omega
  · obtain ⟨x, _, hx⟩ := List.mem_flatMap.1 h1
    have := hn x
    unfold supply at hx
    split at hx
    · have e1 := List.mem_singleton.1 hx
      have e2 : e.cap = needs ps x := congrArg (fun x : Nat × Nat × Int => x.2.2) e1
      omega
    · split at hx
      · have e1 := List.mem_singleton.1 hx
        have e2 : e.cap = - needs ps x := congrArg (fun x : Nat × Nat × Int => x.2.2) e1
        omega
      · cases hx
theorem supEd_pos {M k : Nat} {nd : Nat → Int} (h : 0 < nd k) : supEd M nd (k + 1) = supEd M nd k ++ [edOf M k (nd k)] := by
  rw [supEd_succ, supply, if_pos h]; rfl
theorem supEd_neg {M k : Nat} {nd : Nat → Int} (h : nd k < 0) : supEd M nd (k + 1) = supEd M nd k ++ [edOf k (M + 1) (-nd k)] := by
  rw [supEd_succ, supply, if_neg (by omega), if_pos h]; rfl
theorem supEd_nil {M k : Nat} {nd : Nat → Int} (h : nd k = 0) : supEd M nd (k + 1) = supEd M nd k := by
  rw [supEd_succ, supply, if_neg (by omega), if_neg (by omega)]; simp
theorem supEd_len (M : Nat) (nd : Nat → Int) : ∀ k, (supEd M nd k).length ≤ k
  | 0 => Nat.le_refl _
  | k + 1 => by
    have ih := supEd_len M nd k
    by_cases h1 : 0 < nd k
    · rw [supEd_pos h1]; simp; omega
    · by_cases h2 : nd k < 0
      · rw [supEd_neg h2]; simp; omega
      · rw [supEd_nil (by omega)]; omega
theorem total_bd {nd : Nat → Int} {C : Int} (hC : 0 ≤ C) (h : ∀ x, nd x ≤ C) : ∀ k : Nat, 0 ≤ total k nd ∧ total k nd ≤ k * C
  | 0 => by simp [total, esum]
  | k + 1 => by
    have ih := total_bd hC h k
    have := h k
    have e : ((k + 1 : Nat) : Int) * C = k * C + C := by rw [Int.natCast_add, Int.add_mul]; simp
    rw [total_succ, e]
    split <;> omega
theorem supEd_zero (M : Nat) (nd : Nat → Int) : supEd M nd 0 = [] := rfl
theorem rowPut {α β : Type} [DecidableEq α] {kV : α → Value} {vV : β → Value} {W : World} {b : Nat} {F : α → Option β} (h : MpIs kV vV W b F) : RowOk b W (some b) :=
  ⟨fun r hr => by injection hr with hr; subst hr; exact ⟨Nat.le_refl _, _, Array.getElem?_eq_getElem h.lt, h.noCells _ (Array.getElem?_eq_getElem h.lt)⟩⟩
theorem MpIs.putN {α β : Type} [DecidableEq α] {kV : α → Value} {vV : β → Value} {W : World} {b B : Nat} {o' : Obj} {F : α → Option β} (h : MpIs kV vV W b F) (hB : B ≤ b) : KeepsN B W (W.putObj b o') :=
  KeepsN.putObj hB (Array.getElem?_eq_getElem h.lt) (h.noCells _ (Array.getElem?_eq_getElem h.lt))
def encF (w0 : Wo) (st : Sts) (b : Lb) : Array Value := #[.int .i64 (Lb.U w0 b).1, .int .i64 (Lb.U w0 b).2, .int .i64 (Lb.V w0 b).1, .int .i64 (Lb.V w0 b).2, .int .i64 (Lb.R w0 st b).lo, .int .i64 (Lb.R w0 st b).hi]
theorem LaidP.nil (w : Wo) (st : Sts) : LaidP w st [] [] [] (fun _ => 0) := ⟨List.nodup_nil, fun s h => absurd h (by simp), fun b h => absurd h (by simp), rfl, fun x => by simp [ndL, needs, esum]⟩
set_option maxRecDepth 100000 in
set_option maxHeartbeats 6400000 in
theorem can_any (s : Ws) (Ar Am Aw : Option Addr) (cr cm cw : Nat) (w : World) (hs : WsIn w w.heap.size s Ar Am Aw) (m : Nat) (F : Spot → Option Rg) (st : Sts) (hw : WoOk s.wo) (hd : s.days = (s.wo.days : Int)) (hm : StMp w m F) (hF : StAll F st s.rooms.length s.wo.days) (hst : ∀ r d, 0 ≤ (st r d).lo ∧ (st r d).lo ≤ 1048576 ∧ 0 ≤ (st r d).hi ∧ (st r d).hi ≤ 1048576) :
    Calls Try.prog 81 #[.agg #[.slice Ar s.rooms.length cr, .int .i64 s.days, .slice Am s.moves.length cm, .slice Aw s.wgs.length cw, .map (some m)]] w fun e w' => e = .returned (.bool (truB (CanSt s.wo st))) ∧ Below w.heap.size w w' := by
  refine calls_of_marksN (n := 5) Try.func81 rfl ?_
  simp only [Try.ntmps81, List.size_toArray, List.length_cons, List.length_nil, Nat.reduceAdd, Nat.reduceSub, Array.replicate_succ, Array.replicate_zero, List.push_toArray, List.append_toArray, List.nil_append, List.cons_append]
  have HDs := Lib.hid hd
  clear hd
  have hmk := @run_makeMap Try.prog
  go_wp2_with fail
  refine (pipes_any s Ar Am Aw cr cm cw m (((((((w.alloc (.cells #[.slice Ar s.rooms.length cr, .int .i64 s.days, .slice Am s.moves.length cm, .slice Aw s.wgs.length cw, .map (some m)] 153)).alloc (.cells #[.bool false] 4)).alloc (.map #[] 0)).alloc (.cells #[.map (some (w.heap.size + 1 + 1)), .slice none 0 0] 185)).alloc (.cells #[.pointer (some ⟨w.heap.size + 1 + 1 + 1, 0, none⟩)] 181)).alloc (.map #[] 0)).alloc (.cells #[.map (some (w.heap.size + 1 + 1 + 1 + 1 + 1))] 186))).mono ?_
  rintro e W5 ⟨rfl, rfl⟩
  simp only [World.size_alloc]
  go_wp2_with fail
  have hb8 := ex_alloc (ex_alloc (ex_alloc (ex_alloc (ex_alloc (ex_alloc (ex_alloc (ex_alloc (Below.refl w.heap.size w) (.cells #[.slice Ar s.rooms.length cr, .int .i64 s.days, .slice Am s.moves.length cm, .slice Aw s.wgs.length cw, .map (some m)] 153)) (.cells #[.bool false] 4)) (.map #[] 0)) (.cells #[.map (some (w.heap.size + 1 + 1)), .slice none 0 0] 185)) (.cells #[.pointer (some ⟨w.heap.size + 1 + 1 + 1, 0, none⟩)] 181)) (.map #[] 0)) (.cells #[.map (some (w.heap.size + 1 + 1 + 1 + 1 + 1))] 186)) (.cells #[.slice Ar s.rooms.length cr, .int .i64 s.days, .slice Am s.moves.length cm, .slice Aw s.wgs.length cw, .map (some m)] 153)
  have q0 : Blk ((((((((w.alloc (.cells #[.slice Ar s.rooms.length cr, .int .i64 s.days, .slice Am s.moves.length cm, .slice Aw s.wgs.length cw, .map (some m)] 153)).alloc (.cells #[.bool false] 4)).alloc (.map #[] 0)).alloc (.cells #[.map (some (w.heap.size + 1 + 1)), .slice none 0 0] 185)).alloc (.cells #[.pointer (some ⟨w.heap.size + 1 + 1 + 1, 0, none⟩)] 181)).alloc (.map #[] 0)).alloc (.cells #[.map (some (w.heap.size + 1 + 1 + 1 + 1 + 1))] 186)).alloc (.cells #[.slice Ar s.rooms.length cr, .int .i64 s.days, .slice Am s.moves.length cm, .slice Aw s.wgs.length cw, .map (some m)] 153)) (w.heap.size) 153 #[.slice Ar s.rooms.length cr, .int .i64 s.days, .slice Am s.moves.length cm, .slice Aw s.wgs.length cw, .map (some m)] := ((((((((Blk.new _ _ _).alloc _).alloc _).alloc _).alloc _).alloc _).alloc _).alloc _)
  have q1 : Blk ((((((((w.alloc (.cells #[.slice Ar s.rooms.length cr, .int .i64 s.days, .slice Am s.moves.length cm, .slice Aw s.wgs.length cw, .map (some m)] 153)).alloc (.cells #[.bool false] 4)).alloc (.map #[] 0)).alloc (.cells #[.map (some (w.heap.size + 1 + 1)), .slice none 0 0] 185)).alloc (.cells #[.pointer (some ⟨w.heap.size + 1 + 1 + 1, 0, none⟩)] 181)).alloc (.map #[] 0)).alloc (.cells #[.map (some (w.heap.size + 1 + 1 + 1 + 1 + 1))] 186)).alloc (.cells #[.slice Ar s.rooms.length cr, .int .i64 s.days, .slice Am s.moves.length cm, .slice Aw s.wgs.length cw, .map (some m)] 153)) (w.heap.size + 1) 4 #[.bool false] := (((((((Blk.new' _ _ _ (by simp)).alloc _).alloc _).alloc _).alloc _).alloc _).alloc _)
  have mb : MpIs cSp keyI ((((((((w.alloc (.cells #[.slice Ar s.rooms.length cr, .int .i64 s.days, .slice Am s.moves.length cm, .slice Aw s.wgs.length cw, .map (some m)] 153)).alloc (.cells #[.bool false] 4)).alloc (.map #[] 0)).alloc (.cells #[.map (some (w.heap.size + 1 + 1)), .slice none 0 0] 185)).alloc (.cells #[.pointer (some ⟨w.heap.size + 1 + 1 + 1, 0, none⟩)] 181)).alloc (.map #[] 0)).alloc (.cells #[.map (some (w.heap.size + 1 + 1 + 1 + 1 + 1))] 186)).alloc (.cells #[.slice Ar s.rooms.length cr, .int .i64 s.days, .slice Am s.moves.length cm, .slice Aw s.wgs.length cw, .map (some m)] 153)) (w.heap.size + 1 + 1) (numF []) := ((MpIs.new _ (by simp)).below (ex_alloc (ex_alloc (ex_alloc (ex_alloc (ex_alloc (Below.refl _ _) _) _) _) _) _)).congr (fun s => rfl)
  have q3 : Blk ((((((((w.alloc (.cells #[.slice Ar s.rooms.length cr, .int .i64 s.days, .slice Am s.moves.length cm, .slice Aw s.wgs.length cw, .map (some m)] 153)).alloc (.cells #[.bool false] 4)).alloc (.map #[] 0)).alloc (.cells #[.map (some (w.heap.size + 1 + 1)), .slice none 0 0] 185)).alloc (.cells #[.pointer (some ⟨w.heap.size + 1 + 1 + 1, 0, none⟩)] 181)).alloc (.map #[] 0)).alloc (.cells #[.map (some (w.heap.size + 1 + 1 + 1 + 1 + 1))] 186)).alloc (.cells #[.slice Ar s.rooms.length cr, .int .i64 s.days, .slice Am s.moves.length cm, .slice Aw s.wgs.length cw, .map (some m)] 153)) (w.heap.size + 1 + 1 + 1) 185 #[.map (some (w.heap.size + 1 + 1)), .slice none 0 0] := (((((Blk.new' _ _ _ (by simp)).alloc _).alloc _).alloc _).alloc _)
  have q4 : Blk ((((((((w.alloc (.cells #[.slice Ar s.rooms.length cr, .int .i64 s.days, .slice Am s.moves.length cm, .slice Aw s.wgs.length cw, .map (some m)] 153)).alloc (.cells #[.bool false] 4)).alloc (.map #[] 0)).alloc (.cells #[.map (some (w.heap.size + 1 + 1)), .slice none 0 0] 185)).alloc (.cells #[.pointer (some ⟨w.heap.size + 1 + 1 + 1, 0, none⟩)] 181)).alloc (.map #[] 0)).alloc (.cells #[.map (some (w.heap.size + 1 + 1 + 1 + 1 + 1))] 186)).alloc (.cells #[.slice Ar s.rooms.length cr, .int .i64 s.days, .slice Am s.moves.length cm, .slice Aw s.wgs.length cw, .map (some m)] 153)) (w.heap.size + 1 + 1 + 1 + 1) 181 #[.pointer (some ⟨w.heap.size + 1 + 1 + 1, 0, none⟩)] := ((((Blk.new' _ _ _ (by simp)).alloc _).alloc _).alloc _)
  have mn : MpIs keyI keyI ((((((((w.alloc (.cells #[.slice Ar s.rooms.length cr, .int .i64 s.days, .slice Am s.moves.length cm, .slice Aw s.wgs.length cw, .map (some m)] 153)).alloc (.cells #[.bool false] 4)).alloc (.map #[] 0)).alloc (.cells #[.map (some (w.heap.size + 1 + 1)), .slice none 0 0] 185)).alloc (.cells #[.pointer (some ⟨w.heap.size + 1 + 1 + 1, 0, none⟩)] 181)).alloc (.map #[] 0)).alloc (.cells #[.map (some (w.heap.size + 1 + 1 + 1 + 1 + 1))] 186)).alloc (.cells #[.slice Ar s.rooms.length cr, .int .i64 s.days, .slice Am s.moves.length cm, .slice Aw s.wgs.length cw, .map (some m)] 153)) (w.heap.size + 1 + 1 + 1 + 1 + 1) (fun _ => none) := (MpIs.new _ (by simp)).below (ex_alloc (ex_alloc (Below.refl _ _) _) _)
  have q6 : Blk ((((((((w.alloc (.cells #[.slice Ar s.rooms.length cr, .int .i64 s.days, .slice Am s.moves.length cm, .slice Aw s.wgs.length cw, .map (some m)] 153)).alloc (.cells #[.bool false] 4)).alloc (.map #[] 0)).alloc (.cells #[.map (some (w.heap.size + 1 + 1)), .slice none 0 0] 185)).alloc (.cells #[.pointer (some ⟨w.heap.size + 1 + 1 + 1, 0, none⟩)] 181)).alloc (.map #[] 0)).alloc (.cells #[.map (some (w.heap.size + 1 + 1 + 1 + 1 + 1))] 186)).alloc (.cells #[.slice Ar s.rooms.length cr, .int .i64 s.days, .slice Am s.moves.length cm, .slice Aw s.wgs.length cw, .map (some m)] 153)) (w.heap.size + 1 + 1 + 1 + 1 + 1 + 1) 186 #[.map (some (w.heap.size + 1 + 1 + 1 + 1 + 1))] := ((Blk.new' _ _ _ (by simp)).alloc _)
  have q7 : Blk ((((((((w.alloc (.cells #[.slice Ar s.rooms.length cr, .int .i64 s.days, .slice Am s.moves.length cm, .slice Aw s.wgs.length cw, .map (some m)] 153)).alloc (.cells #[.bool false] 4)).alloc (.map #[] 0)).alloc (.cells #[.map (some (w.heap.size + 1 + 1)), .slice none 0 0] 185)).alloc (.cells #[.pointer (some ⟨w.heap.size + 1 + 1 + 1, 0, none⟩)] 181)).alloc (.map #[] 0)).alloc (.cells #[.map (some (w.heap.size + 1 + 1 + 1 + 1 + 1))] 186)).alloc (.cells #[.slice Ar s.rooms.length cr, .int .i64 s.days, .slice Am s.moves.length cm, .slice Aw s.wgs.length cw, .map (some m)] 153)) (w.heap.size + 1 + 1 + 1 + 1 + 1 + 1 + 1) 153 #[.slice Ar s.rooms.length cr, .int .i64 s.days, .slice Am s.moves.length cm, .slice Aw s.wgs.length cw, .map (some m)] := Blk.new' _ _ _ (by simp)
  have hsz : ((((((((w.alloc (.cells #[.slice Ar s.rooms.length cr, .int .i64 s.days, .slice Am s.moves.length cm, .slice Aw s.wgs.length cw, .map (some m)] 153)).alloc (.cells #[.bool false] 4)).alloc (.map #[] 0)).alloc (.cells #[.map (some (w.heap.size + 1 + 1)), .slice none 0 0] 185)).alloc (.cells #[.pointer (some ⟨w.heap.size + 1 + 1 + 1, 0, none⟩)] 181)).alloc (.map #[] 0)).alloc (.cells #[.map (some (w.heap.size + 1 + 1 + 1 + 1 + 1))] 186)).alloc (.cells #[.slice Ar s.rooms.length cr, .int .i64 s.days, .slice Am s.moves.length cm, .slice Aw s.wgs.length cw, .map (some m)] 153)).heap.size = w.heap.size + 1 + 1 + 1 + 1 + 1 + 1 + 1 + 1 := by simp
  generalize (((((((w.alloc (.cells #[.slice Ar s.rooms.length cr, .int .i64 s.days, .slice Am s.moves.length cm, .slice Aw s.wgs.length cw, .map (some m)] 153)).alloc (.cells #[.bool false] 4)).alloc (.map #[] 0)).alloc (.cells #[.map (some (w.heap.size + 1 + 1)), .slice none 0 0] 185)).alloc (.cells #[.pointer (some ⟨w.heap.size + 1 + 1 + 1, 0, none⟩)] 181)).alloc (.map #[] 0)).alloc (.cells #[.map (some (w.heap.size + 1 + 1 + 1 + 1 + 1))] 186)).alloc (.cells #[.slice Ar s.rooms.length cr, .int .i64 s.days, .slice Am s.moves.length cm, .slice Aw s.wgs.length cw, .map (some m)] 153) = W5 at *
  have hge : w.heap.size + 8 ≤ W5.heap.size := by omega
  have hnet : NetM W5 w.heap.size (w.heap.size + 1 + 1 + 1) (w.heap.size + 1 + 1) [] 0 (rowE []) (.slice none 0 0) [] := ⟨q3, ⟨rfl, .inl ⟨rfl, rfl⟩⟩, rfl, fun i hi => by omega, fun i j b hi => by omega, mb, by omega, by omega⟩
  clear hsz
  have h0 : CanI s Ar Am Aw cr cm cw m st w W5 [] W5 := ⟨Nat.le_refl _, hb8, q0, q1, q4, q6, ⟨[], [], _, _, _, _, LaidP.nil _ _, hnet, mn, fun x => rfl⟩, fun b hb => by cases hb⟩
  have hown : OwnFrom W5.heap.size (fun (pre : List (LbX s.wo)) W => CanI s Ar Am Aw cr cm cw m st w W5 (pre.map (·.1)) W) := fun pre A C row h hg hr => h.grown hg ⟨hr⟩ (by omega)
  have hownx : ∀ c : Code, OwnFrom W5.heap.size (fun (pre : List (LbX s.wo)) W => c = .ret ∧ CanX s st w W5 W) := fun c pre A C row h hg hr => ⟨h.1, h.2.grown hg ⟨hr⟩ (by omega)⟩
  refine (wpIn_wide (n := 5)).1 (wpIn_rangeFunc_ownH (F := Fence.wide) (n := 5) rfl (by omega) (gf := 125) (lb := #[.pointer (some ⟨w.heap.size + 1 + 1 + 1 + 1 + 1 + 1 + 1, 0, none⟩)]) rfl trivial (enters_of Try.func125 (by kernel_rfl) rfl)
    (encs := fun x : LbX s.wo => encL s.wo st x.1) (Kp := KeepsN w.heap.size) (S := fun xs => xs.map (·.1) = labels s.wo) (Sp := fun _ => True) (N := (labels s.wo).length) (w0 := W5)
    (fun l J Jx W hW hJ hJx hY h0 => (pipes1_in 4 s Ar Am Aw cr cm cw m F st hw HDs.out hF l _ J Jx W w.heap.size (by have := hW.size; omega) (hs.low (KeepsN.below (ex_trans hb8 hW)) (Nat.le_refl _)) (hm.below (ex_trans hb8 hW)) hm.lt hJ hJx (q7.below hW q7.lt) hY h0).mono
      (fun e W' hp => ⟨hp.1, hp.2.imp id (fun ⟨pre, hpre⟩ => ⟨pre, trivial, hpre⟩)⟩))
    (fun h k => h.trans k) (fun W l o o' hl ho hc _ => KeepsN.putObj (by omega) ho hc) (Below.refl _ _) (fun _ => rfl)
    (fun (pre : List (LbX s.wo)) W => CanI s Ar Am Aw cr cm cw m st w W5 (pre.map (·.1)) W) (fun c _ W => c = .ret ∧ CanX s st w W5 W) hown hownx h0
    (fun (x : LbX s.wo) a' W => ∃ Bx, W5.heap.size ≤ Bx ∧ Blk W Bx 191 (encF s.wo st x.1) ∧ ∃ u : Nat → Value, a' = ⟨List.toArray (.agg #[.slice Ar s.rooms.length cr, .int .i64 s.days, .slice Am s.moves.length cm, .slice Aw s.wgs.length cw, .map (some m)] :: .pointer (some ⟨w.heap.size, 0, none⟩) :: .pointer (some ⟨w.heap.size + 1, 0, none⟩) :: .pointer (some ⟨w.heap.size + 1 + 1 + 1 + 1, 0, none⟩) :: .pointer (some ⟨w.heap.size + 1 + 1 + 1 + 1 + 1 + 1, 0, none⟩) :: .pointer (some ⟨Bx, 0, none⟩) :: u 6 :: u 7 :: u 8 :: u 9 :: u 10 :: u 11 :: u 12 :: u 13 :: u 14 :: u 15 :: u 16 :: u 17 :: u 18 :: u 19 :: u 20 :: u 21 :: u 22 :: u 23 :: u 24 :: u 25 :: u 26 :: u 27 :: u 28 :: u 29 :: u 30 :: u 31 :: u 32 :: u 33 :: u 34 :: u 35 :: u 36 :: u 37 :: u 38 :: u 39 :: u 40 :: u 41 :: u 42 :: u 43 :: u 44 :: u 45 :: u 46 :: u 47 :: u 48 :: u 49 :: u 50 :: u 51 :: u 52 :: u 53 :: u 54 :: u 55 :: u 56 :: u 57 :: u 58 :: u 59 :: u 60 :: u 61 :: u 62 :: u 63 :: u 64 :: u 65 :: u 66 :: u 67 :: u 68 :: u 69 :: u 70 :: u 71 :: u 72 :: u 73 :: u 74 :: u 75 :: u 76 :: u 77 :: u 78 :: u 79 :: u 80 :: u 81 :: u 82 :: u 83 :: u 84 :: u 85 :: u 86 :: u 87 :: u 88 :: u 89 :: u 90 :: u 91 :: u 92 :: u 93 :: u 94 :: u 95 :: u 96 :: u 97 :: u 98 :: u 99 :: u 100 :: u 101 :: u 102 :: u 103 :: u 104 :: u 105 :: u 106 :: u 107 :: u 108 :: u 109 :: u 110 :: u 111 :: u 112 :: u 113 :: u 114 :: u 115 :: u 116 :: u 117 :: u 118 :: u 119 :: u 120 :: u 121 :: u 122 :: u 123 :: u 124 :: u 125 :: u 126 :: []), []⟩)
    ?hAx ?assign ?body ?done ?stop)
  case hAx => rintro x a' _ A C row ⟨Bx, h1, h2, u, h3⟩ hgr hr; exact ⟨Bx, h1, h2.grownR hgr ⟨hr⟩, u, h3⟩
  case assign =>
    rintro l pre x W K hi hK
    unfold encL
    gi_wp2
    exact hK _ _ ((KeepsOthers.alloc W _).from _) (KeepsN.below (ex_alloc (Below.refl _ _) _)) (hown.alloc _ hi) ⟨W.heap.size, hi.size, Blk.new W _ _, exFrame (by kernel_rfl)⟩
  case stop =>
    rintro D c pre W hD _ ⟨rfl, hx⟩ hDd
    have hf : ¬ CanSt s.wo st := fun hc => by
      obtain ⟨f, hf, _⟩ := (canSt_iff s.wo hw.moves st).1 hc
      obtain ⟨b, hb, hlt⟩ := hx.bad
      have := hf b hb
      unfold inR at this
      omega
    gi_wp2
    show LeavesInM _ _ _ _ _ _ _ _ _
    refine leaves_marks w.heap.size _ _ ⟨D, rfl, hDd, by simp, trivial⟩ (fun d hd D' hD' => ?_) (fun W' hW' => ⟨_, results_cell_one rfl _ _ (w.heap.size + 1) (.bool false) _ rfl (Blk.cell (hW'.same _ _ hx.res (fun x e => by cases e)) 0) rfl rfl, by rw [truB_false hf], hW'.below hx.bel⟩)
    rcases List.mem_singleton.1 hd with rfl
    injection hD' with hD'
    omega
  case body =>
    rintro l' pre x a' W hl' ⟨r', hr'⟩ hi ⟨Bx, hBx, bX, u, rfl⟩ hlen
    clear hr' hown hownx
    obtain ⟨b, hb⟩ := x
    obtain ⟨hsz1, hbel, qy, res, pn, pm, ⟨sp, es, nd, vo, vals, N, hL, hN, hM, hNd⟩, hop⟩ := hi
    obtain ⟨U, hU⟩ : ∃ x, Lb.U s.wo b = x := ⟨_, rfl⟩
    obtain ⟨V, hV⟩ : ∃ x, Lb.V s.wo b = x := ⟨_, rfl⟩
    obtain ⟨lo, hlo⟩ : ∃ x, (Lb.R s.wo st b).lo = x := ⟨_, rfl⟩
    obtain ⟨hh, hhh⟩ : ∃ x, (Lb.R s.wo st b).hi = x := ⟨_, rfl⟩
    change Blk W Bx 191 (encF s.wo st b) at bX
    unfold encF at bX
    rw [hU, hV, hlo, hhh] at bX
    have HU := Lib.hid hU
    have HV := Lib.hid hV
    have HLo := Lib.hid hlo
    have HHi := Lib.hid hhh
    clear hU hV hlo hhh
    have x0 : W.cell? ⟨Bx, 0, none⟩ = some (.int .i64 U.1) := bX.cell 0
    have x1 : W.cell? ⟨Bx, 1, none⟩ = some (.int .i64 U.2) := bX.cell 1
    have x2 : W.cell? ⟨Bx, 2, none⟩ = some (.int .i64 V.1) := bX.cell 2
    have x3 : W.cell? ⟨Bx, 3, none⟩ = some (.int .i64 V.2) := bX.cell 3
    have x4 : W.cell? ⟨Bx, 4, none⟩ = some (.int .i64 lo) := bX.cell 4
    have x5 : W.cell? ⟨Bx, 5, none⟩ = some (.int .i64 hh) := bX.cell 5
    have lx := bX.lt
    have r0 : W.cell? ⟨w.heap.size + 1, 0, none⟩ = some (.bool false) := res.cell 0
    have lr := res.lt
    by_cases hlh : lo ≤ hh
    · have kB := bX.kept (by unfold NetTy; decide)
      have kP := pn.kept (by unfold NetTy; decide)
      have p3c : W.cell? ⟨w.heap.size + 1 + 1 + 1 + 1, 0, none⟩ = some (.pointer (some ⟨w.heap.size + 1 + 1 + 1, 0, none⟩)) := pn.cell 0
      have lp := pn.lt
      gi_wp2_with fail
      refine wpIn_region_kx_mix w.heap.size 9 [(false, 0), (false, 1), (false, 2), (false, 4), (false, 5), (false, 6), (true, 3), (true, 7), (false, 8)] (by kernel_rfl) (by kernel_rfl) (by kernel_rfl) (by rintro ⟨_, _, hf⟩; exact hf) (by intro d _ _ _ _ h; cases d <;> exact h) ?_
      repeat (refine mix_quiet rfl ?_; go_big_quiet_step (fail); refine wpQuiet_nil ?_)
      refine mix_loud rfl ?_
      go_wp2_with fail
      have hUV := used_uv hw.moves hb
      rw [HU.out, HV.out] at hUV
      have HUV := Lib.hid hUV
      clear hUV
      have D1 := (Below.refl W.heap.size W).drew
      have hN1 := hN.below D1
      refine (node_any w.heap.size (w.heap.size + 1 + 1 + 1) (w.heap.size + 1 + 1) sp (rowE es) vo vals U W.drew hN1 (by have := hL.len hw; omega) (fun i hi => hL.row_nil hi)).mono ?_
      rintro e W6 ⟨rfl, vo6, vals6, hN6, hF6⟩
      have k6 := (KeepsN.below (B := w.heap.size) D1).trans (hF6.keepsN hN1.noCells)
      have hL6 := hL.addS HUV.out.1
      go_wp2_with fail
      refine ⟨inKx k6, ?_⟩
      repeat (refine mix_quiet rfl ?_; go_big_quiet_step (fail); refine wpQuiet_nil ?_)
      refine mix_loud rfl ?_
      go_wp2_with fail
      refine (node_any w.heap.size (w.heap.size + 1 + 1 + 1) (w.heap.size + 1 + 1) (addS sp U) (rowE es) vo6 vals6 V W6 hN6 (by have := hL6.len hw; omega) (fun i hi => hL6.row_nil hi)).mono ?_
      rintro e W7 ⟨rfl, vo7, vals7, hN7, hF7⟩
      have k7 := k6.trans (hF7.keepsN hN6.noCells)
      have hL7 := hL6.addS HUV.out.2
      go_wp2_with fail
      refine ⟨inKx k7, ?_⟩
      repeat (refine mix_quiet rfl ?_; go_big_quiet_step (fail); refine wpQuiet_nil ?_)
      refine mix_nil (r := [_]) rfl ?_
      have bX7 := bX.kn k7 (by unfold NetTy; decide)
      have pn7 := pn.kn k7 (by unfold NetTy; decide)
      have pm7 := pm.kn k7 (by unfold NetTy; decide)
      have res7 := res.kn k7 (by unfold NetTy; decide)
      have qy7 := qy.kn k7 (by unfold NetTy; decide)
      clear x0 x1 x2 x3 x4 x5 r0 p3c kB kP
      have x0 : W7.cell? ⟨Bx, 0, none⟩ = some (.int .i64 U.1) := bX7.cell 0
      have x1 : W7.cell? ⟨Bx, 1, none⟩ = some (.int .i64 U.2) := bX7.cell 1
      have x2 : W7.cell? ⟨Bx, 2, none⟩ = some (.int .i64 V.1) := bX7.cell 2
      have x3 : W7.cell? ⟨Bx, 3, none⟩ = some (.int .i64 V.2) := bX7.cell 3
      have x4 : W7.cell? ⟨Bx, 4, none⟩ = some (.int .i64 lo) := bX7.cell 4
      have x5 : W7.cell? ⟨Bx, 5, none⟩ = some (.int .i64 hh) := bX7.cell 5
      have p3c : W7.cell? ⟨w.heap.size + 1 + 1 + 1 + 1, 0, none⟩ = some (.pointer (some ⟨w.heap.size + 1 + 1 + 1, 0, none⟩)) := pn7.cell 0
      have p4c : W7.cell? ⟨w.heap.size + 1 + 1 + 1 + 1 + 1 + 1, 0, none⟩ = some (.map (some (w.heap.size + 1 + 1 + 1 + 1 + 1))) := pm7.cell 0
      have lx7 := bX7.lt
      have lp7 := pn7.lt
      have lm7 := pm7.lt
      go_wp2_with fail
      have hbd := lb_bd hw hst hb
      rw [HLo.out, HHi.out] at hbd
      have hne : U ≠ V := by have := uv_ne hw.moves hb; rwa [HU.out, HV.out] at this
      obtain ⟨sp2, hsp2⟩ : ∃ x, addS (addS sp U) V = x := ⟨_, rfl⟩
      have hmU : U ∈ sp2 := by rw [← hsp2]; exact mem_addS.2 (.inl (mem_addS.2 (.inr rfl)))
      have hmV : V ∈ sp2 := by rw [← hsp2]; exact mem_addS.2 (.inr rfl)
      have hiU : (addS sp U).idxOf U = sp2.idxOf U := by
        rw [← hsp2]
        by_cases h : V ∈ addS sp U
        · rw [addS_in h]
        · rw [addS_out h, idx_app _ (mem_addS.2 (.inr rfl))]
      rw [hsp2] at hN7 hL7 ⊢
      rw [hiU]
      clear hsp2 hiU hN6 hL6 hL hN
      obtain ⟨iu, hiu⟩ : ∃ x, sp2.idxOf U = x := ⟨_, rfl⟩
      obtain ⟨iv, hiv⟩ : ∃ x, sp2.idxOf V = x := ⟨_, rfl⟩
      have hlu : iu < sp2.length := hiu ▸ List.idxOf_lt_length_of_mem hmU
      have hlv : iv < sp2.length := hiv ▸ List.idxOf_lt_length_of_mem hmV
      rw [hiu, hiv]
      have HIU := Lib.hid hiu
      have HIV := Lib.hid hiv
      clear hiu hiv
      have hel : es.length ≤ 1000 := by
        have h1 := len_labels hw
        rw [hL7.es, List.length_map, List.length_map]
        omega
      gi_wp2_with fail
      refine ⟨trivial, CallsIn.inRound l' (callsIn_wide.2 ((join_any w.heap.size (w.heap.size + 1 + 1 + 1) (w.heap.size + 1 + 1) sp2.length sp2 (rowE es) vo7 vals7 iu iv (hh - lo) W7 hN7 hlu hlv (by rw [← HIU.out, ← HIV.out]; exact idx_ne hmU hmV hne) (fun i _ => by rw [rowE_len]; exact Nat.le_trans (cntE_le _ _) hel)).mono ?_))⟩
      rintro e W8 ⟨rfl, vals8, hN8, hF8⟩
      have k8 := k7.trans (hF8.keepsN hN7.noCells)
      have hM8 := (((hM.below D1).nf hF6 (by omega)).nf hF7 (by omega)).nf hF8 (by omega)
      have bX8 := bX.kn k8 (by unfold NetTy; decide)
      have pm8 := pm.kn k8 (by unfold NetTy; decide)
      have lm8 := pm8.lt
      have lx8 := bX8.lt
      clear x0 x1 x2 x3 x4 x5 p3c p4c bX7 pm7 lx7 lm7 lp7
      have x4 : W8.cell? ⟨Bx, 4, none⟩ = some (.int .i64 lo) := bX8.cell 4
      have p4c : W8.cell? ⟨w.heap.size + 1 + 1 + 1 + 1 + 1 + 1, 0, none⟩ = some (.map (some (w.heap.size + 1 + 1 + 1 + 1 + 1))) := pm8.cell 0
      have hniuv : iu ≠ iv := by rw [← HIU.out, ← HIV.out]; exact idx_ne hmU hmV hne
      have hg1 := hM8.getI (iv : Int)
      rw [hNd iv] at hg1
      obtain ⟨ob1, hup1, hM9⟩ := MpIs.put (et := 3) Try.underlying186 keyI_ok hM8 (iv : Int) (nd iv + lo)
      have hg2 := hM9.getI (iu : Int)
      rw [if_neg (by omega), hNd iu] at hg2
      obtain ⟨ob2, hup2, hM10⟩ := MpIs.put (et := 3) Try.underlying186 keyI_ok hM9 (iu : Int) (nd iu - lo)
      unfold keyI at hup1 hup2
      have HNd := Lib.hid hNd
      clear hNd
      have hbv := hL7.nd_bd (fun c hc => by have := lb_bd hw hst (b := c) (by obtain ⟨x, _, rfl⟩ := List.mem_map.1 hc; exact x.2); exact ⟨this.1, this.2.1⟩) (by rw [List.length_map]; have := len_labels hw; omega)
      have hbv1 := hbv iv
      have hbv2 := hbv iu
      clear hbv
      have g9 := grownBy_putObj' W8 (w.heap.size + 1 + 1 + 1 + 1 + 1) ob1
      have r9 := rowPut hM8
      have N9 := hN8.grown g9 r9 (by omega)
      have bX9 := bX8.grownR g9 r9
      have pm9 := pm8.grownR g9 r9
      have bel9 := below_grownR (hF8.toBelow (hF7.toBelow (hF6.toBelow (ex_trans hbel D1) (Nat.le_refl _) (by have := (ex_trans hbel D1).size; omega)) (Nat.le_refl _) (by have := hF6.size; have := (ex_trans hbel D1).size; omega)) (Nat.le_refl _) (by have := hF7.size; have := hF6.size; have := (ex_trans hbel D1).size; omega)) g9 r9 (by omega)
      have k9 := k8.trans (hM8.putN (B := w.heap.size) (o' := ob1) (by omega))
      have z9 : W8.heap.size ≤ (W8.putObj (w.heap.size + 1 + 1 + 1 + 1 + 1) ob1).heap.size := g9.size
      generalize W8.putObj (w.heap.size + 1 + 1 + 1 + 1 + 1) ob1 = W9 at *
      have x49 : W9.cell? ⟨Bx, 4, none⟩ = some (.int .i64 lo) := bX9.cell 4
      have p4c9 : W9.cell? ⟨w.heap.size + 1 + 1 + 1 + 1 + 1 + 1, 0, none⟩ = some (.map (some (w.heap.size + 1 + 1 + 1 + 1 + 1))) := pm9.cell 0
      have lm9 := pm9.lt
      have lx9 := bX9.lt
      have g10 := grownBy_putObj' W9 (w.heap.size + 1 + 1 + 1 + 1 + 1) ob2
      have r10 := rowPut hM9
      have N10 := N9.grown g10 r10 (by omega)
      have bel10 := below_grownR bel9 g10 r10 (by omega)
      have k10 := k9.trans (hM9.putN (B := w.heap.size) (o' := ob2) (by omega))
      generalize W9.putObj (w.heap.size + 1 + 1 + 1 + 1 + 1) ob2 = W10 at *
      gi_wp2_with fail
      have f10 : KeepsFrom W5.heap.size W W10 := (((((KeepsFrom.of_grownBy (grown_of_below D1) (by intro j hj; cases hj)).trans (hF6.from (by omega))).trans (hF7.from (by omega))).trans (hF8.from (by omega))).trans (KeepsFrom.of_grownBy g9 (by intro j hj; injection hj with hj; omega))).trans (KeepsFrom.of_grownBy g10 (by intro j hj; injection hj with hj; omega))
      have he : edL s.wo st sp2 b = edOf iu iv (hh - lo) := by unfold edL; rw [HU.out, HV.out, HLo.out, HHi.out, HIU.out, HIV.out]
      have hL10 := hL7.step (b := b) (nd' := fun x => nd x + inn iu iv lo x) (by rw [HU.out]; exact hmU) (by rw [HV.out]; exact hmV) (fun x => by rw [HU.out, HV.out, HLo.out, HIU.out, HIV.out])
      rw [he] at hL10
      rw [rowE_join] at N10
      refine ⟨f10, k10, Nat.le_trans hsz1 f10.size, bel10, qy.kn k10 (by unfold NetTy; decide), res.kn k10 (by unfold NetTy; decide), pn.kn k10 (by unfold NetTy; decide), pm.kn k10 (by unfold NetTy; decide), ⟨sp2, _, _, _, _, _, by rw [List.map_append]; exact hL10, N10, hM10, fun x => ?_⟩, fun c hc => ?_⟩
      · have := HNd.out x
        unfold inn
        by_cases h1 : iu = x
        · subst h1
          rw [if_pos rfl, if_neg (by omega), if_pos rfl]
          simp only [Option.getD_some]
          omega
        · by_cases h2 : iv = x
          · subst h2
            rw [if_neg (by omega), if_pos rfl, if_pos rfl, if_neg h1]
            simp only [Option.getD_some]
            omega
          · rw [if_neg (by omega), if_neg (by omega), if_neg h2, if_neg h1]
            omega
      · rw [List.map_append, List.mem_append] at hc
        rcases hc with hc | hc
        · exact hop c hc
        · rcases List.mem_singleton.1 hc with rfl
          rw [HLo.out, HHi.out]; exact hlh
    · have hgt : hh < lo := by omega
      have rz := res.frozen0
      have B9 := ex_set hbel (p := ⟨w.heap.size + 1, 0, none⟩) (by show w.heap.size ≤ w.heap.size + 1; omega) (.bool false)
      have qr := res.set_ 0 (.bool false)
      simp only [List.setIfInBounds_toArray, List.set_cons_zero] at qr
      gi_wp2_with fail
      exact ⟨⟨by simp, fun k o hk ho hc => (Below.heap_setCell _ _ _ k (by show k ≠ w.heap.size + 1; omega)).trans ho⟩, rfl, ⟨by simpa using hsz1, B9, qr, b, hb, by rw [HLo.out, HHi.out]; exact hgt⟩⟩
  case done =>
    rintro D xs W hD hxs hi hDd
    rw [hxs] at hi
    clear hown hownx h0 hnet hb8 q0 q1 mb q3 q4 mn q6 q7 hmk
    obtain ⟨hsz1, hbel, qy, res, pn, pm, ⟨sp, es, nd, vo, vals, N, hL, hN, hM, hNd⟩, hop⟩ := hi
    obtain ⟨hps, hcan, hes, hnd⟩ := hL.can hw.moves hw.len.1
    have hl19 := hL.len hw
    obtain ⟨M, hM0⟩ : ∃ x, sp.length = x := ⟨_, rfl⟩
    obtain ⟨ps, hps0⟩ : ∃ x, (labels s.wo).map (ppL s.wo st sp) = x := ⟨_, rfl⟩
    rw [hM0] at hN hl19 hps hcan
    rw [hps0] at hps hcan hes hnd
    have hrn : ∀ i, M ≤ i → rowE es i = [] := fun i hi => hL.row_nil (by rw [hM0]; exact hi)
    have hlb := len_labels hw
    have hpl : ps.length = (labels s.wo).length := by rw [← hps0, List.length_map]
    have hbd : ∀ p ∈ ps, 0 ≤ p.lo ∧ p.lo ≤ p.hi ∧ p.hi ≤ 1048576 := fun p hp => by
      rw [← hps0] at hp
      obtain ⟨b, hb, rfl⟩ := List.mem_map.1 hp
      have h1 := lb_bd hw hst hb
      have h2 := hop b hb
      exact ⟨h1.1, h2, h1.2.2.2⟩
    have hnb := hL.nd_bd (fun c hc => by have := lb_bd hw hst hc; exact ⟨this.1, this.2.1⟩) hlb
    clear hL hM0 hps0 hop
    obtain ⟨Ao, co, rfl⟩ := own_form hN.out
    have hvl := hN.len
    rw [hvl] at hN
    have HVL := Lib.hid hvl
    clear hvl
    have HPL := Lib.hid hpl
    have HES := Lib.hid hes
    have HND := Lib.hid hnd
    have HNd := Lib.hid hNd
    clear hpl hes hnd hNd
    obtain ⟨row, hrow⟩ : ∃ x, (Value.slice Ao M co).ownBlock = x := ⟨_, rfl⟩
    have ho0 := hN.out
    rw [HVL.out] at ho0
    have nq : ¬ some (w.heap.size + 1 + 1 + 1) = row := by rw [← hrow]; exact fun e => own_blkne ho0 hN.blk (by decide) e.symm
    have np : ¬ some (w.heap.size + 1 + 1 + 1 + 1) = row := by rw [← hrow]; exact fun e => own_blkne ho0 pn (by decide) e.symm
    have HROW := Lib.hid hrow
    clear hrow
    have p3c : W.cell? ⟨w.heap.size + 1 + 1 + 1 + 1, 0, none⟩ = some (.pointer (some ⟨w.heap.size + 1 + 1 + 1, 0, none⟩)) := pn.cell 0
    have c1 : W.cell? ⟨w.heap.size + 1 + 1 + 1, 1, none⟩ = some (.slice Ao M co) := hN.blk.cell 1
    have lp := pn.lt
    have lq := hN.blk.lt
    obtain ⟨i1, hi1, hy0, hy1, hy2⟩ := info_parts arcs_info
    have c63 : M + 2 ≤ maxLen := by unfold maxLen; omega
    have cby : (M + 2) * 24 ≤ 140737488355328 := by omega
    go_wp2_with fail
    refine wp_region_gx_mix row 9 [(false, 0), (false, 1), (false, 2), (false, 3), (false, 4), (true, 5), (true, 6), (false, 7), (false, 8)] (by kernel_rfl) (by kernel_rfl) (by intro d _ _ _ _ h; cases d <;> exact h) ?_
    repeat (refine mix_quiet rfl ?_; go_big_quiet_step (fail); refine wpQuiet_nil ?_)
    have X5 := (ex_alloc (Below.refl W.heap.size W) (.cells #[.slice none 0 0, .slice none 0 0] 205)).drew
    refine mix_loud rfl ?_
    go_wp2_with fail
    refine ⟨inGx (grown_row X5), ?_⟩
    repeat (refine mix_quiet rfl ?_; go_big_quiet_step (fail); refine wpQuiet_nil ?_)
    have hn5 := hN.below X5
    have ho5 := own_below ho0 X5
    have hbase : w.heap.size ≤ (W.alloc (.cells #[.slice none 0 0, .slice none 0 0] 205)).drew.heap.size := by have := X5.size; omega
    refine mix_loud rfl ?_
    go_wp2_with (at_builtin; refine wpList_append_lies _ rfl _ _ _ rfl w.heap.size 205 i1 _ 1 24 Try.underlying183 hi1 hy0 hy1 hy2 rfl (by omega) (.slice Ao M co) _ _ rfl ho5 ⟨W.heap.size, 0, none⟩ 2 2 [.slice none 0 0, .slice none 0 0] rfl rfl (World.news_of_block (heap_alloc_new W _)) (by simp [Value.oneCell']) (by omega) c63 cby hbase (W.heap.size + 1) (by simp) ?_; intro gg cap w1 hown' hgrow hat hlt')
    have hgB := (grown_row (r := row) X5).andThen (by rw [← HROW.out]; exact hgrow) (fun j hj => .inr hj)
    refine ⟨inGx hgB, ?_⟩
    repeat (refine mix_quiet rfl ?_; go_big_quiet_step (fail); refine wpQuiet_nil ?_)
    refine mix_nil rfl ?_
    obtain ⟨hn6, hf6⟩ := hn5.node2 (hrn M (Nat.le_refl _)) (hrn (M + 1) (by omega)) (vo' := (Value.slice (some ⟨gg, 0, none⟩) (M + 2) cap)) hgrow (by rw [HVL.out]; exact hown') (fun b hb => by
      have : gg = b := by simpa [Value.ownBlock] using hb
      subst this
      exact hat.imp id (fun e => by simp; omega))
    have hf7 : NetFr w.heap.size (w.heap.size + 1 + 1) W _ := (NetFr.below X5).trans hf6
    have qb := hn5.blk.grown hgrow (fun e => own_blkne ho5 hn5.blk (by decide) e.symm)
    have z1 : w1.cell? ⟨w.heap.size + 1 + 1 + 1, 1, none⟩ = some (.slice Ao M co) := qb.cell 1
    have z2 := qb.frozen 1
    have z3 := qb.lt
    have HN6 := Lib.hid hn6
    have HF7 := Lib.hid hf7
    clear hn6 hf6 hf7 hown' hgrow hgB hat hlt' hn5 ho5 X5 hbase c63 cby p3c c1 nq np HROW ho0
    go_wp2_with fail
    have hn6 := HN6.out
    have hf7 := HF7.out
    clear HN6 HF7 z1 z2 z3 qb
    generalize w1.setCell ⟨w.heap.size + 1 + 1 + 1, 1, none⟩ (Value.slice (some ⟨gg, 0, none⟩) (M + 2) cap) = V6 at *
    have hcl : CanL w D N V6 := (CanL.mk hbel res pn pm hM hDd (by omega)).nf hf7 (by omega)
    clear qy res pn pm hM hDd hf7 hN
    have p3c := hcl.pn.cell 0
    have lp := hcl.pn.lt
    have c1 : V6.cell? ⟨w.heap.size + 1 + 1 + 1, 1, none⟩ = some (Value.slice (some ⟨gg, 0, none⟩) (M + 2) cap) := hn6.blk.cell 1
    have lq := hn6.blk.lt
    simp only [List.getElem?_toArray, List.getElem?_cons_zero] at p3c
    refine wp_region_ext_mix 14 [(false, 0), (false, 1), (false, 2), (false, 3), (false, 4), (false, 5), (false, 6), (false, 7), (false, 8), (false, 9), (false, 10), (false, 11), (false, 12), (false, 13)] (by kernel_rfl) (by kernel_rfl) (by intro d _ _ _ _ h; cases d <;> exact h) ?_
    have D0 := (Below.refl V6.heap.size V6).drew
    repeat (refine mix_quiet rfl ?_; go_big_quiet_step (fail); refine wpQuiet_nil ?_)
    refine mix_nil rfl ?_
    go_wp2_with fail
    have hn7 := hn6.below D0
    have hc7 := hcl.nf (NetFr.below D0) (by omega)
    clear hn6 hcl p3c lp c1 lq D0
    generalize V6.drew = V7 at *
    have HRN := Lib.hid hrn
    have HNB := Lib.hid hnb
    have HBD := Lib.hid hbd
    have HPS := Lib.hid hps
    have HCAN := Lib.hid hcan
    clear hrn hnb hbd hps hcan
    rw [show (M : Int) + 2 - 1 = (M : Int) + 1 by omega]
    refine wp_loop (fun a V => Rel (fun a V => ∃ k : Nat, k ≤ M ∧ CanL w D N V ∧ (∃ vals, NetM V w.heap.size (w.heap.size + 1 + 1 + 1) (w.heap.size + 1 + 1) sp (M + 2) (rowE (es ++ supEd M nd k)) (.slice (some ⟨gg, 0, none⟩) (M + 2) cap) vals) ∧ ∃ u : Nat → Value, a = ⟨List.toArray (u 0 :: u 1 :: .pointer (some ⟨w.heap.size + 1, 0, none⟩) :: .pointer (some ⟨w.heap.size + 1 + 1 + 1 + 1, 0, none⟩) :: .pointer (some ⟨w.heap.size + 1 + 1 + 1 + 1 + 1 + 1, 0, none⟩) :: u 5 :: u 6 :: u 7 :: .int .i64 (M : Int) :: .int .i64 ((M : Int) + 1) :: .int .i64 (total k nd) :: u 11 :: u 12 :: u 13 :: u 14 :: u 15 :: u 16 :: u 17 :: u 18 :: u 19 :: u 20 :: u 21 :: u 22 :: u 23 :: u 24 :: u 25 :: u 26 :: u 27 :: u 28 :: u 29 :: u 30 :: u 31 :: u 32 :: u 33 :: u 34 :: u 35 :: u 36 :: u 37 :: u 38 :: u 39 :: u 40 :: u 41 :: u 42 :: u 43 :: u 44 :: u 45 :: u 46 :: u 47 :: u 48 :: u 49 :: u 50 :: u 51 :: u 52 :: u 53 :: u 54 :: u 55 :: u 56 :: u 57 :: u 58 :: u 59 :: u 60 :: u 61 :: u 62 :: u 63 :: u 64 :: u 65 :: u 66 :: u 67 :: u 68 :: u 69 :: u 70 :: u 71 :: u 72 :: u 73 :: u 74 :: u 75 :: u 76 :: u 77 :: u 78 :: u 79 :: u 80 :: .int .i64 (M : Int) :: .int .i64 (k : Int) :: u 83 :: u 84 :: u 85 :: u 86 :: u 87 :: u 88 :: u 89 :: u 90 :: u 91 :: u 92 :: u 93 :: u 94 :: u 95 :: u 96 :: u 97 :: u 98 :: u 99 :: u 100 :: u 101 :: u 102 :: u 103 :: u 104 :: u 105 :: u 106 :: u 107 :: u 108 :: u 109 :: u 110 :: u 111 :: u 112 :: u 113 :: u 114 :: u 115 :: u 116 :: u 117 :: u 118 :: u 119 :: u 120 :: u 121 :: u 122 :: u 123 :: u 124 :: u 125 :: u 126 :: []), [{ target := .collected D, args := #[] }]⟩) a V) (fun a _ => M - (intOf (a.tmps.getD 82 undef)).toNat) ⟨⟨0, by omega, hc7, ⟨_, by rw [supEd_zero, List.append_nil]; exact hn7⟩, exFrame (by kernel_rfl)⟩⟩ ?_
    clear hc7 hn7 V7
    rintro a V ⟨⟨k, hk, hcl, ⟨vals, hn⟩, u, rfl⟩⟩
    have p3c : V.cell? ⟨w.heap.size + 1 + 1 + 1 + 1, 0, none⟩ = some (.pointer (some ⟨w.heap.size + 1 + 1 + 1, 0, none⟩)) := hcl.pn.cell 0
    have p4c : V.cell? ⟨w.heap.size + 1 + 1 + 1 + 1 + 1 + 1, 0, none⟩ = some (.map (some (w.heap.size + 1 + 1 + 1 + 1 + 1))) := hcl.pm.cell 0
    have lp := hcl.pn.lt
    have lm := hcl.pm.lt
    have hbk := HNB.out k
    have htb := total_bd (C := 62914560) (by omega) (fun x => (HNB.out x).2) k
    have hks : ((k : Nat) : Int) ≤ 19 := by omega
    have htk : 0 ≤ total k nd ∧ total k nd ≤ 1195376640 := ⟨htb.1, by omega⟩
    clear htb
    have hlen : ∀ i, i < M + 2 → (rowE (es ++ supEd M nd k) i).length ≤ 1000 := fun i _ => by
      rw [rowE_len]
      refine Nat.le_trans (cntE_le _ _) ?_
      have h1 := supEd_len M nd k
      rw [List.length_append, HES.out, List.length_map, HPL.out]
      omega
    by_cases hlt : k < M
    · have hg1 := hcl.map.getI (k : Int)
      rw [HNd.out k] at hg1
      by_cases h1 : 0 < nd k
      · go_wp2_with fail
        have hj := join_any w.heap.size (w.heap.size + 1 + 1 + 1) (w.heap.size + 1 + 1) (M + 2) sp (rowE (es ++ supEd M nd k)) (.slice (some ⟨gg, 0, none⟩) (M + 2) cap) vals M k (nd k) V hn (by omega) (by omega) (by omega) hlen
        refine hj.mono ?_
        clear hj
        rintro e V2 ⟨rfl, vals2, hn2, hf2⟩
        rw [rowE_join] at hn2
        have hc2 := hcl.nf hf2 (by omega)
        have p3c2 : V2.cell? ⟨w.heap.size + 1 + 1 + 1 + 1, 0, none⟩ = some (.pointer (some ⟨w.heap.size + 1 + 1 + 1, 0, none⟩)) := hc2.pn.cell 0
        have p4c2 : V2.cell? ⟨w.heap.size + 1 + 1 + 1 + 1 + 1 + 1, 0, none⟩ = some (.map (some (w.heap.size + 1 + 1 + 1 + 1 + 1))) := hc2.pm.cell 0
        have lp2 := hc2.pn.lt
        have lm2 := hc2.pm.lt
        have hg2 := hc2.map.getI (k : Int)
        rw [HNd.out k] at hg2
        have HN2 := Lib.hid hn2
        clear hn2 hn hcl hg1 p3c p4c
        go_wp2_with fail
        have ht := total_succ nd k
        rw [if_pos h1] at ht
        refine ⟨⟨⟨k + 1, by omega, hc2, ⟨vals2, by rw [supEd_pos h1, ← List.append_assoc]; exact HN2.out⟩, exFrame (by rw [ht]; kernel_rfl)⟩⟩, ?_⟩
        show M - (intOf (.int .i64 ((k : Int) + 1))).toNat < M - (intOf (.int .i64 (k : Int))).toNat
        simp [intOf]
        omega
      · by_cases h2 : nd k < 0
        · go_wp2_with fail
          have hj := join_any w.heap.size (w.heap.size + 1 + 1 + 1) (w.heap.size + 1 + 1) (M + 2) sp (rowE (es ++ supEd M nd k)) (.slice (some ⟨gg, 0, none⟩) (M + 2) cap) vals k (M + 1) (-nd k) V hn (by omega) (by omega) (by omega) hlen
          rw [show ((M + 1 : Nat) : Int) = (M : Int) + 1 from rfl] at hj
          refine hj.mono ?_
          clear hj
          rintro e V2 ⟨rfl, vals2, hn2, hf2⟩
          rw [rowE_join] at hn2
          have hc2 := hcl.nf hf2 (by omega)
          have p3c2 : V2.cell? ⟨w.heap.size + 1 + 1 + 1 + 1, 0, none⟩ = some (.pointer (some ⟨w.heap.size + 1 + 1 + 1, 0, none⟩)) := hc2.pn.cell 0
          have p4c2 : V2.cell? ⟨w.heap.size + 1 + 1 + 1 + 1 + 1 + 1, 0, none⟩ = some (.map (some (w.heap.size + 1 + 1 + 1 + 1 + 1))) := hc2.pm.cell 0
          have lp2 := hc2.pn.lt
          have lm2 := hc2.pm.lt
          have hg2 := hc2.map.getI (k : Int)
          rw [HNd.out k] at hg2
          have HN2 := Lib.hid hn2
          clear hn2 hn hcl hg1 p3c p4c
          go_wp2_with fail
          have ht := total_succ nd k
          rw [if_neg (show ¬ nd k > 0 by omega), Int.add_zero] at ht
          refine ⟨⟨⟨k + 1, by omega, hc2, ⟨vals2, by rw [supEd_neg h2, ← List.append_assoc]; exact HN2.out⟩, exFrame (by rw [ht]; kernel_rfl)⟩⟩, ?_⟩
          show M - (intOf (.int .i64 ((k : Int) + 1))).toNat < M - (intOf (.int .i64 (k : Int))).toNat
          simp [intOf]
          omega
        · have h3 : nd k = 0 := by omega
          have H3 := Lib.hid h3
          clear h3
          go_wp2_with fail
          have ht := total_succ nd k
          rw [if_neg (show ¬ nd k > 0 by omega), Int.add_zero] at ht
          refine ⟨⟨⟨k + 1, by omega, hcl, ⟨vals, by rw [supEd_nil H3.out]; exact hn⟩, exFrame (by rw [ht]; kernel_rfl)⟩⟩, ?_⟩
          show M - (intOf (.int .i64 ((k : Int) + 1))).toNat < M - (intOf (.int .i64 (k : Int))).toNat
          simp [intOf]
          omega
    · obtain rfl : k = M := by omega
      go_wp2_with fail
      have hndf : nd = needs ps := funext HND.out
      have hpst : PushIs k ps (es ++ supEd k nd k) (total k nd) := by
        rw [HES.out, hndf]
        exact PushIs.start (fun p hp => (HBD.out p hp).2.1)
      have hcap : ∀ es' left, PushIs k ps es' left → ∀ e ∈ es', e.cap ≤ 62914560 := fun es' left h => h.cap_bd (fun p hp => (HBD.out p hp)) (fun x => by rw [← hndf]; exact HNB.out x)
      have hln : ∀ es' left, PushIs k ps es' left → es'.length ≤ 1000 := fun es' left h => by
        have h1 := congrArg List.length h.shape
        have h2 : (supplies k (needs ps) k).length ≤ k := by have := supEd_len k (needs ps) k; rwa [supEd, List.length_map] at this
        rw [List.length_map, List.length_append, List.length_map, HPL.out] at h1
        omega
      have HCP := Lib.hid hcap
      have HLN := Lib.hid hln
      clear hcap hln hndf
      refine wp_loop (fun a V => Rel (fun a V => ∃ left : Int, left ≤ 1195376640 ∧ CanL w D N V ∧ (∃ es vals, PushIs k ps es left ∧ NetM V w.heap.size (w.heap.size + 1 + 1 + 1) (w.heap.size + 1 + 1) sp (k + 2) (rowE es) (.slice (some ⟨gg, 0, none⟩) (k + 2) cap) vals) ∧ ∃ u : Nat → Value, a = ⟨List.toArray (u 0 :: u 1 :: .pointer (some ⟨w.heap.size + 1, 0, none⟩) :: .pointer (some ⟨w.heap.size + 1 + 1 + 1 + 1, 0, none⟩) :: .pointer (some ⟨w.heap.size + 1 + 1 + 1 + 1 + 1 + 1, 0, none⟩) :: u 5 :: u 6 :: u 7 :: .int .i64 (k : Int) :: .int .i64 ((k : Int) + 1) :: .int .i64 left :: u 11 :: u 12 :: u 13 :: u 14 :: u 15 :: u 16 :: u 17 :: u 18 :: u 19 :: u 20 :: u 21 :: u 22 :: u 23 :: u 24 :: u 25 :: u 26 :: u 27 :: u 28 :: u 29 :: u 30 :: u 31 :: u 32 :: u 33 :: u 34 :: u 35 :: u 36 :: u 37 :: u 38 :: u 39 :: u 40 :: u 41 :: u 42 :: u 43 :: u 44 :: u 45 :: u 46 :: u 47 :: u 48 :: u 49 :: u 50 :: u 51 :: u 52 :: u 53 :: u 54 :: u 55 :: u 56 :: u 57 :: u 58 :: u 59 :: u 60 :: u 61 :: u 62 :: u 63 :: u 64 :: u 65 :: u 66 :: u 67 :: u 68 :: u 69 :: u 70 :: u 71 :: u 72 :: u 73 :: u 74 :: u 75 :: u 76 :: u 77 :: u 78 :: u 79 :: u 80 :: u 81 :: u 82 :: u 83 :: u 84 :: u 85 :: u 86 :: u 87 :: u 88 :: u 89 :: u 90 :: u 91 :: u 92 :: u 93 :: u 94 :: u 95 :: u 96 :: u 97 :: u 98 :: u 99 :: u 100 :: u 101 :: u 102 :: u 103 :: u 104 :: u 105 :: u 106 :: u 107 :: u 108 :: u 109 :: u 110 :: u 111 :: u 112 :: u 113 :: u 114 :: u 115 :: u 116 :: u 117 :: u 118 :: u 119 :: u 120 :: u 121 :: u 122 :: u 123 :: u 124 :: u 125 :: u 126 :: []), [{ target := .collected D, args := #[] }]⟩) a V) (fun a _ => (intOf (a.tmps.getD 10 undef)).toNat) ⟨⟨_, htk.2, hcl, ⟨_, vals, hpst, hn⟩, exFrame (by kernel_rfl)⟩⟩ ?_
      clear hcl hn hpst vals htk hbk hlen hlt hk p3c p4c lp lm
      rintro a V ⟨⟨left, hlf, hcl, ⟨es1, vals, hp, hn⟩, u, rfl⟩⟩
      have p3c : V.cell? ⟨w.heap.size + 1 + 1 + 1 + 1, 0, none⟩ = some (.pointer (some ⟨w.heap.size + 1 + 1 + 1, 0, none⟩)) := hcl.pn.cell 0
      have p4c : V.cell? ⟨w.heap.size + 1 + 1 + 1 + 1 + 1 + 1, 0, none⟩ = some (.map (some (w.heap.size + 1 + 1 + 1 + 1 + 1))) := hcl.pm.cell 0
      have lp := hcl.pn.lt
      have lm := hcl.pm.lt
      have r0 : V.cell? ⟨w.heap.size + 1, 0, none⟩ = some (.bool false) := hcl.res.cell 0
      have lr := hcl.res.lt
      have rz := hcl.res.frozen0
      by_cases hlt : 0 < left
      · go_wp2_with fail
        have hj := push_any w.heap.size (w.heap.size + 1 + 1 + 1) (w.heap.size + 1 + 1) (k + 2) k (k + 1) sp (.slice (some ⟨gg, 0, none⟩) (k + 2) cap) vals es1 62914560 (by omega) V hn (by omega) (by omega) (by omega) (hp.ends HPS.out) (HCP.out _ _ hp) (HLN.out _ _ hp)
        rw [show ((k + 1 : Nat) : Int) = (k : Int) + 1 from rfl] at hj
        refine hj.mono ?_
        clear hj
        rintro e V2 ⟨got, rfl, ⟨es2, S', hwk, hn2, hf2⟩⟩
        have hc2 := hcl.nf hf2 (by omega)
        have p3c2 : V2.cell? ⟨w.heap.size + 1 + 1 + 1 + 1, 0, none⟩ = some (.pointer (some ⟨w.heap.size + 1 + 1 + 1, 0, none⟩)) := hc2.pn.cell 0
        have p4c2 : V2.cell? ⟨w.heap.size + 1 + 1 + 1 + 1 + 1 + 1, 0, none⟩ = some (.map (some (w.heap.size + 1 + 1 + 1 + 1 + 1))) := hc2.pm.cell 0
        have lp2 := hc2.pn.lt
        have lm2 := hc2.pm.lt
        have r02 : V2.cell? ⟨w.heap.size + 1, 0, none⟩ = some (.bool false) := hc2.res.cell 0
        have lr2 := hc2.res.lt
        have rz2 := hc2.res.frozen0
        have hgb := hwk.bd
        by_cases hg0 : got = 0
        · have HF : Hid (truB (CanSt s.wo st) = false) := Lib.hid (truB_false (fun hc => hp.cut HPS.out hlt (by rw [← hg0]; exact hwk) (HCAN.out.2 hc)))
          have qr := hc2.res.set_ 0 (.bool false)
          simp only [List.setIfInBounds_toArray, List.set_cons_zero] at qr
          have B9 := ex_set hc2.bel (p := ⟨w.heap.size + 1, 0, none⟩) (by show w.heap.size ≤ w.heap.size + 1; omega) (.bool false)
          have hDe : (V2.setCell ⟨w.heap.size + 1, 0, none⟩ (.bool false)).heap[D]? = some (.deferred (some [])) := (Below.heap_setCell _ _ _ D (by show D ≠ w.heap.size + 1; omega)).trans hc2.dd
          go_wp2_with fail
          show LeavesInM _ _ _ _ _ _ _ _ _
          refine leaves_marks w.heap.size _ _ ⟨D, rfl, hDe, by simp, trivial⟩ (fun d hd D' hD' => ?_) (fun W' hW' => ⟨_, results_cell_one rfl _ _ (w.heap.size + 1) (.bool false) _ rfl (Blk.cell (hW'.same _ _ qr (fun x e => by cases e)) 0) rfl rfl, by rw [HF.out], hW'.below B9⟩)
          rcases List.mem_singleton.1 hd with rfl
          injection hD' with hD'
          omega
        · have hp2 := hp.step hwk
          go_wp2_with fail
          refine ⟨⟨⟨left - got, by omega, hc2, ⟨es2, vals, hp2, hn2⟩, exFrame (by kernel_rfl)⟩⟩, ?_⟩
          show (intOf (.int .i64 (left - got))).toNat < (intOf (.int .i64 left)).toNat
          simp [intOf]
          omega
      · have HF : Hid (truB (CanSt s.wo st) = true) := Lib.hid (truB_iff.2 (HCAN.out.1 (hp.full HPS.out (by omega))))
        have qr := hcl.res.set_ 0 (.bool true)
        simp only [List.setIfInBounds_toArray, List.set_cons_zero] at qr
        have B9 := ex_set hcl.bel (p := ⟨w.heap.size + 1, 0, none⟩) (by show w.heap.size ≤ w.heap.size + 1; omega) (.bool true)
        have hDe : (V.setCell ⟨w.heap.size + 1, 0, none⟩ (.bool true)).heap[D]? = some (.deferred (some [])) := (Below.heap_setCell _ _ _ D (by show D ≠ w.heap.size + 1; omega)).trans hcl.dd
        go_wp2_with fail
        show LeavesInM _ _ _ _ _ _ _ _ _
        refine leaves_marks w.heap.size _ _ ⟨D, rfl, hDe, by simp, trivial⟩ (fun d hd D' hD' => ?_) (fun W' hW' => ⟨_, results_cell_one rfl _ _ (w.heap.size + 1) (.bool true) _ rfl (Blk.cell (hW'.same _ _ qr (fun x e => by cases e)) 0) rfl rfl, by rw [HF.out], hW'.below B9⟩)
        rcases List.mem_singleton.1 hd with rfl
        injection hD' with hD'
        omega
end Go.Proofs.Ythihdiilokdidaa
end

section
namespace Go.Proofs.Ythihdiilokdidaa
open Go.RowKit
attribute [local go_sem] Ex.cell? Ex.frozen? run_store_func

theorem cell_fr {W W' : World} {m : Nat} {a : Addr} {v : Value} {α β : Type} [DecidableEq α] {kV : α → Value} {vV : β → Value} {F : α → Option β} (hm : MpIs kV vV W m F) (hf : Fr (fun b => b = m) W W') (h : W.cell? a = some v) : W'.cell? a = some v := by
 have hlt : a.block < W.heap.size := by
  rcases Nat.lt_or_ge a.block W.heap.size with h' | h'
  ·
   exact h'
  ·
   simp [World.cell?, Array.getElem?_eq_none h'] at h
 have hne : ¬ a.block = m := fun e => by
  obtain ⟨L, hL, _⟩ := hm
  have h2 : W.heap[m]? = some (.map (mkE kV vV L) L.length) := hL
  rw [← e] at h2
  simp [World.cell?, h2] at h
 exact (World.cell?_of_block (w := W) (hf.block _ hlt hne)).trans h
theorem SlAt.frM {W W' : World} {B sz n m : Nat} {A : Option Addr} {f : Nat → Nat → Value} {α β : Type} [DecidableEq α] {kV : α → Value} {vV : β → Value} {F : α → Option β} (h : SlAt W B sz A n f) (hm : MpIs kV vV W m F) (hf : Fr (fun b => b = m) W W') : SlAt W' B sz A n f :=
 fun hn => let ⟨b, off, e, hb, hc⟩ := h hn; ⟨b, off, e, hb, fun k j hk hj => cell_fr hm hf (hc k j hk hj)⟩
theorem WsIn.frM {W W' : World} {B m : Nat} {s : Ws} {Ar Am Aw : Option Addr} {α β : Type} [DecidableEq α] {kV : α → Value} {vV : β → Value} {F : α → Option β} (h : WsIn W B s Ar Am Aw) (hm : MpIs kV vV W m F) (hf : Fr (fun b => b = m) W W') : WsIn W' B s Ar Am Aw :=
 ⟨h.rooms.frM hm hf, h.moves.frM hm hf, h.wgs.frM hm hf⟩
theorem Blk.frM {W W' : World} {m g : Nat} {t : TypeId} {cs : Array Value} {α β : Type} [DecidableEq α] {kV : α → Value} {vV : β → Value} {F : α → Option β} (h : Blk W g t cs) (hm : MpIs kV vV W m F) (hf : Fr (fun b => b = m) W W') : Blk W' g t cs := h.fr hf (fun e => blk_isMap h hm e)
def StsOk (st : Sts) : Prop := ∀ r d, 0 ≤ (st r d).lo ∧ (st r d).lo ≤ 1048576 ∧ 0 ≤ (st r d).hi ∧ (st r d).hi ≤ 1048576
theorem StsOk.narrow {st : Sts} (h : StsOk st) (r d : Nat) {g : Rg} (hg : 0 ≤ g.lo ∧ g.lo ≤ 1048576 ∧ 0 ≤ g.hi ∧ g.hi ≤ 1048576) : StsOk (narrowS st r d g) := by
 intro r' d'
 have := h r d
 have := h r' d'
 unfold narrowS
 split <;> (try dsimp only) <;> omega
theorem stW_ok {w : Wo} (hw : WoOk w) (out : Nat → Bool) : ∀ k, k ≤ w.wgs.length → StsOk (stW w.wgs out k)
 | 0, _ => fun r d => by simp [stW]
 | k + 1, hk => by
  have ih := stW_ok hw out k (by omega)
  have hg := hw.wgs k (by omega)
  rw [stW]
  split
  ·
   exact ih
  ·
   exact ih.narrow _ _ (by omega)
set_option maxRecDepth 100000 in
set_option maxHeartbeats 3200000 in
theorem may_any (s : Ws) (Ar Am Aw : Option Addr) (cr cm cw m : Nat) (F : Spot → Option Rg) (st : Sts) (hw : WoOk s.wo) (hd : s.days = (s.wo.days : Int)) (p3 p4 p7 r d : Nat) (lo hi : Int) (w : World) (hs : WsIn w w.heap.size s Ar Am Aw) (hm : StMp w m F) (hF : StAll F st s.rooms.length s.wo.days) (hst : StsOk st) (hr : r < s.rooms.length) (hdd : d < s.wo.days) (hb : 0 ≤ lo ∧ lo ≤ 1048576 ∧ 0 ≤ hi ∧ hi ≤ 1048576)
  (q3 : Blk w p3 153 #[.slice Ar s.rooms.length cr, .int .i64 s.days, .slice Am s.moves.length cm, .slice Aw s.wgs.length cw, .map (some m)]) (q4 : Blk w p4 169 #[.int .i64 (r : Int), .int .i64 (d : Int)]) (q7 : Blk w p7 50 #[.int .i64 (st r d).lo, .int .i64 (st r d).hi]) :
  Calls Try.prog 120 #[.agg #[.int .i64 lo, .int .i64 hi], .pointer (some ⟨p3, 0, none⟩), .pointer (some ⟨p4, 0, none⟩), .pointer (some ⟨p7, 0, none⟩)] w fun e w' => e = .returned (.bool (truB (CanSt s.wo (narrowS st r d ⟨lo, hi⟩)))) ∧ StMp w' m F ∧ Fr (fun b => b = m) w w' := by
 have HDs := Lib.hid hd
 clear hd
 obtain ⟨⟨olo, ohi⟩, hold⟩ : ∃ x, st r d = x := ⟨_, rfl⟩
 rw [hold] at q7
 have HOLD := Lib.hid hold
 have hF0 := hF r d hr hdd
 rw [hold] at hF0
 have HF0 := Lib.hid hF0
 clear hF0 hold
 have hb1 := ex_alloc (Below.refl w.heap.size w) (.cells #[.int .i64 lo, .int .i64 hi] 50)
 have qn : Blk (w.alloc (.cells #[.int .i64 lo, .int .i64 hi] 50)) w.heap.size 50 #[.int .i64 lo, .int .i64 hi] := Blk.new _ _ _
 have r3 := q3.below hb1 q3.lt
 have r4 := q4.below hb1 q4.lt
 have r7 := q7.below hb1 q7.lt
 have rm := hm.below hb1
 have rs := hs.go hb1
 go_enter Try.func120, Try.ntmps120
 go_upto_region 1 with fail
 skip
 obtain ⟨pn, hpn⟩ : ∃ p, w.heap.size = p := ⟨_, rfl⟩
 rw [hpn] at qn ⊢
 have hpz : pn < (w.alloc (.cells #[.int .i64 lo, .int .i64 hi] 50)).heap.size := qn.lt
 generalize w.alloc (.cells #[.int .i64 lo, .int .i64 hi] 50) = W1 at *
 have a0 : W1.cell? ⟨p3, 0, none⟩ = some (.slice Ar s.rooms.length cr) := r3.cell 0
 have a1 : W1.cell? ⟨p3, 1, none⟩ = some (.int .i64 s.days) := r3.cell 1
 have a2 : W1.cell? ⟨p3, 2, none⟩ = some (.slice Am s.moves.length cm) := r3.cell 2
 have a3 : W1.cell? ⟨p3, 3, none⟩ = some (.slice Aw s.wgs.length cw) := r3.cell 3
 have a4 : W1.cell? ⟨p3, 4, none⟩ = some (.map (some m)) := r3.cell 4
 have b0 : W1.cell? ⟨p4, 0, none⟩ = some (.int .i64 (r : Int)) := r4.cell 0
 have b1 : W1.cell? ⟨p4, 1, none⟩ = some (.int .i64 (d : Int)) := r4.cell 1
 have d0 : W1.cell? ⟨p7, 0, none⟩ = some (.int .i64 olo) := r7.cell 0
 have d1 : W1.cell? ⟨p7, 1, none⟩ = some (.int .i64 ohi) := r7.cell 1
 have e0 : W1.cell? ⟨pn, 0, none⟩ = some (.int .i64 lo) := qn.cell 0
 have e1 : W1.cell? ⟨pn, 1, none⟩ = some (.int .i64 hi) := qn.cell 1
 have le := qn.lt
 have l3 := r3.lt
 have l4 := r4.lt
 have l7 := r7.lt
 go_wp2_with fail
 refine (narrow_any s Ar Am Aw cr cm cw m ((r : Int), (d : Int)) lo hi ⟨olo, ohi⟩ F W1 rm HF0.out).mono ?_
 rintro e W2 ⟨rfl, m2, f2⟩
 have s2 := rs.frM rm f2
 have t3 := r3.frM rm f2
 have t4 := r4.frM rm f2
 have t7 := r7.frM rm f2
 have z2 := f2.size
 have hA2 := hF.narrow hr hdd ⟨lo, hi⟩
 rw [HOLD.out] at hA2
 have HA2 := Lib.hid hA2
 clear hA2 a0 a1 a2 a3 a4 b0 b1 d0 d1 e0 e1 l3 l4 l7 le
 have a02 : W2.cell? ⟨p3, 0, none⟩ = some (.slice Ar s.rooms.length cr) := t3.cell 0
 have a12 : W2.cell? ⟨p3, 1, none⟩ = some (.int .i64 s.days) := t3.cell 1
 have a22 : W2.cell? ⟨p3, 2, none⟩ = some (.slice Am s.moves.length cm) := t3.cell 2
 have a32 : W2.cell? ⟨p3, 3, none⟩ = some (.slice Aw s.wgs.length cw) := t3.cell 3
 have a42 : W2.cell? ⟨p3, 4, none⟩ = some (.map (some m)) := t3.cell 4
 have b02 : W2.cell? ⟨p4, 0, none⟩ = some (.int .i64 (r : Int)) := t4.cell 0
 have b12 : W2.cell? ⟨p4, 1, none⟩ = some (.int .i64 (d : Int)) := t4.cell 1
 have d02 : W2.cell? ⟨p7, 0, none⟩ = some (.int .i64 olo) := t7.cell 0
 have d12 : W2.cell? ⟨p7, 1, none⟩ = some (.int .i64 ohi) := t7.cell 1
 have l32 := t3.lt
 have l42 := t4.lt
 have l72 := t7.lt
 have hst2 : StsOk (narrowS st r d ⟨lo, hi⟩) := hst.narrow r d hb
 have HM2 := Lib.hid m2
 clear m2
 go_wp2_with fail
 refine (can_any s Ar Am Aw cr cm cw W2 (s2.up (by have := hb1.size; omega)) m _ (narrowS st r d ⟨lo, hi⟩) hw HDs.out HM2.out HA2.out hst2).mono ?_
 rintro e W3 ⟨rfl, h3⟩
 have m3 := HM2.out.below h3
 have u3 := t3.below h3 t3.lt
 have u4 := t4.below h3 t4.lt
 have u7 := t7.below h3 t7.lt
 clear a02 a12 a22 a32 a42 b02 b12 d02 d12 l32 l42 l72
 have a03 : W3.cell? ⟨p3, 0, none⟩ = some (.slice Ar s.rooms.length cr) := u3.cell 0
 have a13 : W3.cell? ⟨p3, 1, none⟩ = some (.int .i64 s.days) := u3.cell 1
 have a23 : W3.cell? ⟨p3, 2, none⟩ = some (.slice Am s.moves.length cm) := u3.cell 2
 have a33 : W3.cell? ⟨p3, 3, none⟩ = some (.slice Aw s.wgs.length cw) := u3.cell 3
 have a43 : W3.cell? ⟨p3, 4, none⟩ = some (.map (some m)) := u3.cell 4
 have b03 : W3.cell? ⟨p4, 0, none⟩ = some (.int .i64 (r : Int)) := u4.cell 0
 have b13 : W3.cell? ⟨p4, 1, none⟩ = some (.int .i64 (d : Int)) := u4.cell 1
 have d03 : W3.cell? ⟨p7, 0, none⟩ = some (.int .i64 olo) := u7.cell 0
 have d13 : W3.cell? ⟨p7, 1, none⟩ = some (.int .i64 ohi) := u7.cell 1
 have l33 := u3.lt
 have l43 := u4.lt
 have l73 := u7.lt
 obtain ⟨ob, hup, m4⟩ := MpIs.put (et := 50) Try.underlying151 cSp_fd m3 ((r : Int), (d : Int)) (⟨olo, ohi⟩ : Rg)
 unfold cSp cRg at hup
 have hFe : (fun x => if x = ((r : Int), (d : Int)) then some (⟨olo, ohi⟩ : Rg) else (fun x => if x = ((r : Int), (d : Int)) then some ⟨max olo lo, min ohi hi⟩ else F x) x) = F := by
  funext x
  by_cases hx : x = ((r : Int), (d : Int))
  ·
   rw [if_pos hx, hx, HF0.out]
  ·
   rw [if_neg hx]; exact if_neg hx
 rw [hFe] at m4
 have HM4 := Lib.hid m4
 clear m4 hFe m3
 have hfr : Fr (fun b => b = m) w (W3.putObj m ob) := (((Fr.below hb1).trans f2 (fun _ _ h => h)).trans (Fr.below h3) (fun _ _ h => h)).trans (fr_putO (fun b => b = m) W3 m ob rfl) (fun _ _ h => h)
 go_wp2
 go_ret
 exact ⟨rfl, HM4.out, hfr⟩
end Go.Proofs.Ythihdiilokdidaa
end
