/- What no chapter's walk goes without (cut out of the glass texts by mkbase.py). · Readings of arguments whose slices' elements hold slices. · Grams in pipes (plain): sums over pipes, and what a cut tells. · Works as pipes (plain): a truth is what goes through the pipes. · Teams (plain): how few apprentices do some hours. -/
import Derived.Deep.Fields
import Derived.Carry
import Derived.ProofKit
import Derived.OpenShut
import Derived.ChangeSame
import Derived.Laws.Cover1
import Derived.Test.YthihdiilokdidaaRows
import Derived.Test.YthihdiilokdidaaM0
import Derived.Test.YthihdiilokdidaaProg
set_option linter.unusedVariables false
set_option linter.unusedSimpArgs false
set_option linter.unusedSectionVars false
section
namespace Go.Proofs.Ythihdiilokdidaa
section
open Go.RowKit
attribute [local go_sem] Ex.cell? Ex.frozen? Gx.cell?
theorem run_append_empty (A : Option Addr) (c : Nat) (ty : TypeId) (W : World) : (Builtin.append_ #[28, 28] ty #[.slice none 0 0, .slice A 0 c]).run Try.prog W = .ok (.slice none 0 0) W := by
  obtain ⟨i0, hi0, hz0, hz1, hz2⟩ := info_parts int_info
  cases A with
  | none => simp [Builtin.append_, run_underlying Try.underlying28, sizeOf, typeInfo, hi0, Builtin.lenOf, Builtin.firstCells]
  | some a => simp [Builtin.append_, run_underlying Try.underlying28, sizeOf, typeInfo, hi0, Builtin.lenOf, Builtin.firstCells, loadCells, loadCellsFrom]
theorem wpList_append_empty {ops : Array Oper} {rest : List Oper} {o : Oper} {a : Act} {Q : Exit → Act → World → Prop} (w : World) (hg : o.guard = none) (s x : Operand)
    (hop : o.op = .call { callee := .builtin .append, args := #[s, x], argTypes := #[28, 28] }) (A : Option Addr) (c : Nat) (hs : a.eval s = .slice none 0 0) (hx : a.eval x = .slice A 0 c)
    (hK : wpList Try.prog ops Q rest (a.put o.dst (.slice none 0 0)) w) : wpList Try.prog ops Q (o :: rest) a w := by
  refine wpList_plain hg fun K hK' => ?_
  have hrun := run_append_empty A c o.type w
  unfold Oper.wp
  simp [execOp, hop, resolve, invoke, builtin, hs, hx, hrun, Result.andThen]
  exact hK' _ _ hK
end

section
open Go.RowKit
attribute [local go_sem] Ex.cell? Ex.frozen? Gx.cell?
theorem exFrame' {T : Array Value} {F : (Nat → Value) → Array Value} {ds : List Deferred} (h : T = F (fun i => T.getD i undef)) : ∃ u, Act.mk T ds = Act.mk (F u) ds := ⟨_, congrArg (fun T => Act.mk T ds) h⟩
end

section
open Go.RowKit Go.ChangeShapes Go.WideShapes Go.Deep
section
variable {H : Type} {enc : TypeId × Value → H} {w : World} {base : Nat} {spare : Nat → Bool} {held : Bool}
/-- one-cell fields and others, at written-out places. -/
theorem tr_int {fuel : Nat} {t : TypeId} {k : IntKind} {cs : List Value} {x : DataW H × List MemPlace} (ht : Try.prog.underlying t = some (.int k)) (h : DataW.trod enc Try.prog w base spare held fuel t cs = some x) : ∃ n : Int, cs = [.int k n] ∧ (Lit.int k n).wf = true := by
  obtain ⟨n, h1, _, h2⟩ := DataW.trod_int ht h
  exact ⟨n, h1, h2⟩
theorem list2 {α : Type} {l : List α} (h : l.length = 2) : ∃ a b, l = [a, b] := by
  match l, h with
  | [a, b], _ => exact ⟨a, b, rfl⟩
theorem list3 {α : Type} {l : List α} (h : l.length = 3) : ∃ a b c, l = [a, b, c] := by
  match l, h with
  | [a, b, c], _ => exact ⟨a, b, c, rfl⟩
theorem list5 {α : Type} {l : List α} (h : l.length = 5) : ∃ a b c d e, l = [a, b, c, d, e] := by
  match l, h with
  | [a, b, c, d, e], _ => exact ⟨a, b, c, d, e, rfl⟩
theorem some_of {α : Type} {l : List α} {i : Nat} (h : i < l.length) : ∃ y, l[i]? = some y := ⟨l[i], List.getElem?_eq_getElem h⟩

theorem fld {fs : Array Field} {xs : List (DataW H × List MemPlace)} {cs : List Value} {n : Nat}
    (hf : ∀ (i : Nat) (f : Field), fs[i]? = some f → DataW.trod enc Try.prog w base spare held n f.type ((cs.drop f.offset).take (Try.prog.cellsOf f.type)) = xs[i]?)
    {i : Nat} {f : Field} {y : DataW H × List MemPlace} (t' off k : Nat) (h1 : fs[i]? = some f) (ht : f.type = t') (ho : f.offset = off) (hk : Try.prog.cellsOf t' = k) (hy : xs[i]? = some y) :
    DataW.trod enc Try.prog w base spare held n t' ((cs.drop off).take k) = some y := by
  subst ht ho hk; exact (hf i f h1).trans hy

theorem lt_of_cell {b o : Nat} {v : Value} (h : w.cell? ⟨b, o, none⟩ = some v) : b < w.heap.size := by
  rcases Nat.lt_or_ge b w.heap.size with h' | h'
  · exact h'
  · simp [World.cell?, Array.getElem?_eq_none h'] at h

/-- a slice of structs of integers. -/
theorem tr_sl {fuel : Nat} {t e : TypeId} {cs : List Value} {x : DataW H × List MemPlace} (ht : Try.prog.underlying t = some (.slice e)) {sz : Nat} (hsz : 0 < sz) (hC : Try.prog.cellsOf e = sz) {α : Type} [Inhabited α] {c : α → List Value}
    (hc : ∀ {n : Nat} {cs : List Value} {x : DataW H × List MemPlace}, DataW.trod enc Try.prog w base spare held n e cs = some x → ∃ a, cs = c a) (hlen : ∀ a, (c a).length = sz)
    (h : DataW.trod enc Try.prog w base spare held fuel t cs = some x) :
    ∃ (A : Option Addr) (l : List α) (cp : Nat), cs = [.slice A l.length cp] ∧ l.length ≤ cp ∧ cp ≤ maxLen ∧ ∀ F : Nat → Nat → Value, (∀ (k : Nat) (hk : k < l.length) (j : Nat), j < sz → (c l[k])[j]? = some (F k j)) → SlAt w w.heap.size sz A l.length F := by
  rcases open_slice ht h with ⟨rfl, _⟩ | ⟨a, len, cap, m, n, D, Pl, rfl, _, hl, hm, hmm, _, hi⟩
  · exact ⟨none, [], 0, rfl, Nat.le_refl _, by unfold maxLen; omega, fun F _ h => by simp at h⟩
  · have hlm : len ≤ m := by rw [hmm]; split <;> omega
    have hex : ∀ i, ∃ y : α, i < len → ∃ cs', w.cells? base (a.add (i * sz)) sz = some cs' ∧ cs' = c y := fun i => by
      by_cases hil : i < len
      · obtain ⟨cs', h1, h2⟩ := hi i (by omega)
        rw [hC] at h1
        obtain ⟨y, hy⟩ := hc h2
        exact ⟨y, fun _ => ⟨cs', h1, hy⟩⟩
      · exact ⟨default, fun h => absurd h hil⟩
    obtain ⟨f, hf⟩ := Classical.axiomOfChoice hex
    refine ⟨some a, (List.range len).map f, cap, by simp, by simpa using hl, hm, fun F hF h0 => ?_⟩
    have hl0 : 0 < len := by simpa using h0
    obtain ⟨cs0, h1, h2⟩ := hf 0 hl0
    obtain ⟨_, _, h3⟩ := World.cells?_some h1
    have h4 := h3 0 hsz
    rw [h2, List.getElem?_eq_getElem (by rw [hlen]; exact hsz)] at h4
    obtain ⟨b, off, spot⟩ := a
    have hspot : spot = none := by simpa [Addr.add] using World.cell?_spot h4
    subst hspot
    rw [Addr.add_lit, Addr.add_lit] at h4
    refine ⟨b, off, rfl, lt_of_cell h4, fun k j hk hj => ?_⟩
    have hk' : k < len := by simpa using hk
    obtain ⟨csk, g1, g2⟩ := hf k hk'
    obtain ⟨_, _, g3⟩ := World.cells?_some g1
    have g4 := g3 j hj
    rw [Addr.add_lit, Addr.add_lit, g2] at g4
    have g5 := hF k (by simpa using hk') j hj
    rw [List.getElem_map, List.getElem_range] at g5
    rw [show off + (k * sz + j) = off + k * sz + j by omega, g4, g5]
end
section
variable {H : Type} {enc : TypeId × Value → H} {w : World} {base : Nat} {spare : Nat → Bool} {held : Bool} {r : Reach} {b0 : Nat}
set_option maxRecDepth 100000 in
theorem tr_ints {fuel : Nat} {cs : List Value} {x : DataW H × List MemPlace} (h : DataW.trod enc Try.prog w base spare held fuel 28 cs = some x) :
    ∃ A l cp, cs = [.slice A (l : List Int).length cp] ∧ l.length ≤ cp ∧ cp ≤ maxLen ∧ SlAt w w.heap.size 1 A l.length (fI l) := by
  obtain ⟨A, l, cp, h1, h2, h3, h4⟩ := tr_sl (sz := 1) (α := Int) (c := fun n => [.int .i64 n]) Try.underlying28 (by omega) (by kernel_rfl) (fun h => by obtain ⟨n, hn, _⟩ := tr_int Try.underlying3 h; exact ⟨n, hn⟩) (fun _ => rfl) h
  refine ⟨A, l, cp, h1, h2, h3, h4 _ (fun k hk j hj => ?_)⟩
  obtain rfl : j = 0 := by omega
  simp [fI, gI, hk]

end
theorem laidOut : laidOutB Try.prog = true := by kernel_rfl
/-- these types can be read. -/
def AllRd : List TypeId → Prop
  | [] => True
  | t :: ts => (Try.prog.readableRec t = true ∧ t < Try.prog.types.size) ∧ AllRd ts
/-- the arguments read as they did, where below the heap's old size nothing has turned. -/
theorem trodAll_stays {H : Type} {enc : TypeId × Value → H} {W W' : World} {sp : Nat → Bool} (hb : Below W.heap.size W W') : ∀ {ts : List TypeId} {vs : List Value} {ds : List (DataW H)} {ps : List MemPlace},
    AllRd ts → DataW.TrodAll enc Try.prog W 0 (fun _ => true) true ts vs ds ps → (∀ p ∈ ps, sp p.block = true) → (∀ p ∈ ps, p.block < W.heap.size) → DataW.TrodAll enc Try.prog W' 0 sp true ts vs ds ps
  | [], vs, ds, ps, _, h, _, _ => by
    obtain ⟨rfl, rfl, rfl⟩ := trodAll_nil h
    exact trodAll_mk0
  | t :: ts, vs, ds, ps, ht, h, hs, hlt => by
    obtain ⟨v, vs', d, ds', p, q, rfl, rfl, rfl, h1, h2⟩ := trodAll_cons h
    exact trodAll_cons_mk (WideElems.Trod_stays laidOut ht.1.1 ht.1.2 h1 (fun x hx => hb.same (hlt x (List.mem_append.2 (.inl hx)))) (fun x hx => hs x (List.mem_append.2 (.inl hx)))) (trodAll_stays hb ht.2 h2 (fun x hx => hs x (List.mem_append.2 (.inr hx))) (fun x hx => hlt x (List.mem_append.2 (.inr hx))))

theorem own : ownKnob Try.prog.godebug = none := by kernel_rfl
end

section
open Go.RowKit Go.ChangeShapes Go.WideShapes Go.ChangeAt
section
variable {H : Type} {enc : TypeId × Value → H}
/-- the post of a law: it returned true, and below the heap's old size nothing has turned. -/
theorem post_law {f : Func} {s : ChangeSpec} {W W' : World} {args : Array Value} {ds : List (DataW H)} {before : List MemPlace} (hvars : s.vars = [])
    (hW : DataW.Whole enc Try.prog f.params.toList s.vars false W args.toList ds [] before) (hrt : f.resultTypes = #[4]) (hfn : s.fn H (ds ++ []) = { results := [.lit (.bool true)], args := ds }) (hrd : AllRd f.params.toList) (hb : Below W.heap.size W W') :
    s.post enc Try.prog f false true false false W args (.bool true) W' := by
  have hlt : ∀ p ∈ before, p.block < W.heap.size := fun p hp => hW.lt p hp
  have hold : ∀ p ∈ before, (fun b => decide (b < W.heap.size)) p.block = true := fun p hp => by simpa using hlt p hp
  have hW2 := hW
  obtain ⟨pa, pv, hA, hV, hps, hz, hn⟩ := hW2
  rw [hvars] at hV
  obtain ⟨_, rfl⟩ := trodVars_none hV
  rw [List.append_nil] at hps
  subst hps
  have hargs : ∀ sp : Nat → Bool, (∀ p ∈ before, sp p.block = true) → DataW.TrodAll enc Try.prog W' 0 sp true f.params.toList args.toList (s.fn H (ds ++ [])).args before := fun sp hsp => by
    rw [hfn]; exact trodAll_stays hb hrd hA hsp hlt
  have hres : ∀ (b : Nat) (sp : Nat → Bool) (hd : Bool), DataW.TrodAll enc Try.prog W' b sp hd f.resultTypes.toList ((Value.bool true).resultList f.resultTypes.size) (s.fn H (ds ++ [])).results [] := fun b sp hd => by
    rw [hfn, hrt]; exact trodAll_cons_mk (shut_bool Try.underlying4 _) trodAll_mk0
  have hvrs : ∀ sp : Nat → Bool, DataW.TrodVars enc Try.prog W' sp s.vars (s.fn H (ds ++ [])).vars [] := fun sp => by rw [hvars, hfn]; exact rfl
  refine ⟨ds, [], before, [], before, [], hW, hres _ _ _, hargs _ hold, hvrs _, World.keptBut_mono (fun p hp => ⟨hp, ?_⟩) (hb.frame (· ∈ before)), fun h => by cases h⟩
  exact Or.inr (by simpa using hp)
end
end

section
open Go.RowKit
attribute [local go_sem] Ex.cell? Ex.frozen? Gx.cell?
theorem max3_eq (x y z : Int) : (if z > (if y > x then y else x) then z else (if y > x then y else x)) = mx3 x y z := by
  unfold mx3
  split <;> split <;> omega
theorem wpList_max3 {P : Program} {ops : Array Oper} {rest : List Oper} {o : Oper} {a : Act} {Q : Exit → Act → World → Prop} (w : World) (hgd : o.guard = none) (p q s : Operand) (ts : Array TypeId)
    (hop : o.op = .call { callee := .builtin .max, args := #[p, q, s], argTypes := ts }) (x y z : Int) (h1 : a.eval p = .int .i64 x) (h2 : a.eval q = .int .i64 y) (h3 : a.eval s = .int .i64 z)
    (hK : wpList P ops Q rest (a.put o.dst (.int .i64 (mx3 x y z))) w) : wpList P ops Q (o :: rest) a w := by
  refine wpList_plain hgd fun K hK' => ?_
  have hrun := run_max_int3 (P := P) (w := w) ts o.type .i64 .i64 .i64 x y z
  rw [max3_eq] at hrun
  unfold Oper.wp
  simp only [execOp, hop, resolve, invoke, builtin, h1, h2, h3, hrun, Result.andThen, Sem.run_bind, Sem.run_pure, List.map_toArray, List.map_cons, List.map_nil]
  exact hK' _ _ hK
end

section
open Go.RowKit
attribute [local go_sem] Ex.cell? Ex.frozen? Gx.cell?
def fU (l : List Int) (k _j : Nat) : Value := .int .u16 (gI l k)
theorem IsWords.at_ {w : World} {B : Nat} {A : Option Addr} {l : List Int} (h : SlAt w B 1 A l.length (fU l)) {k : Nat} (hk : k < l.length) : ∃ b off, A = some ⟨b, off, none⟩ ∧ b < B ∧ w.cell? ⟨b, off + k, none⟩ = some (.int .u16 (gI l k)) := by
  obtain ⟨b, off, rfl, hb, hc⟩ := h (by omega)
  have := hc k 0 hk (by omega)
  exact ⟨b, off, rfl, hb, by simpa [fU] using this⟩
end

section
open Go.RowKit
attribute [local go_sem] Ex.cell? Ex.frozen? Gx.cell?
theorem gI_snoc {l : List Int} {x : Int} {j : Nat} (h : j < l.length) : gI (l ++ [x]) j = gI l j := by simp [gI, List.getElem?_append, h]
theorem gI_last {l : List Int} {x : Int} : gI (l ++ [x]) l.length = x := by simp [gI]
end

section
open Go.RowKit Go.ChangeShapes Go.WideShapes Go.ChangeAt
theorem wf_u16 {n : Int} (h : (Lit.int .u16 n).wf = true) : 0 ≤ n ∧ n ≤ 65535 := by
  simp only [Lit.wf, Bool.and_eq_true, decide_eq_true_eq] at h
  exact ⟨h.1, h.2⟩
theorem wf_u8 {n : Int} (h : (Lit.int .u8 n).wf = true) : 0 ≤ n ∧ n ≤ 255 := by
  simp only [Lit.wf, Bool.and_eq_true, decide_eq_true_eq] at h
  exact ⟨h.1, h.2⟩
theorem wf_i16 {n : Int} (h : (Lit.int .i16 n).wf = true) : -32768 ≤ n ∧ n ≤ 32767 := by
  simp only [Lit.wf, Bool.and_eq_true, decide_eq_true_eq] at h
  exact ⟨h.1, h.2⟩
theorem wf_i64 {n : Int} (h : (Lit.int .i64 n).wf = true) : -9223372036854775808 ≤ n ∧ n ≤ 9223372036854775807 := by
  simp only [Lit.wf, Bool.and_eq_true, decide_eq_true_eq] at h
  exact ⟨h.1, h.2⟩

/-- a word of two bytes. -/
abbrev Wd := {n : Int // 0 ≤ n ∧ n ≤ 65535}
instance : Inhabited Wd := ⟨⟨0, by omega⟩⟩

section
variable {H : Type} {enc : TypeId × Value → H} {w : World} {base : Nat} {spare : Nat → Bool} {held : Bool} {r : Reach} {b0 : Nat}
set_option maxRecDepth 100000 in
theorem open_int {t : TypeId} {k : IntKind} (ht : Try.prog.underlying t = some (.int k)) {v : Value} {d : DataW H} {p : List MemPlace} (hv : Value.okWide Try.prog w r b0 t v) (h : DataW.Trod enc Try.prog w base spare held t v d p) : ∃ n, v = .int k n ∧ (Lit.int k n).wf = true := by
  obtain ⟨n, rfl⟩ := okWide_int ht hv
  obtain ⟨fuel, hf⟩ := h
  obtain ⟨m, h1, h2⟩ := tr_int ht hf
  injection h1 with h1 _
  exact ⟨m, h1, h2⟩
set_option maxRecDepth 100000 in
theorem open_words {v : Value} {d : DataW H} {p : List MemPlace} (hv : Value.okWide Try.prog w r b0 68 v) (h : DataW.Trod enc Try.prog w base spare held 68 v d p) :
    ∃ A l cp, v = .slice A (l : List Int).length cp ∧ l.length ≤ maxLen ∧ SlAt w w.heap.size 1 A l.length (fU l) ∧ ∀ k, k < l.length → 0 ≤ gI l k ∧ gI l k ≤ 65535 := by
  obtain ⟨a, len, cap, rfl⟩ := okWide_slice Try.underlying68 hv
  obtain ⟨fuel, hf⟩ := h
  obtain ⟨A, l, cp, h1, h2, h3, h4⟩ := tr_sl (sz := 1) (α := Wd) (c := fun n => [.int .u16 n.1]) Try.underlying68 (by omega) (by kernel_rfl) (fun h => by obtain ⟨n, hn, hw⟩ := tr_int Try.underlying150 h; exact ⟨⟨n, wf_u16 hw⟩, hn⟩) (fun _ => rfl) hf
  have hl : (l.map (·.1)).length = l.length := by simp
  have hg : ∀ k (hk : k < l.length), gI (l.map (·.1)) k = (l[k]).1 := fun k hk => by simp [gI, hk]
  refine ⟨A, l.map (·.1), cp, by injection h1 with h1 _; rw [h1, hl], by rw [hl]; omega, ?_, fun k hk => ?_⟩
  · rw [hl]
    refine h4 _ (fun k hk j hj => ?_)
    obtain rfl : j = 0 := by omega
    show some (Value.int .u16 (l[k]).1) = some (.int .u16 (gI (l.map (·.1)) k))
    rw [hg k hk]
  · rw [hg k (by rwa [hl] at hk)]
    exact (l[k]'(by rwa [hl] at hk)).2
end
end

section
open Go.RowKit
theorem news_of {α : Type} {f : α → List Value} {sz : Nat} (hsz : 0 < sz) (hf : ∀ a, (f a).length = sz) {F : Nat → Nat → Value} {l : List α} (hF : ∀ (k : Nat) (hk : k < l.length) (j : Nat), j < sz → (f l[k])[j]? = some (F k j)) {w : World} {b off : Nat}
    (hc : ∀ k j, k < l.length → j < sz → w.cell? ⟨b, off + k * sz + j, none⟩ = some (F k j)) : ∀ j u, (l.flatMap f)[j]? = some u → w.cell? ((⟨b, off, none⟩ : Addr).add j) = some u := by
  intro j u hu
  have hlen : (l.flatMap f).length = l.length * sz := by
    clear hF hc hu
    induction l with
    | nil => simp
    | cons a l ih => rw [List.flatMap_cons, List.length_append, hf, ih, List.length_cons, Nat.add_mul, Nat.one_mul, Nat.add_comm]
  have hj : j < l.length * sz := by
    have := (List.getElem?_eq_some_iff.1 hu).1
    rwa [hlen] at this
  have hk : j / sz < l.length := (Nat.div_lt_iff_lt_mul hsz).2 hj
  have hr : j % sz < sz := Nat.mod_lt _ hsz
  have e : j = j / sz * sz + j % sz := by have := Nat.div_add_mod j sz; rw [Nat.mul_comm] at this; omega
  have h1 := (flat_get hf hk hr).trans (hF _ hk _ hr)
  rw [← e, hu] at h1
  injection h1 with h1
  rw [Addr.add_lit, h1, ← hc _ _ hk hr]
  congr 2
  omega

section
variable {P : Program}
theorem wpList_append_nothing {ops : Array Oper} {rest : List Oper} {o : Oper} {a : Act} {Q : Exit → Act → World → Prop} (w : World) (hg : o.guard = none) (s x : Operand) (t e : TypeId) (i : TypeInfo)
    (hop : o.op = .call { callee := .builtin .append, args := #[s, x], argTypes := #[t, t] }) (ht : P.underlying t = some (.slice e)) (hi : P.info? e = some i) (B A : Option Addr) (n k c : Nat) (hle : n ≤ k)
    (hs : a.eval s = .slice B n k) (hx : a.eval x = .slice A 0 c) (hK : wpList P ops Q rest (a.put o.dst (.slice B n k)) w) : wpList P ops Q (o :: rest) a w := by
  refine wpList_plain hg fun K hK' => ?_
  have hrun : (Builtin.append_ #[t, t] o.type #[.slice B n k, .slice A 0 c]).run P w = .ok (.slice B n k) w := by
    cases A <;> cases B <;> simp [Builtin.append_, run_underlying ht, sizeOf, typeInfo, hi, Builtin.lenOf, Builtin.firstCells, loadCells, loadCellsFrom, storeCells, hle]
  unfold Oper.wp
  simp [execOp, hop, resolve, invoke, builtin, hs, hx, hrun, Result.andThen]
  exact hK' _ _ hK
theorem own_cap {w : World} {base : Nat} {e : TypeId} {sz n k : Nat} {B : Option Addr} {xs : List Value} (h : w.ownsRow base e sz (.slice B n k) n xs) : n ≤ k := by
  rcases h.2 with ⟨h1, h2⟩ | ⟨g, cap, cur, h1, _, _, h2, _⟩
  · injection h1 with h1 h3 h4; omega
  · injection h1 with h1 h3 h4; omega
theorem wpList_append_all {ops : Array Oper} {rest : List Oper} {o : Oper} {a : Act} {w : World} {Q : Exit → Act → World → Prop} (hgd : o.guard = none) (s x : Operand) (t : TypeId)
    (ho : o.op = .call { callee := .builtin .append, args := #[s, x], argTypes := #[t, t] })
    (base : Nat) (e : TypeId) (i : TypeInfo) (z : Value) (size bytes : Nat) (ht : P.underlying t = some (.slice e)) (hi : P.info? e = some i) (hz : i.zero = some z)
    (hsize : i.size = size) (hby : i.bytes = bytes) (hzs : z.cells.size = size) (hsz : 0 < size)
    (B : Option Addr) (n k : Nat) (xs : List Value) (hs : a.eval s = .slice B n k) (hown : w.ownsRow base e size (.slice B n k) n xs)
    (A : Option Addr) (m c : Nat) (news : List Value) (hx : a.eval x = .slice A m c) (hl : news.length = m * size) (hA : 0 < m → ∃ b off, A = some ⟨b, off, none⟩ ∧ ∀ j u, news[j]? = some u → w.cell? ((⟨b, off, none⟩ : Addr).add j) = some u) (h1 : ∀ u ∈ news, u.oneCell' = true)
    (h63 : n + m ≤ maxLen) (hbytes : (n + m) * bytes ≤ 140737488355328) (hbase : base ≤ w.heap.size) (H : Nat) (hH : w.heap.size = H)
    (h : ∀ B' k' w', w'.ownsRow base e size (.slice B' (n + m) k') (n + m) (xs ++ news) → w.grownBy w' (Value.slice B n k).ownBlock → (∀ g, (Value.slice B' (n + m) k').ownBlock = some g → (Value.slice B n k).ownBlock = some g ∨ g = H) → wpList P ops Q rest (a.put o.dst (.slice B' (n + m) k')) w') : wpList P ops Q (o :: rest) a w := by
  rcases Nat.eq_zero_or_pos m with h0 | h0
  · subst h0
    have hn : news = [] := List.eq_nil_of_length_eq_zero (by simpa using hl)
    subst hn
    have hcap := own_cap hown
    refine wpList_append_nothing w hgd s x t e i ho ht hi B A n k c hcap hs hx ?_
    exact h B k w (by simpa using hown) (World.grownBy.refl _ _) (fun g hg => .inl (by simpa using hg))
  · obtain ⟨b, off, rfl, hnews⟩ := hA h0
    exact wpList_append_lies w hgd s x t ho base e i z size bytes ht hi hz hsize hby hzs hsz _ n xs hs hown ⟨b, off, none⟩ m c news hx hl hnews h1 h0 h63 hbytes hbase H hH
      (fun g cap w' h2 h3 h4 _ => h _ _ w' h2 h3 (fun g' hg => by
        have : g = g' := by simpa [Value.ownBlock] using hg
        subst this; exact h4))
theorem one_at {w : World} {g sz : Nat} {t : TypeId} {cs : Array Value} {F : Nat → Nat → Value} (hb : Blk w g t cs) (h : ∀ j, j < sz → cs[j]? = some (F 0 j)) : SlAt w w.heap.size sz (some ⟨g, 0, none⟩) 1 F := fun _ => ⟨g, 0, rfl, hb.lt, fun k j hk hj => by
  obtain rfl : k = 0 := by omega
  rw [cell_of_row _ _ _ _ _ _ hb]
  simpa using h j hj⟩
/-- append of a list to a list that the call owns: the new list stands behind a name. -/
theorem wpList_append_list {ops : Array Oper} {rest : List Oper} {o : Oper} {a : Act} {w : World} {Q : Exit → Act → World → Prop} {α : Type} {f : α → List Value} {F : List α → Nat → Nat → Value} {sz : Nat} (hf : ∀ a, (f a).length = sz)
    (hF : ∀ (l : List α) (k : Nat) (hk : k < l.length) (j : Nat), j < sz → (f l[k])[j]? = some (F l k j)) (h1 : ∀ a u, u ∈ f a → u.oneCell' = true) (hgd : o.guard = none) (s x : Operand) (t : TypeId)
    (ho : o.op = .call { callee := .builtin .append, args := #[s, x], argTypes := #[t, t] })
    (base : Nat) (e : TypeId) (i : TypeInfo) (z : Value) (bytes : Nat) (ht : P.underlying t = some (.slice e)) (hi : P.info? e = some i) (hz : i.zero = some z)
    (hsize : i.size = sz) (hby : i.bytes = bytes) (hzs : z.cells.size = sz) (hsz : 0 < sz)
    (B : Option Addr) (k : Nat) (xs : List α) (hs : a.eval s = .slice B xs.length k) (hown : w.ownsRow base e sz (.slice B xs.length k) xs.length (xs.flatMap f))
    (A : Option Addr) (c : Nat) (ys : List α) (hx : a.eval x = .slice A ys.length c) (hA : SlAt w w.heap.size sz A ys.length (F ys))
    (h63 : xs.length + ys.length ≤ maxLen) (hbytes : (xs.length + ys.length) * bytes ≤ 140737488355328) (hbase : base ≤ w.heap.size) (H : Nat) (hH : w.heap.size = H)
    (h : ∀ L B' k' w', Hid (L = xs ++ ys) → w'.ownsRow base e sz (.slice B' L.length k') L.length (L.flatMap f) → w.grownBy w' (Value.slice B xs.length k).ownBlock → (∀ g, (Value.slice B' L.length k').ownBlock = some g → (Value.slice B xs.length k).ownBlock = some g ∨ g = H) → wpList P ops Q rest (a.put o.dst (.slice B' L.length k')) w') : wpList P ops Q (o :: rest) a w := by
  have hlen : (ys.flatMap f).length = ys.length * sz := by
    clear hA hx hbytes h63 h
    induction ys with
    | nil => simp
    | cons a l ih => rw [List.flatMap_cons, List.length_append, hf, ih, List.length_cons, Nat.add_mul, Nat.one_mul, Nat.add_comm]
  refine wpList_append_all hgd s x t ho base e i z sz bytes ht hi hz hsize hby hzs hsz B xs.length k _ hs hown A ys.length c (ys.flatMap f) hx hlen (fun h0 => ?_) (fun u hu => by obtain ⟨a, _, ha⟩ := List.mem_flatMap.1 hu; exact h1 a u ha) h63 hbytes hbase H hH (fun B' k' w' g1 g2 g3 => ?_)
  · obtain ⟨b, off, rfl, _, hc⟩ := hA h0
    exact ⟨b, off, rfl, news_of hsz hf (hF ys) (fun k j hk hj => by rw [Nat.add_assoc]; exact hc k j hk hj)⟩
  · have e1 : (xs ++ ys).length = xs.length + ys.length := List.length_append
    have := h (xs ++ ys) B' k' w' (Lib.hid rfl) (by rw [e1, List.flatMap_append]; exact g1) g2 (by rw [e1]; exact g3)
    rwa [e1] at this
theorem own_empty {w : World} {base g : Nat} {e : TypeId} {sz : Nat} (hb : Blk w g e #[]) (hg : base ≤ g) : w.ownsRow base e sz (.slice (some ⟨g, 0, none⟩) 0 0) 0 [] :=
  ⟨by simp, .inr ⟨g, 0, #[], rfl, hg, hb, Nat.le_refl _, by unfold maxLen; omega, by simp, by simp⟩⟩
end
end

section
open Go.RowKit
/-- a place where the walk stops. -/
structure Paused (p : Prop) : Prop where
  out : p
theorem pause_at {P : Program} {rest : List Oper} {A : Array Oper} {o : Oper} {a : Act} {w : World} {Q : Exit → Act → World → Prop} (d : Nat) (hd : o.dst = some d) (h : Paused (wpList P A Q (o :: rest) a w)) : wpList P A Q (o :: rest) a w := h.out

theorem own_set {w : World} {base : Nat} {e : TypeId} {sz n : Nat} {v : Value} {xs : List Value} (h : w.ownsRow base e sz v n xs) {g : Nat} (hg : v.ownBlock = some g) {j : Nat} (hj : j < xs.length) (u : Value) : (w.setCell ⟨g, j, none⟩ u).ownsRow base e sz v n (xs.set j u) := by
  rcases h.2 with ⟨rfl, _⟩ | ⟨g', cap, cur, rfl, hb, hh, hnc, hcm, hsz, hc⟩
  · simp [Value.ownBlock] at hg
  · have : g' = g := by simpa [Value.ownBlock] using hg
    subst this
    refine ⟨by rw [List.length_set]; exact h.1, .inr ⟨g', cap, cur.setIfInBounds j u, rfl, hb, ?_, hnc, hcm, by simpa using hsz, ?_⟩⟩
    · simp [World.setCell, Array.getElem?_modify, hh]
    · rw [Array.toList_setIfInBounds, List.take_set, hc]
theorem own_cell {w : World} {base : Nat} {e : TypeId} {sz n : Nat} {v : Value} {xs : List Value} (h : w.ownsRow base e sz v n xs) (hn : 0 < n) :
    ∃ g cap, v = .slice (some ⟨g, 0, none⟩) n cap ∧ base ≤ g ∧ g < w.heap.size ∧ n ≤ cap ∧ cap ≤ maxLen ∧ (∀ i, i < xs.length → w.cell? ⟨g, i, none⟩ = xs[i]?) ∧ ∀ i, w.frozen? ⟨g, i, none⟩ = false := by
  rcases h.2 with ⟨_, h0⟩ | ⟨g, cap, cur, rfl, hb, hh, hnc, hcm, hsz, hc⟩
  · omega
  · refine ⟨g, cap, rfl, hb, (Array.getElem?_eq_some_iff.1 hh).1, hnc, hcm, fun i hi => ?_, fun i => by simp [World.frozen?, hh]⟩
    rw [cell_of_row w g i cur e (0, 0) hh, ← hc, List.getElem?_take, if_pos (by rw [← h.1]; exact hi), Array.getElem?_toList]
theorem flat_set {α : Type} {f : α → List Value} {sz : Nat} (hf : ∀ a, (f a).length = sz) : ∀ {l : List α} {k : Nat} (hk : k < l.length) {j : Nat}, j < sz → ∀ {u : Value} {a : α}, (f l[k]).set j u = f a → (l.flatMap f).set (k * sz + j) u = (l.set k a).flatMap f
  | x :: l, 0, _, j, hj, u, a, h => by
    rw [List.flatMap_cons, List.set_cons_zero, List.flatMap_cons, Nat.zero_mul, Nat.zero_add, List.set_append, if_pos (by rw [hf]; exact hj)]
    rw [show (f x).set j u = f a from h]
  | x :: l, k + 1, hk, j, hj, u, a, h => by
    rw [List.flatMap_cons, List.set_cons_succ, List.flatMap_cons, List.set_append, if_neg (by rw [hf, Nat.add_mul]; omega), hf, show (k + 1) * sz + j - sz = k * sz + j by rw [Nat.add_mul]; omega]
    rw [flat_set hf (l := l) (k := k) (by simpa using hk) hj h]
theorem ints_cell {w : World} {base : Nat} {e : TypeId} {v : Value} {l : List Int} (h : w.ownsRow base e 1 v l.length (l.map (Value.int .i64))) {k : Nat} (hk : k < l.length) :
    ∃ g cap, v = .slice (some ⟨g, 0, none⟩) l.length cap ∧ base ≤ g ∧ g < w.heap.size ∧ w.cell? ⟨g, k, none⟩ = some (.int .i64 (gI l k)) ∧ ∀ i, w.frozen? ⟨g, i, none⟩ = false := by
  obtain ⟨g, cap, rfl, hb, hl, _, _, hc, hf⟩ := own_cell h (by omega)
  exact ⟨g, cap, rfl, hb, hl, by rw [hc _ (by simpa using hk)]; simp [gI, hk], hf⟩
theorem ints_set {w : World} {base : Nat} {e : TypeId} {v : Value} {l : List Int} (h : w.ownsRow base e 1 v l.length (l.map (Value.int .i64))) {g : Nat} (hg : v.ownBlock = some g) {k : Nat} (hk : k < l.length) (x : Int) :
    (w.setCell ⟨g, k, none⟩ (.int .i64 x)).ownsRow base e 1 v (l.set k x).length ((l.set k x).map (Value.int .i64)) := by
  have := own_set h hg (j := k) (by simpa using hk) (.int .i64 x)
  rw [List.length_set, List.map_set]
  exact this
end

section
open Go.RowKit
/-- the order in which a region's operations are gone through. -/
inductive Tr where
  | done : Tr
  | quiet : Nat → Tr → Tr
  | loud : Nat → Tr → Tr
  | fork : Nat → Tr → Nat → Tr → Tr
def Tr.len : Tr → Nat
  | .done => 0
  | .quiet _ t => t.len + 1
  | .loud _ t => t.len + 1
  | .fork _ t _ _ => t.len + 1
section
variable {P : Program} {ops : Array Oper} {md : Region.Mode} {S : World → Prop} {Q : Exit → Act → World → Prop}
def wpTr (P : Program) (ops : Array Oper) (Q : Exit → Act → World → Prop) (S : World → Prop) (T : Act → World → Prop) : Tr → Act → World → Prop
  | .done, a, w => T a w
  | .quiet k t, a, w => ∀ o, ops[k]? = some o → wpQuiet P ops S (fun a' => wpTr P ops Q S T t a' w) [o] a
  | .loud k t, a, w => wpOne P ops Q k (fun a' w' => S w' ∧ wpTr P ops Q S T t a' w') a w
  | .fork i t j u, a, w => wpOne P ops Q i (fun a' w' => S w' ∧ wpTr P ops Q S T t a' w') a w ∧ wpOne P ops Q j (fun a' w' => S w' ∧ wpTr P ops Q S T u a' w') a w

def trB (md : Region.Mode) (ops : Array Oper) (n g : Nat) : Tr → Array Bool → Bool
  | .done, listed => Region.seqB md ops g n listed
  | .quiet k t, listed => decide (k < n) && ((Region.ready md ops listed).contains k && Region.free md ops listed k && (match ops[k]? with | some o => mute o.op | none => false)) && trB md ops n g t (listed.setIfInBounds k true)
  | .loud k t, listed => decide (k < n) && decide (Region.ready md ops listed = [k]) && trB md ops n g t (listed.setIfInBounds k true)
  | .fork i t j u, listed => decide (Region.ready md ops listed = [i, j]) && decide (i < n) && decide (j < n) && decide (t.len = u.len) && trB md ops n g t (listed.setIfInBounds i true) && trB md ops n g u (listed.setIfInBounds j true)

def treeB (md : Region.Mode) (ops : Array Oper) (n : Nat) (t : Tr) : Bool :=
  Region.noSelect ops && decide (n < ops.size) && Region.sinkB md ops n && Region.chainB md ops n && trB md ops n (ops.size - n) t (Array.replicate ops.size false)

theorem tr_head {n g : Nat} {T : Act → World → Prop} (hsel : Region.noSelect ops = true) (hQ : ∀ d v c a w, Q (.panic c) (a.put d v) w → Q (.panic c) a w)
    (hs : Region.sinkB md ops n = true) (hc : Region.chainB md ops n = true) (hn : n < ops.size) :
    ∀ (t : Tr) (listed : Array Bool) (a : Act) (w : World), HeadInv md ops n listed → trB md ops n g t listed = true → S w →
      wpTr P ops Q S T t a w → wpAnyLH P md ops Q S n (fun listed' a' w' => Region.seqB md ops g n listed' = true ∧ T a' w') t.len listed a w
  | .done, listed, a, w, _, hB, _, h => ⟨hB, h⟩
  | .fork i t j u, listed, a, w, inv, hB, hS, h => by
    simp only [trB, Bool.and_eq_true, decide_eq_true_eq] at hB
    obtain ⟨⟨⟨⟨⟨hr, hi⟩, hj⟩, hl⟩, hA⟩, hBB⟩ := hB
    refine ⟨by rw [hr]; simp, fun k hk => ?_⟩
    rw [hr] at hk
    rcases List.mem_cons.1 hk with rfl | hk
    · exact ⟨hi, wpOp_mono (fun a' w' h' => ⟨h'.1, tr_head hsel hQ hs hc hn t _ a' w' (inv.set (by rw [hr]; simp) hi) hA h'.1 h'.2⟩) (wpOp_one hn hi h.1)⟩
    · obtain rfl := List.mem_singleton.1 hk
      refine ⟨hj, wpOp_mono (fun a' w' h' => ⟨h'.1, ?_⟩) (wpOp_one hn hj h.2)⟩
      rw [hl]
      exact tr_head hsel hQ hs hc hn u _ a' w' (inv.set (by rw [hr]; simp) hj) hBB h'.1 h'.2
  | .loud k t, listed, a, w, inv, hB, hS, h => by
    simp only [trB, Bool.and_eq_true, decide_eq_true_eq] at hB
    obtain ⟨⟨hk, hr⟩, hB'⟩ := hB
    have h' : wpOne P ops Q k (fun a' w' => S w' ∧ wpTr P ops Q S T t a' w') a w := h
    refine ⟨by rw [hr]; simp, fun x hx => ?_⟩
    rw [hr] at hx
    have hik : x = k := by simpa using hx
    subst hik
    exact ⟨hk, wpOp_mono (fun a' w' h' => ⟨h'.1, tr_head hsel hQ hs hc hn t _ a' w' (inv.set (by rw [hr]; simp) hk) hB' h'.1 h'.2⟩) (wpOp_one hn hk h')⟩
  | .quiet k t, listed, a, w, inv, hB, hS, h => by
    simp only [trB, Bool.and_eq_true, decide_eq_true_eq] at hB
    obtain ⟨⟨hk, ⟨hr, hf⟩, hm⟩, hB'⟩ := hB
    obtain ⟨o, hk0⟩ : ∃ o, ops[k]? = some o := ⟨ops[k]'(by omega), by simp [show k < ops.size by omega]⟩
    simp only [hk0] at hm
    have h' : wpQuiet P ops S (fun a' => wpTr P ops Q S T t a' w) [o] a := h o hk0
    have hr' : k ∈ Region.ready md ops listed := by simpa using hr
    have hst : qOp P ops S k (wpQuiet P ops S (fun a' => wpTr P ops Q S T t a' w) []) a := by unfold qOp; simp only [hk0]; exact h'
    obtain ⟨v, hy, hK⟩ := yieldsIn_of_qOp hk0 hst
    exact wpAnyLH_first hk0 (Region.noSelect_spec hsel) (hQ _ _) hs hc hn hk (fun listed' a' w' hL => seqB_ready hL.1) t.len listed a w inv (Region.free_spec hk0 hf) hr' (mute_if hm hy) hS
      (tr_head hsel hQ hs hc hn t _ _ w (inv.set hr' hk) hB' hS hK)

/-- what is left of the region: a tree. -/
def wpTree (P : Program) (l : List Oper) (Q : Exit → Act → World → Prop) (S : World → Prop) (n : Nat) (t : Tr) (a : Act) (w : World) : Prop :=
  wpTr P l.toArray Q S (fun a'' w'' => wpList P l.toArray Q (l.drop n) a'' w'') t a w
theorem tree_done {l r : List Oper} {n : Nat} {a : Act} {w : World} (hr : l.drop n = r) (h : wpList P l.toArray Q r a w) : wpTree P l Q S n .done a w := by subst hr; exact h
theorem tree_loud {l : List Oper} {n k : Nat} {t : Tr} {o : Oper} {a : Act} {w : World} (ho : l[k]? = some o)
    (h : wpList P l.toArray (fun e a' w' => match e with | .normal => S w' ∧ wpTree P l Q S n t a' w' | e => Q e a' w') [o] a w) : wpTree P l Q S n (.loud k t) a w := by
  show wpOne P l.toArray Q k _ a w
  intro o' ho'
  have : o' = o := by rw [List.getElem?_toArray, ho] at ho'; exact (Option.some.inj ho').symm
  subst this
  exact h
theorem tree_quiet {l : List Oper} {n k : Nat} {t : Tr} {o : Oper} {a : Act} {w : World} (ho : l[k]? = some o)
    (h : wpQuiet P l.toArray S (fun a' => wpTree P l Q S n t a' w) [o] a) : wpTree P l Q S n (.quiet k t) a w := by
  intro o' ho'
  have : o' = o := by rw [List.getElem?_toArray, ho] at ho'; exact (Option.some.inj ho').symm
  subst this
  exact h
theorem tree_fork {l : List Oper} {n i j : Nat} {t u : Tr} {oi oj : Oper} {a : Act} {w : World} (hi : l[i]? = some oi) (hj : l[j]? = some oj)
    (h1 : wpList P l.toArray (fun e a' w' => match e with | .normal => S w' ∧ wpTree P l Q S n t a' w' | e => Q e a' w') [oi] a w)
    (h2 : wpList P l.toArray (fun e a' w' => match e with | .normal => S w' ∧ wpTree P l Q S n u a' w' | e => Q e a' w') [oj] a w) : wpTree P l Q S n (.fork i t j u) a w := by
  refine ⟨fun o' ho' => ?_, fun o' ho' => ?_⟩
  · have : o' = oi := by rw [List.getElem?_toArray, hi] at ho'; exact (Option.some.inj ho').symm
    subst this
    exact h1
  · have : o' = oj := by rw [List.getElem?_toArray, hj] at ho'; exact (Option.some.inj ho').symm
    subst this
    exact h2
theorem wp_region_tree {id : Nat} {a : Act} {w : World} {l : List Oper} (n : Nat) (t : Tr) (S : World → Prop) (hm : P.follows .mixedOrders = true)
    (hB : (treeB .any l.toArray n t && decide (t.len = n)) = true) (hQ : ∀ d v c a w, Q (.panic c) (a.put d v) w → Q (.panic c) a w)
    (hS : S w.drew) (h : wpTree P l Q S n t a w.drew) : (Code.region id l.toArray true).wp P Q a w := by
  simp only [treeB, Bool.and_eq_true, decide_eq_true_eq] at hB
  obtain ⟨⟨⟨⟨⟨hsel, hn⟩, hs⟩, hc⟩, hlex⟩, hlen⟩ := hB
  have hdl : (l.drop n).length = l.toArray.size - n := by simp
  have inv0 : HeadInv .any l.toArray n (Array.replicate l.toArray.size false) :=
    ⟨by simp, fun j oj _ hl => (by rw [getD_replicate_false] at hl; cases hl), fun t _ ht => getD_in (by simpa using ht) (getD_replicate_false _ _)⟩
  have H := tr_head (md := .any) (g := l.toArray.size - n) (T := fun a'' w'' => wpList P l.toArray Q (l.drop n) a'' w'') hsel hQ hs hc hn t _ a _ inv0 hlex hS h
  refine wp_region_any hm ?_
  have := wpAny_of_headH (g := l.toArray.size - n) (fun listed' a' w' hL => by
    have := wpAny_of_seq (md := .any) (l.drop n) n listed' a' w' (fun j => by simp [List.getElem?_drop]) (by rw [hdl]; exact hL.1) hL.2
    rwa [hdl] at this) _ _ _ _ H
  rw [hlen, show n + (l.toArray.size - n) = l.toArray.size by omega] at this
  exact this
theorem wp_region_ext_tree {id : Nat} {a : Act} {w : World} {l : List Oper} (n : Nat) (t : Tr) (hm : P.follows .mixedOrders = true)
    (hB : (treeB .any l.toArray n t && decide (t.len = n)) = true) (hQ : ∀ d v c a w, Q (.panic c) (a.put d v) w → Q (.panic c) a w)
    (h : wpTree P l Q (fun w' => ∃ x : Ex w, w' = x.W) n t a w.drew) : (Code.region id l.toArray true).wp P Q a w :=
  wp_region_tree n t _ hm hB hQ (inEx (Below.refl w.heap.size w).drew) h
end
end

section
open Go.RowKit
/-- the order in which a region's operations are gone through. -/
inductive Tq where
  | done : Tq
  | quiet : Nat → Tq → Tq
  | loud : Nat → Tq → Tq
  | fork : Nat → Tq → Nat → Tq → Tq
  | fork3 : Nat → Tq → Nat → Tq → Nat → Tq → Tq
def Tq.len : Tq → Nat
  | .done => 0
  | .quiet _ t => t.len + 1
  | .loud _ t => t.len + 1
  | .fork _ t _ _ => t.len + 1
  | .fork3 _ t _ _ _ _ => t.len + 1
section
variable {P : Program} {ops : Array Oper} {md : Region.Mode} {S : World → Prop} {Q : Exit → Act → World → Prop}
def wqTr (P : Program) (ops : Array Oper) (Q : Exit → Act → World → Prop) (S : World → Prop) (T : Act → World → Prop) : Tq → Act → World → Prop
  | .done, a, w => T a w
  | .quiet k t, a, w => ∀ o, ops[k]? = some o → wpQuiet P ops S (fun a' => wqTr P ops Q S T t a' w) [o] a
  | .loud k t, a, w => wpOne P ops Q k (fun a' w' => S w' ∧ wqTr P ops Q S T t a' w') a w
  | .fork i t j u, a, w => wpOne P ops Q i (fun a' w' => S w' ∧ wqTr P ops Q S T t a' w') a w ∧ wpOne P ops Q j (fun a' w' => S w' ∧ wqTr P ops Q S T u a' w') a w
  | .fork3 i t j u k v, a, w => wpOne P ops Q i (fun a' w' => S w' ∧ wqTr P ops Q S T t a' w') a w ∧ wpOne P ops Q j (fun a' w' => S w' ∧ wqTr P ops Q S T u a' w') a w ∧ wpOne P ops Q k (fun a' w' => S w' ∧ wqTr P ops Q S T v a' w') a w

def tqB (md : Region.Mode) (ops : Array Oper) (n g : Nat) : Tq → Array Bool → Bool
  | .done, listed => Region.seqB md ops g n listed
  | .quiet k t, listed => decide (k < n) && ((Region.ready md ops listed).contains k && Region.free md ops listed k && (match ops[k]? with | some o => mute o.op | none => false)) && tqB md ops n g t (listed.setIfInBounds k true)
  | .loud k t, listed => decide (k < n) && decide (Region.ready md ops listed = [k]) && tqB md ops n g t (listed.setIfInBounds k true)
  | .fork i t j u, listed => decide (Region.ready md ops listed = [i, j]) && decide (i < n) && decide (j < n) && decide (t.len = u.len) && tqB md ops n g t (listed.setIfInBounds i true) && tqB md ops n g u (listed.setIfInBounds j true)
  | .fork3 i t j u k v, listed => decide (Region.ready md ops listed = [i, j, k]) && decide (i < n) && decide (j < n) && decide (k < n) && decide (t.len = u.len) && decide (t.len = v.len) && tqB md ops n g t (listed.setIfInBounds i true) && tqB md ops n g u (listed.setIfInBounds j true) && tqB md ops n g v (listed.setIfInBounds k true)

def tqeB (md : Region.Mode) (ops : Array Oper) (n : Nat) (t : Tq) : Bool :=
  Region.noSelect ops && decide (n < ops.size) && Region.sinkB md ops n && Region.chainB md ops n && tqB md ops n (ops.size - n) t (Array.replicate ops.size false)

theorem tq_head {n g : Nat} {T : Act → World → Prop} (hsel : Region.noSelect ops = true) (hQ : ∀ d v c a w, Q (.panic c) (a.put d v) w → Q (.panic c) a w)
    (hs : Region.sinkB md ops n = true) (hc : Region.chainB md ops n = true) (hn : n < ops.size) :
    ∀ (t : Tq) (listed : Array Bool) (a : Act) (w : World), HeadInv md ops n listed → tqB md ops n g t listed = true → S w →
      wqTr P ops Q S T t a w → wpAnyLH P md ops Q S n (fun listed' a' w' => Region.seqB md ops g n listed' = true ∧ T a' w') t.len listed a w
  | .done, listed, a, w, _, hB, _, h => ⟨hB, h⟩
  | .fork i t j u, listed, a, w, inv, hB, hS, h => by
    simp only [tqB, Bool.and_eq_true, decide_eq_true_eq] at hB
    obtain ⟨⟨⟨⟨⟨hr, hi⟩, hj⟩, hl⟩, hA⟩, hBB⟩ := hB
    refine ⟨by rw [hr]; simp, fun k hk => ?_⟩
    rw [hr] at hk
    rcases List.mem_cons.1 hk with rfl | hk
    · exact ⟨hi, wpOp_mono (fun a' w' h' => ⟨h'.1, tq_head hsel hQ hs hc hn t _ a' w' (inv.set (by rw [hr]; simp) hi) hA h'.1 h'.2⟩) (wpOp_one hn hi h.1)⟩
    · obtain rfl := List.mem_singleton.1 hk
      refine ⟨hj, wpOp_mono (fun a' w' h' => ⟨h'.1, ?_⟩) (wpOp_one hn hj h.2)⟩
      rw [hl]
      exact tq_head hsel hQ hs hc hn u _ a' w' (inv.set (by rw [hr]; simp) hj) hBB h'.1 h'.2
  | .fork3 i t j u l v, listed, a, w, inv, hB, hS, h => by
    simp only [tqB, Bool.and_eq_true, decide_eq_true_eq] at hB
    obtain ⟨⟨⟨⟨⟨⟨⟨⟨hr, hi⟩, hj⟩, hl⟩, hl1⟩, hl2⟩, hA⟩, hBB⟩, hC⟩ := hB
    refine ⟨by rw [hr]; simp, fun k hk => ?_⟩
    rw [hr] at hk
    rcases List.mem_cons.1 hk with rfl | hk
    · exact ⟨hi, wpOp_mono (fun a' w' h' => ⟨h'.1, tq_head hsel hQ hs hc hn t _ a' w' (inv.set (by rw [hr]; simp) hi) hA h'.1 h'.2⟩) (wpOp_one hn hi h.1)⟩
    · rcases List.mem_cons.1 hk with rfl | hk
      · refine ⟨hj, wpOp_mono (fun a' w' h' => ⟨h'.1, ?_⟩) (wpOp_one hn hj h.2.1)⟩
        show wpAnyLH P md ops Q S n _ t.len _ _ _
        rw [hl1]
        exact tq_head hsel hQ hs hc hn u _ a' w' (inv.set (by rw [hr]; simp) hj) hBB h'.1 h'.2
      · obtain rfl := List.mem_singleton.1 hk
        refine ⟨hl, wpOp_mono (fun a' w' h' => ⟨h'.1, ?_⟩) (wpOp_one hn hl h.2.2)⟩
        show wpAnyLH P md ops Q S n _ t.len _ _ _
        rw [hl2]
        exact tq_head hsel hQ hs hc hn v _ a' w' (inv.set (by rw [hr]; simp) hl) hC h'.1 h'.2
  | .loud k t, listed, a, w, inv, hB, hS, h => by
    simp only [tqB, Bool.and_eq_true, decide_eq_true_eq] at hB
    obtain ⟨⟨hk, hr⟩, hB'⟩ := hB
    have h' : wpOne P ops Q k (fun a' w' => S w' ∧ wqTr P ops Q S T t a' w') a w := h
    refine ⟨by rw [hr]; simp, fun x hx => ?_⟩
    rw [hr] at hx
    have hik : x = k := by simpa using hx
    subst hik
    exact ⟨hk, wpOp_mono (fun a' w' h' => ⟨h'.1, tq_head hsel hQ hs hc hn t _ a' w' (inv.set (by rw [hr]; simp) hk) hB' h'.1 h'.2⟩) (wpOp_one hn hk h')⟩
  | .quiet k t, listed, a, w, inv, hB, hS, h => by
    simp only [tqB, Bool.and_eq_true, decide_eq_true_eq] at hB
    obtain ⟨⟨hk, ⟨hr, hf⟩, hm⟩, hB'⟩ := hB
    obtain ⟨o, hk0⟩ : ∃ o, ops[k]? = some o := ⟨ops[k]'(by omega), by simp [show k < ops.size by omega]⟩
    simp only [hk0] at hm
    have h' : wpQuiet P ops S (fun a' => wqTr P ops Q S T t a' w) [o] a := h o hk0
    have hr' : k ∈ Region.ready md ops listed := by simpa using hr
    have hst : qOp P ops S k (wpQuiet P ops S (fun a' => wqTr P ops Q S T t a' w) []) a := by unfold qOp; simp only [hk0]; exact h'
    obtain ⟨v, hy, hK⟩ := yieldsIn_of_qOp hk0 hst
    exact wpAnyLH_first hk0 (Region.noSelect_spec hsel) (hQ _ _) hs hc hn hk (fun listed' a' w' hL => seqB_ready hL.1) t.len listed a w inv (Region.free_spec hk0 hf) hr' (mute_if hm hy) hS
      (tq_head hsel hQ hs hc hn t _ _ w (inv.set hr' hk) hB' hS hK)

/-- what is left of the region: a tree. -/
def wqTree (P : Program) (l : List Oper) (Q : Exit → Act → World → Prop) (S : World → Prop) (n : Nat) (t : Tq) (a : Act) (w : World) : Prop :=
  wqTr P l.toArray Q S (fun a'' w'' => wpList P l.toArray Q (l.drop n) a'' w'') t a w
theorem tq_done {l r : List Oper} {n : Nat} {a : Act} {w : World} (hr : l.drop n = r) (h : wpList P l.toArray Q r a w) : wqTree P l Q S n .done a w := by subst hr; exact h
theorem tq_loud {l : List Oper} {n k : Nat} {t : Tq} {o : Oper} {a : Act} {w : World} (ho : l[k]? = some o)
    (h : wpList P l.toArray (fun e a' w' => match e with | .normal => S w' ∧ wqTree P l Q S n t a' w' | e => Q e a' w') [o] a w) : wqTree P l Q S n (.loud k t) a w := by
  show wpOne P l.toArray Q k _ a w
  intro o' ho'
  have : o' = o := by rw [List.getElem?_toArray, ho] at ho'; exact (Option.some.inj ho').symm
  subst this
  exact h
theorem tq_quiet {l : List Oper} {n k : Nat} {t : Tq} {o : Oper} {a : Act} {w : World} (ho : l[k]? = some o)
    (h : wpQuiet P l.toArray S (fun a' => wqTree P l Q S n t a' w) [o] a) : wqTree P l Q S n (.quiet k t) a w := by
  intro o' ho'
  have : o' = o := by rw [List.getElem?_toArray, ho] at ho'; exact (Option.some.inj ho').symm
  subst this
  exact h
theorem tq_fork {l : List Oper} {n i j : Nat} {t u : Tq} {oi oj : Oper} {a : Act} {w : World} (hi : l[i]? = some oi) (hj : l[j]? = some oj)
    (h1 : wpList P l.toArray (fun e a' w' => match e with | .normal => S w' ∧ wqTree P l Q S n t a' w' | e => Q e a' w') [oi] a w)
    (h2 : wpList P l.toArray (fun e a' w' => match e with | .normal => S w' ∧ wqTree P l Q S n u a' w' | e => Q e a' w') [oj] a w) : wqTree P l Q S n (.fork i t j u) a w := by
  refine ⟨fun o' ho' => ?_, fun o' ho' => ?_⟩
  · have : o' = oi := by rw [List.getElem?_toArray, hi] at ho'; exact (Option.some.inj ho').symm
    subst this
    exact h1
  · have : o' = oj := by rw [List.getElem?_toArray, hj] at ho'; exact (Option.some.inj ho').symm
    subst this
    exact h2
theorem tq_fork3 {l : List Oper} {n i j k : Nat} {t u v : Tq} {oi oj ok : Oper} {a : Act} {w : World} (hi : l[i]? = some oi) (hj : l[j]? = some oj) (hk : l[k]? = some ok)
    (h1 : wpList P l.toArray (fun e a' w' => match e with | .normal => S w' ∧ wqTree P l Q S n t a' w' | e => Q e a' w') [oi] a w)
    (h2 : wpList P l.toArray (fun e a' w' => match e with | .normal => S w' ∧ wqTree P l Q S n u a' w' | e => Q e a' w') [oj] a w)
    (h3 : wpList P l.toArray (fun e a' w' => match e with | .normal => S w' ∧ wqTree P l Q S n v a' w' | e => Q e a' w') [ok] a w) : wqTree P l Q S n (.fork3 i t j u k v) a w := by
  refine ⟨fun o' ho' => ?_, fun o' ho' => ?_, fun o' ho' => ?_⟩
  · have : o' = oi := by rw [List.getElem?_toArray, hi] at ho'; exact (Option.some.inj ho').symm
    subst this
    exact h1
  · have : o' = oj := by rw [List.getElem?_toArray, hj] at ho'; exact (Option.some.inj ho').symm
    subst this
    exact h2
  · have : o' = ok := by rw [List.getElem?_toArray, hk] at ho'; exact (Option.some.inj ho').symm
    subst this
    exact h3
theorem wp_region_tq {id : Nat} {a : Act} {w : World} {l : List Oper} (n : Nat) (t : Tq) (S : World → Prop) (hm : P.follows .mixedOrders = true)
    (hB : (tqeB .any l.toArray n t && decide (t.len = n)) = true) (hQ : ∀ d v c a w, Q (.panic c) (a.put d v) w → Q (.panic c) a w)
    (hS : S w.drew) (h : wqTree P l Q S n t a w.drew) : (Code.region id l.toArray true).wp P Q a w := by
  simp only [tqeB, Bool.and_eq_true, decide_eq_true_eq] at hB
  obtain ⟨⟨⟨⟨⟨hsel, hn⟩, hs⟩, hc⟩, hlex⟩, hlen⟩ := hB
  have hdl : (l.drop n).length = l.toArray.size - n := by simp
  have inv0 : HeadInv .any l.toArray n (Array.replicate l.toArray.size false) :=
    ⟨by simp, fun j oj _ hl => (by rw [getD_replicate_false] at hl; cases hl), fun t _ ht => getD_in (by simpa using ht) (getD_replicate_false _ _)⟩
  have H := tq_head (md := .any) (g := l.toArray.size - n) (T := fun a'' w'' => wpList P l.toArray Q (l.drop n) a'' w'') hsel hQ hs hc hn t _ a _ inv0 hlex hS h
  refine wp_region_any hm ?_
  have := wpAny_of_headH (g := l.toArray.size - n) (fun listed' a' w' hL => by
    have := wpAny_of_seq (md := .any) (l.drop n) n listed' a' w' (fun j => by simp [List.getElem?_drop]) (by rw [hdl]; exact hL.1) hL.2
    rwa [hdl] at this) _ _ _ _ H
  rw [hlen, show n + (l.toArray.size - n) = l.toArray.size by omega] at this
  exact this
theorem wp_region_ext_tq {id : Nat} {a : Act} {w : World} {l : List Oper} (n : Nat) (t : Tq) (hm : P.follows .mixedOrders = true)
    (hB : (tqeB .any l.toArray n t && decide (t.len = n)) = true) (hQ : ∀ d v c a w, Q (.panic c) (a.put d v) w → Q (.panic c) a w)
    (h : wqTree P l Q (fun w' => ∃ x : Ex w, w' = x.W) n t a w.drew) : (Code.region id l.toArray true).wp P Q a w :=
  wp_region_tq n t _ hm hB hQ (inEx (Below.refl w.heap.size w).drew) h
end
end

section
open Go.RowKit
/-- worlds in which only some older blocks have turned. -/
structure Fx (w : World) (R : Nat → Prop) where
  W : World
  h : Fr R w W
instance (w : World) (R : Nat → Prop) : Nonempty (Fx w R) := ⟨⟨w, Fr.refl R w⟩⟩
theorem Fx.cell? {w : World} {R : Nat → Prop} (x : Fx w R) (b o : Nat) (hb : b < w.heap.size) (hne : ¬ R b) : x.W.cell? ⟨b, o, none⟩ = w.cell? ⟨b, o, none⟩ := World.cell?_of_block (x.h.block b hb hne)
theorem inFx {w w' : World} {R : Nat → Prop} (h : Fr R w w') : ∃ x : Fx w R, w' = x.W := ⟨⟨w', h⟩, rfl⟩
theorem Fr.drew {R : Nat → Prop} {w w' : World} (h : Fr R w w') : Fr R w w'.drew := ⟨h.os, h.tape, h.output, h.size, h.block⟩
theorem wp_region_fx_tq {P : Program} {Q : Exit → Act → World → Prop} {id : Nat} {a : Act} {w : World} {l : List Oper} (R : Nat → Prop) (n : Nat) (t : Tq) (hm : P.follows .mixedOrders = true)
    (hB : (tqeB .any l.toArray n t && decide (t.len = n)) = true) (hQ : ∀ d v c a w, Q (.panic c) (a.put d v) w → Q (.panic c) a w)
    (h : wqTree P l Q (fun w' => ∃ x : Fx w R, w' = x.W) n t a w.drew) : (Code.region id l.toArray true).wp P Q a w :=
  wp_region_tq n t _ hm hB hQ (inFx (Fr.refl R w).drew) h
attribute [local go_sem] Ex.cell? Ex.frozen? Fx.cell?
end

section
open Go.RowKit
attribute [local go_sem] Ex.cell? Ex.frozen?
/-- a loop's relation, closed to the walk. -/
structure Rel (p : Act → World → Prop) (a : Act) (W : World) : Prop where
  out : p a W
end
end Go.Proofs.Ythihdiilokdidaa
end

section
namespace Go.Proofs.Ythihdiilokdidaa
open Go.RowKit Go.ChangeShapes Go.WideShapes Go.Deep
section
variable {H : Type} {enc : TypeId × Value → H} {w : World} {base : Nat} {spare : Nat → Bool} {held : Bool}
/-- a slice of elements of which more is known than their cells. -/
theorem tr_slR {fuel : Nat} {t e : TypeId} {cs : List Value} {x : DataW H × List MemPlace} (ht : Try.prog.underlying t = some (.slice e)) {sz : Nat} (hsz : 0 < sz) (hC : Try.prog.cellsOf e = sz) {α : Type} [Inhabited α] {c : α → List Value} {R : α → Prop}
    (hc : ∀ {n : Nat} {cs : List Value} {x : DataW H × List MemPlace}, DataW.trod enc Try.prog w base spare held n e cs = some x → ∃ a, cs = c a ∧ R a) (hlen : ∀ a, (c a).length = sz)
    (h : DataW.trod enc Try.prog w base spare held fuel t cs = some x) :
    ∃ (A : Option Addr) (l : List α) (cp : Nat), cs = [.slice A l.length cp] ∧ l.length ≤ cp ∧ cp ≤ maxLen ∧ (∀ a ∈ l, R a) ∧ ∀ F : Nat → Nat → Value, (∀ (k : Nat) (hk : k < l.length) (j : Nat), j < sz → (c l[k])[j]? = some (F k j)) → SlAt w w.heap.size sz A l.length F := by
  rcases open_slice ht h with ⟨rfl, _⟩ | ⟨a, len, cap, m, n, D, Pl, rfl, _, hl, hm, hmm, _, hi⟩
  · exact ⟨none, [], 0, rfl, Nat.le_refl _, by unfold maxLen; omega, (fun a ha => by cases ha), fun F _ h => by simp at h⟩
  · have hlm : len ≤ m := by rw [hmm]; split <;> omega
    have hex : ∀ i, ∃ y : α, i < len → (∃ cs', w.cells? base (a.add (i * sz)) sz = some cs' ∧ cs' = c y) ∧ R y := fun i => by
      by_cases hil : i < len
      · obtain ⟨cs', h1, h2⟩ := hi i (by omega)
        rw [hC] at h1
        obtain ⟨y, hy, hR⟩ := hc h2
        exact ⟨y, fun _ => ⟨⟨cs', h1, hy⟩, hR⟩⟩
      · exact ⟨default, fun h => absurd h hil⟩
    obtain ⟨f, hf⟩ := Classical.axiomOfChoice hex
    refine ⟨some a, (List.range len).map f, cap, by simp, by simpa using hl, hm, fun a ha => ?_, fun F hF h0 => ?_⟩
    · obtain ⟨i, hi', rfl⟩ := List.mem_map.1 ha
      exact (hf i (by simpa using hi')).2
    have hl0 : 0 < len := by simpa using h0
    obtain ⟨cs0, h1, h2⟩ := (hf 0 hl0).1
    obtain ⟨_, _, h3⟩ := World.cells?_some h1
    have h4 := h3 0 hsz
    rw [h2, List.getElem?_eq_getElem (by rw [hlen]; exact hsz)] at h4
    obtain ⟨b, off, spot⟩ := a
    have hspot : spot = none := by simpa [Addr.add] using World.cell?_spot h4
    subst hspot
    rw [Addr.add_lit, Addr.add_lit] at h4
    refine ⟨b, off, rfl, lt_of_cell h4, fun k j hk hj => ?_⟩
    have hk' : k < len := by simpa using hk
    obtain ⟨⟨csk, g1, g2⟩, _⟩ := hf k hk'
    obtain ⟨_, _, g3⟩ := World.cells?_some g1
    have g4 := g3 j hj
    rw [Addr.add_lit, Addr.add_lit, g2] at g4
    have g5 := hF k (by simpa using hk') j hj
    rw [List.getElem_map, List.getElem_range] at g5
    rw [show off + (k * sz + j) = off + k * sz + j by omega, g4, g5]
end
end Go.Proofs.Ythihdiilokdidaa
end

section
namespace Go.Proofs.Ythihdiilokdidaa

/-- a sum over a list. -/
def esum {α : Type} (g : α → Int) : List α → Int
  | [] => 0
  | e :: l => g e + esum g l
section
variable {α β : Type}
theorem esum_app (g : α → Int) : ∀ (l m : List α), esum g (l ++ m) = esum g l + esum g m
  | [], m => by simp [esum]
  | e :: l, m => by simp only [List.cons_append, esum, esum_app g l m]; omega
theorem esum_congr {g h : α → Int} : ∀ {l : List α}, (∀ e ∈ l, g e = h e) → esum g l = esum h l
  | [], _ => rfl
  | e :: l, k => by rw [esum, esum, k e (by simp), esum_congr (fun x hx => k x (by simp [hx]))]
theorem esum_add (g h : α → Int) : ∀ (l : List α), esum (fun e => g e + h e) l = esum g l + esum h l
  | [] => rfl
  | e :: l => by simp only [esum, esum_add g h l]; omega
theorem esum_sub (g h : α → Int) : ∀ (l : List α), esum (fun e => g e - h e) l = esum g l - esum h l
  | [] => rfl
  | e :: l => by simp only [esum, esum_sub g h l]; omega
theorem esum_zero : ∀ (l : List α), esum (fun _ => 0) l = 0
  | [] => rfl
  | e :: l => by simp only [esum, esum_zero l]; omega
theorem esum_le {g h : α → Int} : ∀ {l : List α}, (∀ e ∈ l, g e ≤ h e) → esum g l ≤ esum h l
  | [], _ => Int.le_refl _
  | e :: l, k => by
    have h1 := k e (by simp)
    have h2 := esum_le (l := l) (fun x hx => k x (by simp [hx]))
    simp only [esum]; omega
theorem esum_nonneg {g : α → Int} {l : List α} (h : ∀ e ∈ l, 0 ≤ g e) : 0 ≤ esum g l := by
  have := esum_le (g := fun _ => 0) h
  rwa [esum_zero] at this
/-- where all are at most, and the sums are the same, each is the same. -/
theorem esum_tight {g h : α → Int} : ∀ {l : List α}, (∀ e ∈ l, g e ≤ h e) → esum h l ≤ esum g l → ∀ e ∈ l, g e = h e
  | [], _, _, e, he => by cases he
  | x :: l, k, hs, e, he => by
    have h1 := k x (by simp)
    have h2 := esum_le (l := l) (fun y hy => k y (by simp [hy]))
    simp only [esum] at hs
    rcases List.mem_cons.1 he with rfl | he
    · omega
    · exact esum_tight (l := l) (fun y hy => k y (by simp [hy])) (by omega) e he
theorem esum_map (g : β → Int) (f : α → β) : ∀ (l : List α), esum g (l.map f) = esum (fun e => g (f e)) l
  | [] => rfl
  | e :: l => by simp only [List.map_cons, esum, esum_map g f l]
theorem esum_set (g : α → Int) : ∀ {l : List α} {k : Nat} (hk : k < l.length) (e : α), esum g (l.set k e) = esum g l + (g e - g l[k])
  | x :: l, 0, _, e => by simp only [List.set_cons_zero, esum, List.getElem_cons_zero]; omega
  | x :: l, k + 1, hk, e => by
    have := esum_set g (l := l) (k := k) (by simpa using hk) e
    simp only [List.set_cons_succ, esum, List.getElem_cons_succ]; omega
theorem esum_comm (g : α → β → Int) (l : List α) : ∀ (m : List β), esum (fun a => esum (fun b => g a b) m) l = esum (fun b => esum (fun a => g a b) l) m
  | [] => by simp only [esum]; exact esum_zero l
  | b :: m => by
    simp only [esum]
    rw [esum_add, esum_comm g l m]
theorem esum_neg (g : α → Int) : ∀ (l : List α), esum (fun e => - g e) l = - esum g l
  | [] => rfl
  | e :: l => by simp only [esum, esum_neg g l]; omega
theorem esum_mem {g : α → Int} {l : List α} (h : ∀ e ∈ l, 0 ≤ g e) {e : α} (he : e ∈ l) : g e ≤ esum g l := by
  induction l with
  | nil => cases he
  | cons x l ih =>
    have h2 := esum_nonneg (l := l) (fun y hy => h y (by simp [hy]))
    have h1 := h x (by simp)
    simp only [esum]
    rcases List.mem_cons.1 he with rfl | he
    · omega
    · have := ih (fun y hy => h y (by simp [hy])) he; omega
/-- over the first so many numbers only one counts. -/
theorem esum_one (n x : Nat) (c : Int) : esum (fun y => if x = y then c else 0) (List.range n) = if x < n then c else 0 := by
  induction n with
  | zero => simp [esum]
  | succ n ih =>
    rw [List.range_succ, esum_app, ih]
    simp only [esum]
    by_cases h : x = n
    · subst h; simp
    · rw [if_neg h]
      by_cases h2 : x < n
      · rw [if_pos h2, if_pos (by omega)]; omega
      · rw [if_neg h2, if_neg (by omega)]; omega
end

/-- a pipe between two numbers: how many grams at least and at most. -/
structure Pp where
  u : Nat
  v : Nat
  lo : Int
  hi : Int
/-- an edge of the net: what it can take, and what it takes. -/
structure Ed where
  u : Nat
  v : Nat
  cap : Int
  fl : Int
/-- what goes into x, less what goes out of it. -/
def inn (u v : Nat) (c : Int) (x : Nat) : Int := (if v = x then c else 0) - (if u = x then c else 0)
theorem inn_sum (n u v : Nat) (c : Int) (hu : u < n) (hv : v < n) (S : Nat → Bool) : esum (fun x => if S x then inn u v c x else 0) (List.range n) = (if S v then c else 0) - (if S u then c else 0) := by
  have h1 : ∀ x, (if S x then inn u v c x else 0) = (if v = x then (if S v then c else 0) else 0) - (if u = x then (if S u then c else 0) else 0) := fun x => by
    unfold inn
    by_cases hx : S x = true
    · rw [if_pos hx]
      by_cases h2 : v = x <;> by_cases h3 : u = x <;> simp [h2, h3, hx]
    · rw [if_neg hx]
      by_cases h2 : v = x <;> by_cases h3 : u = x <;> simp [h2, h3, hx]
  rw [esum_congr (fun x _ => h1 x), esum_sub, esum_one, esum_one, if_pos hu, if_pos hv]
theorem inn_sum' (n u v : Nat) (c : Int) (S : Nat → Bool) : esum (fun x => if S x then inn u v c x else 0) (List.range n) = (if v < n ∧ S v = true then c else 0) - (if u < n ∧ S u = true then c else 0) := by
  have h1 : ∀ x, (if S x then inn u v c x else 0) = (if v = x then (if S v then c else 0) else 0) - (if u = x then (if S u then c else 0) else 0) := fun x => by
    unfold inn
    by_cases hx : S x = true
    · rw [if_pos hx]
      by_cases h2 : v = x <;> by_cases h3 : u = x <;> simp [h2, h3, hx]
    · rw [if_neg hx]
      by_cases h2 : v = x <;> by_cases h3 : u = x <;> simp [h2, h3, hx]
  rw [esum_congr (fun x _ => h1 x), esum_sub, esum_one, esum_one]
  by_cases hu : u < n <;> by_cases hv : v < n <;> simp [hu, hv]
theorem inn_add (u v : Nat) (c d : Int) (x : Nat) : inn u v (c + d) x = inn u v c x + inn u v d x := by unfold inn; split <;> split <;> omega
theorem inn_sub (u v : Nat) (c d : Int) (x : Nat) : inn u v (c - d) x = inn u v c x - inn u v d x := by unfold inn; split <;> split <;> omega
theorem inn_zero (u v : Nat) (x : Nat) : inn u v 0 x = 0 := by unfold inn; split <;> split <;> omega

/-- pipes with grams that go through. -/
abbrev Pg := Pp × Int
/-- grams go through pipes: as many as may be, and nothing stays anywhere. -/
structure Goes (M : Nat) (l : List Pg) : Prop where
  bd : ∀ p ∈ l, p.1.lo ≤ p.2 ∧ p.2 ≤ p.1.hi
  bal : ∀ x, x < M → esum (fun p : Pg => inn p.1.u p.1.v p.2 x) l = 0
def CanGo (M : Nat) (ps : List Pp) : Prop := ∃ l : List Pg, l.map (·.1) = ps ∧ Goes M l
/-- what a node needs: what must come less what must go. -/
def needs (ps : List Pp) (x : Nat) : Int := esum (fun p => inn p.u p.v p.lo x) ps

/-- an edge without what it takes. -/
def Ed.shape (e : Ed) : Nat × Nat × Int := (e.u, e.v, e.cap)
/-- the edges of what is needed: from the source M, to the sink M + 1. -/
def supply (M : Nat) (nd : Nat → Int) (x : Nat) : List (Nat × Nat × Int) := if nd x > 0 then [(M, x, nd x)] else if nd x < 0 then [(x, M + 1, - nd x)] else []
def supplies (M : Nat) (nd : Nat → Int) (k : Nat) : List (Nat × Nat × Int) := (List.range k).flatMap (supply M nd)
/-- what flows into x. -/
def flows (es : List Ed) (x : Nat) : Int := esum (fun e => inn e.u e.v e.fl x) es
structure NetOk (N : Nat) (es : List Ed) : Prop where
  lt : ∀ e ∈ es, e.u < N ∧ e.v < N ∧ e.u ≠ e.v
  bd : ∀ e ∈ es, 0 ≤ e.fl ∧ e.fl ≤ e.cap

theorem esum_flat {α β : Type} (g : β → Int) (f : α → List β) : ∀ (l : List α), esum g (l.flatMap f) = esum (fun a => esum g (f a)) l
  | [] => rfl
  | a :: l => by rw [List.flatMap_cons, esum_app, esum, esum_flat g f l]
/-- what the edges of the supply would bring to x, were all full. -/
theorem supplies_inn (M : Nat) (nd : Nat → Int) {x : Nat} (hx : x < M) : esum (fun t => inn t.1 t.2.1 t.2.2 x) (supplies M nd M) = nd x := by
  unfold supplies
  rw [esum_flat]
  have h : ∀ y ∈ List.range M, esum (fun t => inn t.1 t.2.1 t.2.2 x) (supply M nd y) = if x = y then nd x else 0 := fun y hy => by
    have hy : y < M := by simpa using hy
    unfold supply
    by_cases h1 : nd y > 0
    · rw [if_pos h1]
      simp only [esum, inn]
      rw [if_neg (show ¬ M = x by omega)]
      by_cases e : x = y
      · subst e; simp
      · rw [if_neg (fun h => e h.symm), if_neg e]; simp
    · rw [if_neg h1]
      by_cases h2 : nd y < 0
      · rw [if_pos h2]
        simp only [esum, inn]
        rw [if_neg (show ¬ M + 1 = x by omega)]
        by_cases e : x = y
        · subst e; simp
        · rw [if_neg (fun h => e h.symm), if_neg e]; simp
      · rw [if_neg h2]
        simp only [esum]
        by_cases e : x = y
        · subst e; rw [if_pos rfl]; omega
        · rw [if_neg e]
  rw [esum_congr h, esum_one, if_pos hx]
/-- all that is needed. -/
def total (M : Nat) (nd : Nat → Int) : Int := esum (fun x => if nd x > 0 then nd x else 0) (List.range M)
theorem supplies_src (M : Nat) (nd : Nat → Int) (k : Nat) : esum (fun t : Nat × Nat × Int => if t.1 = M then t.2.2 else 0) (supplies M nd k) = esum (fun x => (if nd x > 0 then nd x else 0) + (if x = M ∧ nd x < 0 then - nd x else 0)) (List.range k) := by
  unfold supplies
  rw [esum_flat]
  refine esum_congr (fun y _ => ?_)
  unfold supply
  by_cases h1 : nd y > 0
  · rw [if_pos h1, if_pos h1, if_neg (by omega)]; simp [esum]
  · rw [if_neg h1, if_neg h1]
    by_cases h2 : nd y < 0
    · rw [if_pos h2]
      simp only [esum]
      by_cases e : y = M
      · simp [e]; intro h; subst e; omega
      · simp [e]
    · rw [if_neg h2, if_neg (by omega)]; simp [esum]
theorem supplies_src' (M : Nat) (nd : Nat → Int) : esum (fun t : Nat × Nat × Int => if t.1 = M then t.2.2 else 0) (supplies M nd M) = total M nd := by
  rw [supplies_src]
  unfold total
  refine esum_congr (fun y hy => ?_)
  have hy : y < M := by simpa using hy
  rw [if_neg (show ¬ (y = M ∧ nd y < 0) by omega)]; omega
theorem supplies_snk (M : Nat) (nd : Nat → Int) : esum (fun t : Nat × Nat × Int => if t.2.1 = M + 1 then t.2.2 else 0) (supplies M nd M) = total M nd - esum nd (List.range M) := by
  unfold supplies total
  rw [esum_flat, ← esum_sub]
  refine esum_congr (fun y hy => ?_)
  have hy : y < M := by simpa using hy
  unfold supply
  by_cases h1 : nd y > 0
  · rw [if_pos h1, if_pos h1]; simp only [esum]; rw [if_neg (by omega)]; omega
  · rw [if_neg h1, if_neg h1]
    by_cases h2 : nd y < 0
    · rw [if_pos h2]; simp [esum]
    · rw [if_neg h2]; simp only [esum]; omega
theorem mem_supplies {M : Nat} {nd : Nat → Int} {t : Nat × Nat × Int} (h : t ∈ supplies M nd M) : (t.1 = M ∧ t.2.1 < M) ∨ (t.1 < M ∧ t.2.1 = M + 1) := by
  unfold supplies at h
  obtain ⟨y, hy, h⟩ := List.mem_flatMap.1 h
  have hy : y < M := by simpa using hy
  unfold supply at h
  split at h
  · rw [List.mem_singleton.1 h]; exact .inl ⟨rfl, hy⟩
  · split at h
    · rw [List.mem_singleton.1 h]; exact .inr ⟨hy, rfl⟩
    · cases h

/-- the pipes of a net, with what they take: pairs of a pipe and its edge. -/
theorem pipes_zip : ∀ {ps : List Pp} {ea : List Ed}, ea.map Ed.shape = ps.map (fun p => (p.u, p.v, p.hi - p.lo)) →
    ∃ z : List (Pp × Ed), z.map (·.1) = ps ∧ z.map (·.2) = ea ∧ ∀ t ∈ z, t.2.u = t.1.u ∧ t.2.v = t.1.v ∧ t.2.cap = t.1.hi - t.1.lo
  | [], [], _ => ⟨[], rfl, rfl, fun t ht => by cases ht⟩
  | [], _ :: _, h => by simp at h
  | _ :: _, [], h => by simp at h
  | p :: ps, e :: ea, h => by
    simp only [List.map_cons, List.cons.injEq] at h
    obtain ⟨z, h1, h2, h3⟩ := pipes_zip h.2
    refine ⟨(p, e) :: z, by simp [h1], by simp [h2], fun t ht => ?_⟩
    rcases List.mem_cons.1 ht with rfl | ht
    · have := h.1
      simp only [Ed.shape, Prod.mk.injEq] at this
      exact this
    · exact h3 t ht
theorem needs_sum {M : Nat} {ps : List Pp} (h : ∀ p ∈ ps, p.u < M ∧ p.v < M) : esum (needs ps) (List.range M) = 0 := by
  unfold needs
  rw [esum_comm, esum_congr (h := fun _ => 0), esum_zero]
  intro p hp
  have := inn_sum M p.u p.v p.lo (h p hp).1 (h p hp).2 (fun _ => true)
  simp only [if_true] at this
  rw [this]; omega

section
variable {M : Nat} {ps : List Pp} {es : List Ed}
/-- the edges of a net: those of the pipes, and those of the supply. -/
theorem net_split (hsh : es.map Ed.shape = ps.map (fun p => (p.u, p.v, p.hi - p.lo)) ++ supplies M (needs ps) M) : ∃ ea eb, es = ea ++ eb ∧ ea.map Ed.shape = ps.map (fun p => (p.u, p.v, p.hi - p.lo)) ∧ eb.map Ed.shape = supplies M (needs ps) M := by
  obtain ⟨ea, eb, h1, h2, h3⟩ := List.map_eq_append_iff.1 hsh
  exact ⟨ea, eb, h1, h2, h3⟩
theorem esum_shape (g : Nat → Nat → Int → Int) {eb : List Ed} {l : List (Nat × Nat × Int)} (h : eb.map Ed.shape = l) : esum (fun e => g e.u e.v e.cap) eb = esum (fun t => g t.1 t.2.1 t.2.2) l := by
  rw [← h, esum_map]; rfl
theorem flows_app (ea eb : List Ed) (x : Nat) : flows (ea ++ eb) x = flows ea x + flows eb x := esum_app _ _ _
/-- THE NET IS FULL: then grams can go so. -/
theorem can_of_full (hp : ∀ p ∈ ps, p.u < M ∧ p.v < M) (hsh : es.map Ed.shape = ps.map (fun p => (p.u, p.v, p.hi - p.lo)) ++ supplies M (needs ps) M) (hb : ∀ e ∈ es, 0 ≤ e.fl ∧ e.fl ≤ e.cap)
    (h0 : ∀ x, x < M → flows es x = 0) (hs : flows es M = - total M (needs ps)) : CanGo M ps := by
  obtain ⟨ea, eb, rfl, ha, hbs⟩ := net_split hsh
  obtain ⟨z, z1, z2, z3⟩ := pipes_zip ha
  have hz : ∀ t ∈ z, t.1.u < M ∧ t.1.v < M := fun t ht => hp _ (by rw [← z1]; exact List.mem_map_of_mem ht)
  have hea : ∀ e ∈ ea, e.u < M ∧ e.v < M := fun e he => by
    rw [← z2] at he
    obtain ⟨t, ht, rfl⟩ := List.mem_map.1 he
    have := z3 t ht; have := hz t ht; omega
  have heb : ∀ e ∈ eb, (e.u = M ∧ e.v < M) ∨ (e.u < M ∧ e.v = M + 1) := fun e he => by
    have : Ed.shape e ∈ supplies M (needs ps) M := by rw [← hbs]; exact List.mem_map_of_mem he
    exact mem_supplies this
  -- the source's edges are full
  have hfa : flows ea M = 0 := by
    unfold flows
    rw [esum_congr (h := fun _ => 0), esum_zero]
    intro e he
    have := hea e he
    unfold inn; rw [if_neg (by omega), if_neg (by omega)]; rfl
  have hfb : flows eb M = - esum (fun e : Ed => if e.u = M then e.fl else 0) eb := by
    unfold flows
    rw [← esum_neg]
    refine esum_congr (fun e he => ?_)
    have := heb e he
    unfold inn; rw [if_neg (show ¬ e.v = M by omega)]; omega
  have hcs : esum (fun e : Ed => if e.u = M then e.cap else 0) eb = total M (needs ps) := by
    rw [esum_shape (fun u _ c => if u = M then c else 0) hbs]; exact supplies_src' M _
  have hsrc := esum_tight (l := eb) (g := fun e : Ed => if e.u = M then e.fl else 0) (h := fun e : Ed => if e.u = M then e.cap else 0) (fun e he => by
    have := hb e (by simp [he]); split <;> omega) (by rw [hcs]; rw [flows_app, hfa, hfb] at hs; omega)
  -- the sum of all flows is nothing
  have hall : esum (flows (ea ++ eb)) (List.range (M + 2)) = 0 := by
    unfold flows
    rw [esum_comm, esum_congr (h := fun _ => 0), esum_zero]
    intro e he
    have h2 : e.u < M + 2 ∧ e.v < M + 2 := by
      rcases List.mem_append.1 he with h | h
      · have := hea e h; omega
      · have := heb e h; omega
    have := inn_sum (M + 2) e.u e.v e.fl h2.1 h2.2 (fun _ => true)
    simp only [if_true] at this
    rw [this]; omega
  have hsnk : flows (ea ++ eb) (M + 1) = total M (needs ps) := by
    rw [List.range_succ, List.range_succ, esum_app, esum_app, esum_congr (h := fun _ => 0) (fun x hx => h0 x (by simpa using hx)), esum_zero] at hall
    simp only [esum] at hall
    omega
  have hga : flows ea (M + 1) = 0 := by
    unfold flows
    rw [esum_congr (h := fun _ => 0), esum_zero]
    intro e he
    have := hea e he
    unfold inn; rw [if_neg (by omega), if_neg (by omega)]; rfl
  have hgb : flows eb (M + 1) = esum (fun e : Ed => if e.v = M + 1 then e.fl else 0) eb := by
    unfold flows
    refine esum_congr (fun e he => ?_)
    have := heb e he
    unfold inn; rw [if_neg (show ¬ e.u = M + 1 by omega)]; omega
  have hct : esum (fun e : Ed => if e.v = M + 1 then e.cap else 0) eb = total M (needs ps) := by
    rw [esum_shape (fun _ v c => if v = M + 1 then c else 0) hbs, supplies_snk, needs_sum hp]; omega
  have hsk := esum_tight (l := eb) (g := fun e : Ed => if e.v = M + 1 then e.fl else 0) (h := fun e : Ed => if e.v = M + 1 then e.cap else 0) (fun e he => by
    have := hb e (by simp [he]); split <;> omega) (by rw [hct]; rw [flows_app, hga, hgb] at hsnk; omega)
  have hfull : ∀ e ∈ eb, e.fl = e.cap := fun e he => by
    have h1 := hsrc e he
    have h2 := hsk e he
    rcases heb e he with h | h
    · simpa [h.1] using h1
    · simpa [h.2] using h2
  have hfb : ∀ x, x < M → flows eb x = needs ps x := fun x hx => by
    rw [← supplies_inn M (needs ps) hx, ← esum_shape (fun u v c => inn u v c x) hbs]
    exact esum_congr (fun e he => by rw [hfull e he])
  refine ⟨z.map (fun t => (t.1, t.1.lo + t.2.fl)), by rw [← z1]; simp, ⟨fun p hp => ?_, fun x hx => ?_⟩⟩
  · obtain ⟨t, ht, rfl⟩ := List.mem_map.1 hp
    have h1 := z3 t ht
    have h2 := hb t.2 (by rw [← z2]; exact List.mem_append_left _ (List.mem_map_of_mem ht))
    show t.1.lo ≤ t.1.lo + t.2.fl ∧ t.1.lo + t.2.fl ≤ t.1.hi
    omega
  · rw [esum_map]
    have h1 : ∀ t ∈ z, inn t.1.u t.1.v (t.1.lo + t.2.fl) x = inn t.1.u t.1.v t.1.lo x + inn t.2.u t.2.v t.2.fl x := fun t ht => by
      have := z3 t ht
      rw [inn_add, this.1, this.2.1]
    rw [esum_congr h1, esum_add]
    have h2 : esum (fun t : Pp × Ed => inn t.1.u t.1.v t.1.lo x) z = needs ps x := by
      unfold needs; rw [← z1, esum_map]
    have h3 : esum (fun t : Pp × Ed => inn t.2.u t.2.v t.2.fl x) z = flows ea x := by
      unfold flows; rw [← z2, esum_map]
    have h4 := h0 x hx
    rw [flows_app, hfb x hx] at h4
    omega

/-- THE NET IS CUT: then grams cannot go. -/
theorem not_of_cut (hp : ∀ p ∈ ps, p.u < M ∧ p.v < M) (hsh : es.map Ed.shape = ps.map (fun p => (p.u, p.v, p.hi - p.lo)) ++ supplies M (needs ps) M) (hb : ∀ e ∈ es, 0 ≤ e.fl ∧ e.fl ≤ e.cap)
    (h0 : ∀ x, x < M → flows es x = 0) (hs : - total M (needs ps) < flows es M) (S : Nat → Bool) (hS : S M = true) (hT : S (M + 1) = false)
    (hcut : ∀ e ∈ es, (S e.u = true → S e.v = false → e.fl = e.cap) ∧ (S e.v = true → S e.u = false → e.fl = 0)) : ¬ CanGo M ps := by
  rintro ⟨l, hl, hgo⟩
  obtain ⟨ea, eb, rfl, ha, hbs⟩ := net_split hsh
  obtain ⟨z, z1, z2, z3⟩ := pipes_zip ha
  have hz : ∀ t ∈ z, t.1.u < M ∧ t.1.v < M := fun t ht => hp _ (by rw [← z1]; exact List.mem_map_of_mem ht)
  have hea : ∀ e ∈ ea, e.u < M ∧ e.v < M := fun e he => by
    rw [← z2] at he
    obtain ⟨t, ht, rfl⟩ := List.mem_map.1 he
    have := z3 t ht; have := hz t ht; omega
  have heb : ∀ e ∈ eb, (e.u = M ∧ e.v < M) ∨ (e.u < M ∧ e.v = M + 1) := fun e he => by
    have : Ed.shape e ∈ supplies M (needs ps) M := by rw [← hbs]; exact List.mem_map_of_mem he
    exact mem_supplies this
  have hfa : flows ea M = 0 := by
    unfold flows
    rw [esum_congr (h := fun _ => 0), esum_zero]
    intro e he
    have := hea e he
    unfold inn; rw [if_neg (by omega), if_neg (by omega)]; rfl
  have hfb : flows eb M = - esum (fun e : Ed => if e.u = M then e.fl else 0) eb := by
    unfold flows
    rw [← esum_neg]
    refine esum_congr (fun e he => ?_)
    have := heb e he
    unfold inn; rw [if_neg (show ¬ e.v = M by omega)]; omega
  have hcs : esum (fun e : Ed => if e.u = M then e.cap else 0) eb = total M (needs ps) := by
    rw [esum_shape (fun u _ c => if u = M then c else 0) hbs]; exact supplies_src' M _
  -- what is left of the supply
  have hres : 0 < esum (fun e : Ed => if e.u = M then e.cap - e.fl else 0) eb := by
    have h1 : ∀ e : Ed, (if e.u = M then e.cap - e.fl else 0) = (if e.u = M then e.cap else 0) - (if e.u = M then e.fl else 0) := fun e => by split <;> omega
    rw [esum_congr (fun e _ => h1 e), esum_sub, hcs]
    rw [flows_app, hfa, hfb] at hs
    omega
  have hslack : esum (fun x => if S x then esum (fun e : Ed => inn e.u e.v (e.cap - e.fl) x) eb else 0) (List.range M) = esum (fun e : Ed => if e.u = M then e.cap - e.fl else 0) eb := by
    have h1 : ∀ x, (if S x then esum (fun e : Ed => inn e.u e.v (e.cap - e.fl) x) eb else 0) = esum (fun e : Ed => if S x then inn e.u e.v (e.cap - e.fl) x else 0) eb := fun x => by
      by_cases h : S x = true
      · simp only [h, if_true]
      · simp only [h, if_false, Bool.false_eq_true]; exact (esum_zero eb).symm
    rw [esum_congr (fun x _ => h1 x), esum_comm]
    refine esum_congr (fun e he => ?_)
    rw [inn_sum']
    have hc := hcut e (by simp [he])
    rcases heb e he with ⟨h2, h3⟩ | ⟨h2, h3⟩
    · rw [h2, if_neg (show ¬ (M < M ∧ S M = true) by omega), if_pos rfl]
      by_cases h4 : S e.v = true
      · rw [if_pos ⟨h3, h4⟩]; omega
      · have := hc.1 (by rw [h2]; exact hS) (by simpa using h4)
        rw [if_neg (fun h => h4 h.2)]; omega
    · rw [h3, if_neg (show ¬ (M + 1 < M ∧ S (M + 1) = true) by omega), if_neg (show ¬ e.u = M by omega)]
      by_cases h4 : S e.u = true
      · have := hc.1 h4 (by rw [h3]; exact hT)
        rw [if_pos ⟨h2, h4⟩]; omega
      · rw [if_neg (fun h => h4 h.2)]; omega
  -- pipes with edges and grams
  have hzl : ∃ y : List ((Pp × Ed) × Int), y.map (·.1) = z ∧ y.map (fun t => (t.1.1, t.2)) = l := by
    clear hslack hres hcs hfb hfa heb hea hz hcut hs h0 hb hsh hp hbs
    have hlen : l.length = z.length := by
      have := congrArg List.length (hl.trans z1.symm)
      simpa using this
    refine ⟨z.zip (l.map (·.2)), List.map_fst_zip (by simp [hlen]), List.ext_getElem (by simp [hlen]) (fun i h1 h2 => ?_)⟩
    have hi : i < z.length := by omega
    have e1 : (l.map (·.1))[i]'(by simpa using h2) = (z.map (·.1))[i]'(by simpa using hi) := by
      have := hl.trans z1.symm
      simp only [this]
    simp only [List.getElem_map] at e1
    simp only [List.getElem_map, List.getElem_zip]
    rw [← e1]
  obtain ⟨y, y1, y2⟩ := hzl
  have hy : ∀ t ∈ y, t.1 ∈ z ∧ (t.1.1, t.2) ∈ l := fun t ht => ⟨by rw [← y1]; exact List.mem_map_of_mem ht, by rw [← y2]; exact List.mem_map_of_mem (f := fun t : (Pp × Ed) × Int => (t.1.1, t.2)) ht⟩
  have hx : ∀ x, x < M → esum (fun t : (Pp × Ed) × Int => inn t.1.1.u t.1.1.v (t.2 - t.1.1.lo - t.1.2.fl) x) y = - esum (fun e : Ed => inn e.u e.v (e.cap - e.fl) x) eb := fun x hx => by
    have h1 : ∀ t ∈ y, inn t.1.1.u t.1.1.v (t.2 - t.1.1.lo - t.1.2.fl) x = inn t.1.1.u t.1.1.v t.2 x - inn t.1.1.u t.1.1.v t.1.1.lo x - inn t.1.2.u t.1.2.v t.1.2.fl x := fun t ht => by
      have := z3 t.1 (hy t ht).1
      rw [inn_sub, inn_sub, this.1, this.2.1]
    rw [esum_congr h1, esum_sub, esum_sub]
    have e1 : esum (fun t : (Pp × Ed) × Int => inn t.1.1.u t.1.1.v t.2 x) y = 0 := by
      have := hgo.bal x hx
      rwa [← y2, esum_map] at this
    have e2 : esum (fun t : (Pp × Ed) × Int => inn t.1.1.u t.1.1.v t.1.1.lo x) y = needs ps x := by
      unfold needs; rw [← z1, ← y1, List.map_map, esum_map]; rfl
    have e3 : esum (fun t : (Pp × Ed) × Int => inn t.1.2.u t.1.2.v t.1.2.fl x) y = flows ea x := by
      unfold flows; rw [← z2, ← y1, List.map_map, esum_map]; rfl
    have e4 : flows eb x = needs ps x - esum (fun e : Ed => inn e.u e.v (e.cap - e.fl) x) eb := by
      rw [← supplies_inn M (needs ps) hx, ← esum_shape (fun u v c => inn u v c x) hbs, ← esum_sub]
      unfold flows
      refine esum_congr (fun e _ => ?_)
      rw [← inn_sub]; congr 1; omega
    have e5 := h0 x hx
    rw [flows_app] at e5
    omega
  have hsum : esum (fun x => if S x then esum (fun t : (Pp × Ed) × Int => inn t.1.1.u t.1.1.v (t.2 - t.1.1.lo - t.1.2.fl) x) y else 0) (List.range M) = esum (fun t : (Pp × Ed) × Int => (if S t.1.1.v = true then t.2 - t.1.1.lo - t.1.2.fl else 0) - (if S t.1.1.u = true then t.2 - t.1.1.lo - t.1.2.fl else 0)) y := by
    have h1 : ∀ x, (if S x then esum (fun t : (Pp × Ed) × Int => inn t.1.1.u t.1.1.v (t.2 - t.1.1.lo - t.1.2.fl) x) y else 0) = esum (fun t : (Pp × Ed) × Int => if S x then inn t.1.1.u t.1.1.v (t.2 - t.1.1.lo - t.1.2.fl) x else 0) y := fun x => by
      by_cases h : S x = true
      · simp only [h, if_true]
      · simp only [h, if_false, Bool.false_eq_true]; exact (esum_zero y).symm
    rw [esum_congr (fun x _ => h1 x), esum_comm]
    refine esum_congr (fun t ht => ?_)
    exact inn_sum M _ _ _ (hz _ (hy t ht).1).1 (hz _ (hy t ht).1).2 S
  have hneg : esum (fun x => if S x then esum (fun t : (Pp × Ed) × Int => inn t.1.1.u t.1.1.v (t.2 - t.1.1.lo - t.1.2.fl) x) y else 0) (List.range M) = - esum (fun e : Ed => if e.u = M then e.cap - e.fl else 0) eb := by
    rw [← hslack, ← esum_neg]
    refine esum_congr (fun x hx' => ?_)
    rw [hx x (by simpa using hx')]
    split <;> omega
  have hpos : 0 ≤ esum (fun t : (Pp × Ed) × Int => (if S t.1.1.v = true then t.2 - t.1.1.lo - t.1.2.fl else 0) - (if S t.1.1.u = true then t.2 - t.1.1.lo - t.1.2.fl else 0)) y := by
    refine esum_nonneg (fun t ht => ?_)
    have h1 := z3 t.1 (hy t ht).1
    have h2 := hgo.bd _ (hy t ht).2
    have h3 := hcut t.1.2 (List.mem_append_left _ (by rw [← z2]; exact List.mem_map_of_mem (hy t ht).1))
    rw [h1.1, h1.2.1, h1.2.2] at h3
    simp only at h2
    cases hu : S t.1.1.u <;> cases hv : S t.1.1.v
    · simp
    · have := h3.2 hv hu; simp; omega
    · have := h3.1 hu hv; simp; omega
    · simp
  rw [← hsum, hneg] at hpos
  omega
end
end Go.Proofs.Ythihdiilokdidaa
end

section
namespace Go.Proofs.Ythihdiilokdidaa

structure Rm where
  fst : Rg
  vap : Rg
  deriving DecidableEq, Inhabited
structure Mv where
  day : Int
  src : Int
  dst : Int
  g : Rg
  deriving DecidableEq, Inhabited
structure Wg where
  room : Int
  day : Int
  g : Rg
  deriving DecidableEq, Inhabited
structure Wo where
  rooms : List Rm
  days : Nat
  moves : List Mv
  wgs : List Wg
def gRm (l : List Rm) (k : Nat) : Rm := l.getD k ⟨⟨0, 0⟩, ⟨0, 0⟩⟩
def gMv (l : List Mv) (k : Nat) : Mv := l.getD k ⟨0, 0, 0, ⟨0, 0⟩⟩
def gWg (l : List Wg) (k : Nat) : Wg := l.getD k ⟨0, 0, ⟨0, 0⟩⟩

/-- a room at the end of a day. -/
abbrev Spot := Int × Int
def outS : Spot := (-1, 0)
def atS (r d : Int) : Spot := if r = -1 then outS else (r, d)
inductive Lb where
  | fst (r : Nat)
  | stk (r d : Nat)
  | vap (r d : Nat)
  | mov (i : Nat)
  deriving DecidableEq
/-- the pipes of a works: from where, to where, how many. -/
def Lb.U (w : Wo) : Lb → Spot
  | .fst _ => outS
  | .stk r d => ((r : Int), (d : Int))
  | .vap r d => ((r : Int), (d : Int))
  | .mov i => atS (gMv w.moves i).src (gMv w.moves i).day
def Lb.V (w : Wo) : Lb → Spot
  | .fst r => ((r : Int), 0)
  | .stk r d => if d + 1 = w.days then outS else ((r : Int), (d : Int) + 1)
  | .vap _ _ => outS
  | .mov i => atS (gMv w.moves i).dst (gMv w.moves i).day
/-- the ranges of the stocks. -/
abbrev Sts := Nat → Nat → Rg
def Lb.R (w : Wo) (st : Sts) : Lb → Rg
  | .fst r => (gRm w.rooms r).fst
  | .stk r d => st r d
  | .vap r _ => (gRm w.rooms r).vap
  | .mov i => (gMv w.moves i).g
def roomL (D r : Nat) : List Lb := .fst r :: (List.range D).flatMap fun d => [.stk r d, .vap r d]
def labels (w : Wo) : List Lb := (List.range w.rooms.length).flatMap (roomL w.days) ++ (List.range w.moves.length).map .mov

/-- what the moves of a day bring to a room. -/
def comes (w : Wo) (G : Nat → Int) (r d : Int) (k : Nat) : Int := esum (fun i => if (gMv w.moves i).day = d then (if (gMv w.moves i).dst = r then G i else 0) - (if (gMv w.moves i).src = r then G i else 0) else 0) (List.range k)
def stk (w : Wo) (F : Nat → Int) (V : Nat → Nat → Int) (G : Nat → Int) (r : Nat) : Nat → Int
  | 0 => F r + (comes w G r 0 w.moves.length - V r 0)
  | d + 1 => stk w F V G r d + (comes w G r ((d : Int) + 1) w.moves.length - V r (d + 1))
def inR (n : Int) (r : Rg) : Prop := r.lo ≤ n ∧ n ≤ r.hi
/-- some truth has stocks in these ranges. -/
structure TruF (w : Wo) (F : Nat → Int) (V : Nat → Nat → Int) (G : Nat → Int) : Prop where
  fst : ∀ r, r < w.rooms.length → inR (F r) (gRm w.rooms r).fst
  vap : ∀ r d, r < w.rooms.length → d < w.days → inR (V r d) (gRm w.rooms r).vap
  mov : ∀ i, i < w.moves.length → inR (G i) (gMv w.moves i).g
def CanSt (w : Wo) (st : Sts) : Prop := ∃ F V G, TruF w F V G ∧ ∀ r d, r < w.rooms.length → d < w.days → inR (stk w F V G r d) (st r d)
/-- moves as they may be. -/
structure MovesOk (w : Wo) : Prop where
  day : ∀ i, i < w.moves.length → 0 ≤ (gMv w.moves i).day ∧ (gMv w.moves i).day < w.days
  src : ∀ i, i < w.moves.length → -1 ≤ (gMv w.moves i).src ∧ (gMv w.moves i).src < w.rooms.length
  dst : ∀ i, i < w.moves.length → -1 ≤ (gMv w.moves i).dst ∧ (gMv w.moves i).dst < w.rooms.length
  ne : ∀ i, i < w.moves.length → (gMv w.moves i).src ≠ (gMv w.moves i).dst
  pos : 0 < w.days

/-- what goes into a spot, less what goes out of it. -/
def sinn (u v : Spot) (c : Int) (s : Spot) : Int := (if v = s then c else 0) - (if u = s then c else 0)
def bal (w : Wo) (c : Lb → Int) (s : Spot) : Int := esum (fun b => sinn (Lb.U w b) (Lb.V w b) (c b) s) (labels w)
def UsedS (w : Wo) (s : Spot) : Prop := s = outS ∨ ∃ r d : Nat, r < w.rooms.length ∧ d < w.days ∧ s = ((r : Int), (d : Int))

theorem mem_labels {w : Wo} {b : Lb} : b ∈ labels w ↔ (∃ r, r < w.rooms.length ∧ (b = .fst r ∨ ∃ d, d < w.days ∧ (b = .stk r d ∨ b = .vap r d))) ∨ ∃ i, i < w.moves.length ∧ b = .mov i := by
  unfold labels roomL
  simp only [List.mem_append, List.mem_flatMap, List.mem_range, List.mem_cons, List.mem_map, List.not_mem_nil, or_false]
  constructor
  · rintro (⟨r, hr, h | ⟨d, hd, h⟩⟩ | ⟨i, hi, h⟩)
    · exact .inl ⟨r, hr, .inl h⟩
    · exact .inl ⟨r, hr, .inr ⟨d, hd, h⟩⟩
    · exact .inr ⟨i, hi, h.symm⟩
  · rintro (⟨r, hr, h | ⟨d, hd, h⟩⟩ | ⟨i, hi, h⟩)
    · exact .inl ⟨r, hr, .inl h⟩
    · exact .inl ⟨r, hr, .inr ⟨d, hd, h⟩⟩
    · exact .inr ⟨i, hi, h.symm⟩
theorem used_at {w : Wo} {r d : Int} (hr : -1 ≤ r ∧ r < w.rooms.length) (hd : 0 ≤ d ∧ d < w.days) : UsedS w (atS r d) := by
  unfold atS
  by_cases h : r = -1
  · rw [if_pos h]; exact .inl rfl
  · rw [if_neg h]; exact .inr ⟨r.toNat, d.toNat, by omega, by omega, by rw [show ((r.toNat : Nat) : Int) = r by omega, show ((d.toNat : Nat) : Int) = d by omega]⟩
theorem used_uv {w : Wo} (hm : MovesOk w) {b : Lb} (hb : b ∈ labels w) : UsedS w (Lb.U w b) ∧ UsedS w (Lb.V w b) := by
  rcases mem_labels.1 hb with ⟨r, hr, rfl | ⟨d, hd, rfl | rfl⟩⟩ | ⟨i, hi, rfl⟩
  · exact ⟨.inl rfl, .inr ⟨r, 0, hr, hm.pos, rfl⟩⟩
  · refine ⟨.inr ⟨r, d, hr, hd, rfl⟩, ?_⟩
    unfold Lb.V
    by_cases h : d + 1 = w.days
    · simp only [if_pos h]; exact .inl rfl
    · simp only [if_neg h]; exact .inr ⟨r, d + 1, hr, by omega, by simp⟩
  · exact ⟨.inr ⟨r, d, hr, hd, rfl⟩, .inl rfl⟩
  · exact ⟨used_at (hm.src i hi) (hm.day i hi), used_at (hm.dst i hi) (hm.day i hi)⟩
theorem atS_ne {w : Wo} (hm : MovesOk w) {i : Nat} (hi : i < w.moves.length) : atS (gMv w.moves i).src (gMv w.moves i).day ≠ atS (gMv w.moves i).dst (gMv w.moves i).day := by
  have h1 := hm.ne i hi
  have h2 := hm.src i hi
  have h3 := hm.dst i hi
  unfold atS
  intro e
  by_cases h : (gMv w.moves i).src = -1 <;> by_cases h' : (gMv w.moves i).dst = -1
  · omega
  · rw [if_pos h, if_neg h'] at e; simp only [outS, Prod.mk.injEq] at e; omega
  · rw [if_neg h, if_pos h'] at e; simp only [outS, Prod.mk.injEq] at e; omega
  · rw [if_neg h, if_neg h'] at e; simp only [Prod.mk.injEq] at e; omega
theorem uv_ne {w : Wo} (hm : MovesOk w) {b : Lb} (hb : b ∈ labels w) : Lb.U w b ≠ Lb.V w b := by
  rcases mem_labels.1 hb with ⟨r, hr, rfl | ⟨d, hd, rfl | rfl⟩⟩ | ⟨i, hi, rfl⟩
  · simp only [Lb.U, Lb.V, outS, ne_eq, Prod.mk.injEq]; omega
  · simp only [Lb.U, Lb.V]
    by_cases h : d + 1 = w.days
    · rw [if_pos h]; simp only [outS, ne_eq, Prod.mk.injEq]; omega
    · rw [if_neg h]; simp only [ne_eq, Prod.mk.injEq]; omega
  · simp only [Lb.U, Lb.V, outS, ne_eq, Prod.mk.injEq]; omega
  · exact atS_ne hm hi

theorem nodup_flat {α β : Type} {f : α → List β} : ∀ {l : List α}, (∀ a ∈ l, (f a).Nodup) → l.Pairwise (fun a b => ∀ x ∈ f a, x ∉ f b) → (l.flatMap f).Nodup
  | [], _, _ => by simp
  | a :: l, h, hp => by
    have hp := List.pairwise_cons.1 hp
    rw [List.flatMap_cons]
    refine List.nodup_append.2 ⟨h a (by simp), nodup_flat (fun b hb => h b (by simp [hb])) hp.2, fun x hx y hy e => ?_⟩
    subst e
    obtain ⟨b, hb, hy⟩ := List.mem_flatMap.1 hy
    exact hp.1 b hb x hx hy
theorem nodup_map {α β : Type} {f : α → β} {l : List α} (h : l.Nodup) (hf : ∀ a b, f a = f b → a = b) : (l.map f).Nodup := List.pairwise_map.2 (List.Pairwise.imp (fun hab e => hab (hf _ _ e)) h)
theorem nodup_labels (w : Wo) : (labels w).Nodup := by
  unfold labels
  refine List.nodup_append.2 ⟨?_, ?_, ?_⟩
  · refine nodup_flat (fun r _ => ?_) ?_
    · unfold roomL
      refine List.nodup_cons.2 ⟨by simp, ?_⟩
      refine nodup_flat (fun d _ => by simp) ?_
      refine List.Pairwise.imp ?_ (List.nodup_range (n := w.days))
      intro a b hab
      simp [hab]
    · refine List.Pairwise.imp ?_ (List.nodup_range (n := w.rooms.length))
      intro a b hab
      intro x hx hy
      simp only [roomL, List.mem_cons, List.mem_flatMap, List.mem_range, List.not_mem_nil, or_false] at hx hy
      rcases hx with rfl | ⟨d, _, rfl | rfl⟩ <;> rcases hy with h | ⟨d', _, h | h⟩ <;> cases h <;> exact hab rfl
  · exact nodup_map List.nodup_range (fun a b e => by injection e)
  · intro a ha b hb e
    subst e
    obtain ⟨i, _, rfl⟩ := List.mem_map.1 hb
    simp [roomL] at ha

/-- sums over the pipes, room by room. -/
theorem esum_labels (w : Wo) (g : Lb → Int) : esum g (labels w) = esum (fun r => g (.fst r) + esum (fun d => g (.stk r d) + g (.vap r d)) (List.range w.days)) (List.range w.rooms.length) + esum (fun i => g (.mov i)) (List.range w.moves.length) := by
  unfold labels
  rw [esum_app, esum_map, esum_flat]
  congr 1
  refine esum_congr (fun r _ => ?_)
  unfold roomL
  rw [esum, esum_flat]
  congr 1
  exact esum_congr (fun d _ => by simp only [esum]; omega)
theorem esum_pick (n x : Nat) (g : Nat → Int) : esum (fun y => if y = x then g y else 0) (List.range n) = if x < n then g x else 0 := by
  rw [← esum_one n x (g x)]
  refine esum_congr (fun y _ => ?_)
  by_cases h : y = x
  · subst h; simp
  · rw [if_neg h, if_neg (fun e => h e.symm)]

theorem sinn_lit (a b c d : Int) (n : Int) (x y : Int) : sinn (a, b) (c, d) n (x, y) = (if c = x ∧ d = y then n else 0) - (if a = x ∧ b = y then n else 0) := by
  unfold sinn
  simp only [Prod.mk.injEq]
theorem at_lit {r d x y : Int} (hx : 0 ≤ x) : (atS r d = (x, y)) ↔ (r = x ∧ d = y) := by
  unfold atS
  by_cases h : r = -1
  · rw [if_pos h]; simp only [outS, Prod.mk.injEq]; omega
  · rw [if_neg h]; simp only [Prod.mk.injEq]
/-- what goes into a room's day. -/
theorem bal_at (w : Wo) (hm : MovesOk w) (c : Lb → Int) {r d : Nat} (hr : r < w.rooms.length) (hd : d < w.days) :
    bal w c ((r : Int), (d : Int)) = (if d = 0 then c (.fst r) else c (.stk r (d - 1))) - c (.stk r d) - c (.vap r d) + comes w (fun i => c (.mov i)) r d w.moves.length := by
  unfold bal
  rw [esum_labels]
  have h1 : ∀ r', r' ∈ List.range w.rooms.length → sinn (Lb.U w (.fst r')) (Lb.V w (.fst r')) (c (.fst r')) ((r : Int), (d : Int)) + esum (fun d' => sinn (Lb.U w (.stk r' d')) (Lb.V w (.stk r' d')) (c (.stk r' d')) ((r : Int), (d : Int)) + sinn (Lb.U w (.vap r' d')) (Lb.V w (.vap r' d')) (c (.vap r' d')) ((r : Int), (d : Int))) (List.range w.days) = if r' = r then (if d = 0 then c (.fst r) else c (.stk r (d - 1))) - c (.stk r d) - c (.vap r d) else 0 := by
    intro r' _
    have h2 : ∀ d', d' ∈ List.range w.days → sinn (Lb.U w (.stk r' d')) (Lb.V w (.stk r' d')) (c (.stk r' d')) ((r : Int), (d : Int)) + sinn (Lb.U w (.vap r' d')) (Lb.V w (.vap r' d')) (c (.vap r' d')) ((r : Int), (d : Int)) = (if d' = d - 1 then (if r' = r ∧ 0 < d then c (.stk r' d') else 0) else 0) + (if d' = d then (if r' = r then - c (.stk r' d') - c (.vap r' d') else 0) else 0) := by
      intro d' hd'
      have hd' : d' < w.days := by simpa using hd'
      simp only [Lb.U, Lb.V, outS]
      have e1 : sinn ((r' : Int), (d' : Int)) (if d' + 1 = w.days then ((-1 : Int), (0 : Int)) else ((r' : Int), (d' : Int) + 1)) (c (.stk r' d')) ((r : Int), (d : Int)) = (if r' = r ∧ d' + 1 = d then c (.stk r' d') else 0) - (if r' = r ∧ d' = d then c (.stk r' d') else 0) := by
        by_cases h : d' + 1 = w.days
        · rw [if_pos h, sinn_lit, if_neg (by omega), if_neg (show ¬ (r' = r ∧ d' + 1 = d) by omega)]
          by_cases h3 : r' = r ∧ d' = d
          · rw [if_pos (by omega), if_pos h3]
          · rw [if_neg (by omega), if_neg h3]
        · rw [if_neg h, sinn_lit]
          by_cases h3 : r' = r ∧ d' + 1 = d <;> by_cases h4 : r' = r ∧ d' = d
          · omega
          · rw [if_pos (by omega), if_neg (by omega), if_pos h3, if_neg h4]
          · rw [if_neg (by omega), if_pos (by omega), if_neg h3, if_pos h4]
          · rw [if_neg (by omega), if_neg (by omega), if_neg h3, if_neg h4]
      rw [e1, sinn_lit, if_neg (show ¬ ((-1 : Int) = r ∧ (0 : Int) = d) by omega)]
      by_cases h3 : r' = r <;> by_cases h4 : d' + 1 = d <;> by_cases h5 : d' = d
      all_goals omega
    rw [esum_congr h2, esum_add, esum_pick w.days (d - 1) (fun d' => if r' = r ∧ 0 < d then c (.stk r' d') else 0), esum_pick w.days d (fun d' => if r' = r then - c (.stk r' d') - c (.vap r' d') else 0), if_pos (show d - 1 < w.days by omega), if_pos hd]
    simp only [Lb.U, Lb.V, outS]
    rw [sinn_lit, if_neg (show ¬ ((-1 : Int) = r ∧ (0 : Int) = d) by omega)]
    by_cases h3 : r' = r
    · subst h3
      by_cases h4 : d = 0
      · subst h4; simp; omega
      · rw [if_neg (by omega), if_pos (by omega), if_pos rfl, if_pos rfl, if_neg h4]; omega
    · rw [if_neg (by omega), if_neg (by omega), if_neg h3, if_neg h3]; omega
  rw [esum_congr h1, esum_pick w.rooms.length r (fun _ => (if d = 0 then c (.fst r) else c (.stk r (d - 1))) - c (.stk r d) - c (.vap r d)), if_pos hr]
  congr 1
  unfold comes
  refine esum_congr (fun i hi => ?_)
  have hi : i < w.moves.length := by simpa using hi
  simp only [Lb.U, Lb.V, sinn, at_lit (show (0 : Int) ≤ r by omega)]
  by_cases h1 : (gMv w.moves i).day = (d : Int)
  · simp only [h1, and_true, if_true]
  · simp [h1]

/-- the spots, none twice. -/
def spots (w : Wo) : List Spot := outS :: (List.range w.rooms.length).flatMap fun (r : Nat) => (List.range w.days).map fun (d : Nat) => (((r : Nat) : Int), ((d : Nat) : Int))
theorem mem_spots {w : Wo} {s : Spot} : s ∈ spots w ↔ UsedS w s := by
  unfold spots UsedS
  simp only [List.mem_cons, List.mem_flatMap, List.mem_map, List.mem_range]
  constructor
  · rintro (h | ⟨r, hr, d, hd, h⟩)
    · exact .inl h
    · exact .inr ⟨r, d, hr, hd, h.symm⟩
  · rintro (h | ⟨r, d, hr, hd, h⟩)
    · exact .inl h
    · exact .inr ⟨r, hr, d, hd, h.symm⟩
theorem nodup_spots (w : Wo) : (spots w).Nodup := by
  unfold spots
  refine List.nodup_cons.2 ⟨?_, ?_⟩
  · simp only [List.mem_flatMap, List.mem_map, List.mem_range, not_exists, not_and]
    intro r _ d _ h
    simp only [outS, Prod.mk.injEq] at h; omega
  · refine nodup_flat (fun r _ => nodup_map List.nodup_range (fun a b e => by simp only [Prod.mk.injEq] at e; omega)) ?_
    refine List.Pairwise.imp ?_ (List.nodup_range (n := w.rooms.length))
    intro a b hab
    intro x hx hy
    obtain ⟨d, _, rfl⟩ := List.mem_map.1 hx
    obtain ⟨d', _, h⟩ := List.mem_map.1 hy
    simp only [Prod.mk.injEq] at h; omega
theorem esum_nodup {α : Type} [DecidableEq α] (x : α) (c : Int) : ∀ {l : List α}, l.Nodup → esum (fun y => if x = y then c else 0) l = if x ∈ l then c else 0
  | [], _ => by simp [esum]
  | y :: l, h => by
    have h := List.nodup_cons.1 h
    rw [esum, esum_nodup x c h.2]
    by_cases e : x = y
    · subst e; rw [if_pos rfl, if_neg h.1]; simp
    · rw [if_neg e]; simp [e]
theorem bal_sum (w : Wo) (hm : MovesOk w) (c : Lb → Int) : esum (bal w c) (spots w) = 0 := by
  unfold bal
  rw [esum_comm, esum_congr (h := fun _ => 0), esum_zero]
  intro b hb
  unfold sinn
  have hu := used_uv hm hb
  rw [esum_sub, esum_nodup _ _ (nodup_spots w), esum_nodup _ _ (nodup_spots w), if_pos (mem_spots.2 hu.2), if_pos (mem_spots.2 hu.1)]
  omega
theorem bal_out (w : Wo) (hm : MovesOk w) (c : Lb → Int) (h : ∀ r d, r < w.rooms.length → d < w.days → bal w c ((r : Int), (d : Int)) = 0) : bal w c outS = 0 := by
  have := bal_sum w hm c
  unfold spots at this
  rw [esum, esum_congr (h := fun _ => 0), esum_zero] at this
  · omega
  · intro s hs
    obtain ⟨r, hr, hs⟩ := List.mem_flatMap.1 hs
    obtain ⟨d, hd, rfl⟩ := List.mem_map.1 hs
    exact h r d (by simpa using hr) (by simpa using hd)

/-- A TRUTH IS WHAT GOES THROUGH THE PIPES. -/
theorem canSt_iff (w : Wo) (hm : MovesOk w) (st : Sts) : CanSt w st ↔ ∃ c : Lb → Int, (∀ b ∈ labels w, inR (c b) (Lb.R w st b)) ∧ ∀ s, UsedS w s → bal w c s = 0 := by
  constructor
  · rintro ⟨F, V, G, ht, hs⟩
    refine ⟨fun b => match b with | .fst r => F r | .stk r d => stk w F V G r d | .vap r d => V r d | .mov i => G i, fun b hb => ?_, ?_⟩
    · rcases mem_labels.1 hb with ⟨r, hr, rfl | ⟨d, hd, rfl | rfl⟩⟩ | ⟨i, hi, rfl⟩
      · exact ht.fst r hr
      · exact hs r d hr hd
      · exact ht.vap r d hr hd
      · exact ht.mov i hi
    · have key : ∀ r d, r < w.rooms.length → d < w.days → bal w (fun b => match b with | .fst r => F r | .stk r d => stk w F V G r d | .vap r d => V r d | .mov i => G i) ((r : Int), (d : Int)) = 0 := fun r d hr hd => by
        rw [bal_at w hm _ hr hd]
        cases d with
        | zero => simp only [if_true, stk]; simp; rw [show comes w (fun i => G i) r 0 w.moves.length = comes w G r 0 w.moves.length from rfl]; omega
        | succ d => simp only [stk]; simp; rw [show comes w (fun i => G i) r (d + 1) w.moves.length = comes w G r (d + 1) w.moves.length from rfl]; omega
      rintro s (rfl | ⟨r, d, hr, hd, rfl⟩)
      · exact bal_out w hm _ key
      · exact key r d hr hd
  · rintro ⟨c, hc, hb⟩
    have hst : ∀ r d, r < w.rooms.length → d < w.days → stk w (fun r => c (.fst r)) (fun r d => c (.vap r d)) (fun i => c (.mov i)) r d = c (.stk r d) := by
      intro r d hr
      induction d with
      | zero =>
        intro hd
        have := hb _ (.inr ⟨r, 0, hr, hd, rfl⟩)
        rw [bal_at w hm _ hr hd] at this
        simp only [if_true] at this
        simp only [stk]
        simp at this ⊢
        omega
      | succ d ih =>
        intro hd
        have := hb _ (.inr ⟨r, d + 1, hr, hd, rfl⟩)
        rw [bal_at w hm _ hr hd] at this
        rw [if_neg (by omega)] at this
        simp only [stk]
        rw [ih (by omega)]
        simp at this ⊢
        omega
    refine ⟨fun r => c (.fst r), fun r d => c (.vap r d), fun i => c (.mov i), ⟨fun r hr => hc _ (mem_labels.2 (.inl ⟨r, hr, .inl rfl⟩)), fun r d hr hd => hc _ (mem_labels.2 (.inl ⟨r, hr, .inr ⟨d, hd, .inr rfl⟩⟩)), fun i hi => hc _ (mem_labels.2 (.inr ⟨i, hi, rfl⟩))⟩, fun r d hr hd => ?_⟩
    rw [hst r d hr hd]
    exact hc _ (mem_labels.2 (.inl ⟨r, hr, .inr ⟨d, hd, .inl rfl⟩⟩))

/-- pipes between numbers: of labels, by the numbers of spots. -/
def pps (w : Wo) (st : Sts) (num : Spot → Nat) : List Pp := (labels w).map fun b => ⟨num (Lb.U w b), num (Lb.V w b), (Lb.R w st b).lo, (Lb.R w st b).hi⟩
theorem pairs_of {α β : Type} (f : α → β) : ∀ {L : List α} {l : List (β × Int)}, l.map (·.1) = L.map f → L.Nodup → ∀ [DecidableEq α], ∃ c : α → Int, l = L.map fun a => (f a, c a)
  | [], [], _, _, _ => ⟨fun _ => 0, rfl⟩
  | [], _ :: _, h, _, _ => by simp at h
  | _ :: _, [], h, _, _ => by simp at h
  | a :: L, p :: l, h, hn, _ => by
    simp only [List.map_cons, List.cons.injEq] at h
    have hn := List.nodup_cons.1 hn
    obtain ⟨c, hc⟩ := pairs_of f h.2 hn.2
    refine ⟨fun x => if x = a then p.2 else c x, ?_⟩
    rw [List.map_cons]
    simp only [if_true]
    rw [← h.1, hc]
    congr 1
    refine List.map_congr_left (fun x hx => ?_)
    rw [if_neg (fun e : x = a => hn.1 (e ▸ hx))]
theorem canGo_iff (w : Wo) (hm : MovesOk w) (st : Sts) {M : Nat} {num : Spot → Nat} (hlt : ∀ s, UsedS w s → num s < M) (hon : ∀ x, x < M → ∃ s, UsedS w s ∧ num s = x) (hinj : ∀ s t, UsedS w s → UsedS w t → num s = num t → s = t) :
    CanGo M (pps w st num) ↔ CanSt w st := by
  have hb : ∀ c : Lb → Int, (∀ x, x < M → esum (fun p : Pg => inn p.1.u p.1.v p.2 x) ((labels w).map fun b => ((⟨num (Lb.U w b), num (Lb.V w b), (Lb.R w st b).lo, (Lb.R w st b).hi⟩ : Pp), c b)) = 0) ↔ ∀ s, UsedS w s → bal w c s = 0 := fun c => by
    have e : ∀ s, UsedS w s → esum (fun p : Pg => inn p.1.u p.1.v p.2 (num s)) ((labels w).map fun b => ((⟨num (Lb.U w b), num (Lb.V w b), (Lb.R w st b).lo, (Lb.R w st b).hi⟩ : Pp), c b)) = bal w c s := fun s hs => by
      rw [esum_map]
      unfold bal
      refine esum_congr (fun b hb => ?_)
      have hu := used_uv hm hb
      unfold inn sinn
      congr 1
      · by_cases h : Lb.V w b = s
        · rw [if_pos h, h, if_pos rfl]
        · rw [if_neg h, if_neg (fun e => h (hinj _ _ hu.2 hs e))]
      · by_cases h : Lb.U w b = s
        · rw [if_pos h, h, if_pos rfl]
        · rw [if_neg h, if_neg (fun e => h (hinj _ _ hu.1 hs e))]
    constructor
    · intro h s hs
      rw [← e s hs]; exact h _ (hlt s hs)
    · intro h x hx
      obtain ⟨s, hs, rfl⟩ := hon x hx
      rw [e s hs]; exact h s hs
  rw [canSt_iff w hm]
  constructor
  · rintro ⟨l, hl, hg⟩
    obtain ⟨c, rfl⟩ := pairs_of _ hl (nodup_labels w)
    refine ⟨c, fun b hbm => ?_, (hb c).1 hg.bal⟩
    exact hg.bd _ (List.mem_map_of_mem (f := fun b => ((⟨num (Lb.U w b), num (Lb.V w b), (Lb.R w st b).lo, (Lb.R w st b).hi⟩ : Pp), c b)) hbm)
  · rintro ⟨c, h1, h2⟩
    refine ⟨(labels w).map fun b => ((⟨num (Lb.U w b), num (Lb.V w b), (Lb.R w st b).lo, (Lb.R w st b).hi⟩ : Pp), c b), by simp [pps], ⟨fun p hp => ?_, (hb c).2 h2⟩⟩
    obtain ⟨b, hbm, rfl⟩ := List.mem_map.1 hp
    exact h1 b hbm
end Go.Proofs.Ythihdiilokdidaa
end

section
namespace Go.Proofs.Ythihdiilokdidaa
structure Tm where
  rates : List Rg
  hours : List Int
  limit : Int
  most : Int
/-- hours of three rooms. -/
structure V3 where
  a : Int
  b : Int
  c : Int
  deriving DecidableEq, Inhabited
def V3.get (v : V3) : Nat → Int
  | 0 => v.a
  | 1 => v.b
  | 2 => v.c
  | _ => 0
def V3.set (v : V3) (i : Nat) (x : Int) : V3 := match i with | 0 => ⟨x, v.b, v.c⟩ | 1 => ⟨v.a, x, v.c⟩ | 2 => ⟨v.a, v.b, x⟩ | _ => v
def V3.sub (v u : V3) : V3 := ⟨v.a - u.a, v.b - u.b, v.c - u.c⟩
def z3 : V3 := ⟨0, 0, 0⟩
theorem V3.ext' {u v : V3} (h : ∀ i, i < 3 → u.get i = v.get i) : u = v := by
  obtain ⟨a, b, c⟩ := u
  obtain ⟨a', b', c'⟩ := v
  have h0 := h 0 (by omega)
  have h1 := h 1 (by omega)
  have h2 := h 2 (by omega)
  simp only [V3.get] at h0 h1 h2
  simp [h0, h1, h2]
theorem V3.sub_get (v u : V3) (i : Nat) : (v.sub u).get i = v.get i - u.get i := by
  match i with
  | 0 => rfl
  | 1 => rfl
  | 2 => rfl
  | i + 3 => simp [V3.get]
theorem V3.set_get (v : V3) (i j : Nat) (x : Int) (hi : i < 3) : (v.set i x).get j = if j = i then x else v.get j := by
  match i, hi, j with
  | 0, _, 0 => rfl
  | 0, _, 1 => rfl
  | 0, _, 2 => rfl
  | 0, _, j + 3 => simp [V3.get]
  | 1, _, 0 => rfl
  | 1, _, 1 => rfl
  | 1, _, 2 => rfl
  | 1, _, j + 3 => simp [V3.get]
  | 2, _, 0 => rfl
  | 2, _, 1 => rfl
  | 2, _, 2 => rfl
  | 2, _, j + 3 => simp [V3.get]
def V3.sum (v : V3) : Int := v.a + v.b + v.c
theorem V3.sub_sum (v u : V3) : (v.sub u).sum = v.sum - u.sum := by simp only [V3.sum, V3.sub]; omega
theorem V3.sub_z (v : V3) : v.sub z3 = v := by simp [V3.sub, z3]

/-- what somebody works, and breathes, in the first so many rooms. -/
def hrsTo (d : V3) (k : Nat) : Int := esum (fun i => d.get i) (List.range k)
def brTo (t : Tm) (d : V3) (k : Nat) : Int := esum (fun i => d.get i * (gR t.rates i).hi) (List.range k)
theorem hrsTo_succ (d : V3) (k : Nat) : hrsTo d (k + 1) = hrsTo d k + d.get k := by
  unfold hrsTo; rw [List.range_succ, esum_app]; simp [esum]
theorem brTo_succ (t : Tm) (d : V3) (k : Nat) : brTo t d (k + 1) = brTo t d k + d.get k * (gR t.rates k).hi := by
  unfold brTo; rw [List.range_succ, esum_app]; simp [esum]
def mayB (t : Tm) (d : V3) : Bool := decide (hrsTo d t.rates.length ≤ t.most) && decide (brTo t d t.rates.length ≤ t.limit)
/-- a team as it may be. -/
structure TmOk (t : Tm) : Prop where
  len : 0 < t.rates.length ∧ t.rates.length ≤ 3 ∧ t.hours.length = t.rates.length
  rate : ∀ i, i < t.rates.length → 0 ≤ (gR t.rates i).lo ∧ (gR t.rates i).lo ≤ (gR t.rates i).hi ∧ (gR t.rates i).hi ≤ 100
  hour : ∀ i, i < t.rates.length → 0 ≤ gI t.hours i ∧ gI t.hours i ≤ 8
  limit : 0 ≤ t.limit ∧ t.limit ≤ 1000
  most : 0 ≤ t.most ∧ t.most ≤ 8
/-- hours that there can be. -/
structure HrOk (t : Tm) (l : V3) : Prop where
  bd : ∀ i, i < 3 → 0 ≤ l.get i ∧ l.get i ≤ 8
  far : ∀ i, t.rates.length ≤ i → l.get i = 0
/-- what somebody may work of some hours. -/
structure Part (t : Tm) (d l : V3) : Prop where
  bd : ∀ i, i < 3 → 0 ≤ d.get i ∧ d.get i ≤ l.get i
  may : mayB t d = true
def Does (t : Tm) : Nat → V3 → Prop
  | 0, l => l = z3
  | m + 1, l => ∃ d, Part t d l ∧ Does t m (l.sub d)
/-- so few do these hours; 7: more than six. -/
def FewIs (t : Tm) (l : V3) (m : Nat) : Prop := (m ≤ 6 ∧ Does t m l ∧ ∀ k, k < m → ¬ Does t k l) ∨ (m = 7 ∧ ∀ k, k ≤ 6 → ¬ Does t k l)
section
variable {t : Tm} {l d : V3}
theorem Part.hr (h : Part t d l) (hl : HrOk t l) : HrOk t d ∧ HrOk t (l.sub d) := by
  refine ⟨⟨fun i hi => ?_, fun i hi => ?_⟩, ⟨fun i hi => ?_, fun i hi => ?_⟩⟩
  · have := h.bd i hi; have := hl.bd i hi; omega
  · have h3 := hl.far i hi
    by_cases hi3 : i < 3
    · have := h.bd i hi3; omega
    · match i, hi3 with
      | i + 3, _ => rfl
  · rw [V3.sub_get]; have := h.bd i hi; have := hl.bd i hi; omega
  · rw [V3.sub_get]
    have h3 := hl.far i hi
    by_cases hi3 : i < 3
    · have := h.bd i hi3; omega
    · match i, hi3 with
      | i + 3, _ => rfl
theorem FewIs.uniq {m m' : Nat} (h : FewIs t l m) (h' : FewIs t l m') : m = m' := by
  rcases h with ⟨h1, h2, h3⟩ | ⟨h1, h2⟩ <;> rcases h' with ⟨k1, k2, k3⟩ | ⟨k1, k2⟩
  · rcases Nat.lt_trichotomy m m' with h | h | h
    · exact absurd h2 (k3 m h)
    · exact h
    · exact absurd k2 (h3 m' h)
  · exact absurd h2 (k2 m h1)
  · exact absurd k2 (h2 m' k1)
  · omega
theorem FewIs.zero : FewIs t z3 0 := .inl ⟨by omega, rfl, fun k hk => by omega⟩
theorem FewIs.ex (l : V3) : ∃ m, FewIs t l m := by
  classical
  have : ∀ n, (∃ k, k < n ∧ Does t k l ∧ ∀ j, j < k → ¬ Does t j l) ∨ ∀ k, k < n → ¬ Does t k l := fun n => by
    induction n with
    | zero => exact .inr (fun k hk => by omega)
    | succ n ih =>
      rcases ih with ⟨k, h1, h2⟩ | h
      · exact .inl ⟨k, by omega, h2⟩
      · by_cases hn : Does t n l
        · exact .inl ⟨n, by omega, hn, h⟩
        · exact .inr (fun k hk => by
            rcases Nat.lt_succ_iff_lt_or_eq.1 hk with h' | h'
            · exact h k h'
            · exact h' ▸ hn)
  rcases this 7 with ⟨k, h1, h2, h3⟩ | h
  · exact ⟨k, .inl ⟨by omega, h2, h3⟩⟩
  · exact ⟨7, .inr ⟨rfl, fun k hk => h k (by omega)⟩⟩
theorem FewIs.le {m k : Nat} (h : FewIs t l m) (hk : Does t k l) : m ≤ k ∨ (m = 7 ∧ 7 ≤ k) := by
  rcases h with ⟨_, _, h3⟩ | ⟨h1, h2⟩
  · rcases Nat.lt_or_ge k m with h | h
    · exact absurd hk (h3 k h)
    · exact .inl h
  · rcases Nat.lt_or_ge k 7 with h | h
    · exact absurd hk (h2 k (by omega))
    · exact .inr ⟨h1, h⟩
theorem FewIs.pos {m : Nat} (h : FewIs t l m) (hl : l ≠ z3) : 0 < m := by
  rcases h with ⟨_, h2, _⟩ | ⟨h1, _⟩
  · cases m with
    | zero => exact absurd h2 hl
    | succ m => omega
  · omega
/-- one more: the least of all parts. -/
structure Looked (t : Tm) (l : V3) (ds : List V3) (m : Nat) (own : V3) : Prop where
  le : m ≤ 7
  at_ : m < 7 → Part t own l ∧ own ≠ z3 ∧ ∃ k, FewIs t (l.sub own) k ∧ m = k + 1
  least : ∀ d ∈ ds, ∀ k, FewIs t (l.sub d) k → m ≤ k + 1
theorem Looked.nil : Looked t l [] 7 z3 := ⟨by omega, fun h => absurd h (by omega), fun d hd => by cases hd⟩
theorem Looked.step {ds : List V3} {m k : Nat} {own : V3} (h : Looked t l ds m own) (hd : Part t d l) (hz : d ≠ z3) (hk : FewIs t (l.sub d) k) : Looked t l (ds ++ [d]) (if k + 1 < m then k + 1 else m) (if k + 1 < m then d else own) := by
  by_cases hlt : k + 1 < m
  · rw [if_pos hlt, if_pos hlt]
    refine ⟨by have := h.le; omega, fun _ => ⟨hd, hz, k, hk, rfl⟩, fun e he j hj => ?_⟩
    rcases List.mem_append.1 he with he | he
    · have := h.least e he j hj; omega
    · rw [List.mem_singleton.1 he] at hj
      rw [hk.uniq hj]; omega
  · rw [if_neg hlt, if_neg hlt]
    refine ⟨h.le, h.at_, fun e he j hj => ?_⟩
    rcases List.mem_append.1 he with he | he
    · exact h.least e he j hj
    · rw [List.mem_singleton.1 he] at hj
      rw [hk.uniq hj] at hlt; omega
theorem Looked.few {ds : List V3} {m : Nat} {own : V3} (h : Looked t l ds m own) (hl : l ≠ z3) (hds : ∀ d, Part t d l → d ≠ z3 → d ∈ ds) : FewIs t l m := by
  obtain ⟨k, hk⟩ := FewIs.ex (t := t) l
  have h1 : m ≤ k := by
    rcases hk with ⟨h6, hd, hm⟩ | ⟨h7, _⟩
    · cases k with
      | zero => exact absurd hd hl
      | succ k =>
        obtain ⟨d, hp, hd2⟩ := hd
        have hz : d ≠ z3 := fun e => by subst e; rw [V3.sub_z] at hd2; exact hm k (by omega) hd2
        obtain ⟨j, hj⟩ := FewIs.ex (t := t) (l.sub d)
        have h3 := h.least d (hds d hp hz) j hj
        rcases hj.le hd2 with h4 | ⟨h4, h5⟩ <;> omega
    · have := h.le; omega
  have h2 : k ≤ m := by
    rcases Nat.lt_or_ge m 7 with h7 | h7
    · obtain ⟨hp, hz, j, hj, e⟩ := h.at_ h7
      rcases hj with ⟨_, hd, _⟩ | ⟨e7, _⟩
      · have hd : Does t m l := by rw [e]; exact ⟨own, hp, hd⟩
        rcases hk.le hd with h8 | h8 <;> omega
      · omega
    · rcases hk with ⟨h6, _⟩ | ⟨h7', _⟩ <;> omega
  have : m = k := by omega
  rw [this]; exact hk
/-- what is told of hours: how few, and what the first one does. -/
structure PlanIs (t : Tm) (l : V3) (m : Nat) (own : V3) : Prop where
  few : FewIs t l m
  own : 0 < m → m < 7 → Part t own l ∧ own ≠ z3 ∧ FewIs t (l.sub own) (m - 1)
theorem Looked.plan {ds : List V3} {m : Nat} {own : V3} (h : Looked t l ds m own) (hl : l ≠ z3) (hds : ∀ d, Part t d l → d ≠ z3 → d ∈ ds) : PlanIs t l m own :=
  ⟨h.few hl hds, fun _ h7 => by
    obtain ⟨hp, hz, j, hj, e⟩ := h.at_ h7
    exact ⟨hp, hz, by rw [e]; simpa using hj⟩⟩
theorem PlanIs.zero : PlanIs t z3 0 z3 := ⟨.zero, fun h => by omega⟩
theorem part_sum (h : Part t d l) (hz : d ≠ z3) : (l.sub d).sum < l.sum ∧ 0 ≤ (l.sub d).sum := by
  rw [V3.sub_sum]
  have h0 := h.bd 0 (by omega)
  have h1 := h.bd 1 (by omega)
  have h2 := h.bd 2 (by omega)
  simp only [V3.get] at h0 h1 h2
  have : ¬ (d.a = 0 ∧ d.b = 0 ∧ d.c = 0) := fun ⟨a, b, c⟩ => hz (by obtain ⟨x, y, z⟩ := d; simp only at a b c; subst a b c; rfl)
  simp only [V3.sum]
  omega
end
section
variable {t : Tm}
/-- more hours, and more is breathed. -/
theorem hrsTo_mono {d e : V3} (h : ∀ i, d.get i ≤ e.get i) (k : Nat) : hrsTo d k ≤ hrsTo e k := esum_le (fun i _ => h i)
theorem brTo_mono (ht : TmOk t) {d e : V3} (h : ∀ i, d.get i ≤ e.get i) {k : Nat} (hk : k ≤ t.rates.length) : brTo t d k ≤ brTo t e k := esum_le (fun i hi => by
  have hi : i < k := by simpa using hi
  have h1 := ht.rate i (by omega)
  exact Int.mul_le_mul_of_nonneg_right (h i) (by omega))
theorem mayB_mono (ht : TmOk t) {d e : V3} (h : ∀ i, d.get i ≤ e.get i) (he : mayB t e = true) : mayB t d = true := by
  have h1 := hrsTo_mono h t.rates.length
  have h2 := brTo_mono ht h (Nat.le_refl _)
  simp only [mayB, Bool.and_eq_true, decide_eq_true_eq] at he ⊢
  omega
end
end Go.Proofs.Ythihdiilokdidaa
end
