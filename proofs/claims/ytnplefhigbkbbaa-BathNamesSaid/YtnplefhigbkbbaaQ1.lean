/- What no chapter's walk goes without (cut out of the glass texts by mkbase.py). · Readings of arguments whose slices' elements hold slices. · How far things are apart (plain): the triple loop, and what it comes to. · A series (plain): what is valid, what is a truth; the distances of its things. · Bath's plans (plain): a works, dips, what is valid; what is known by six numbers. · Bath: the small functions (walks). -/
import Derived.Deep.Fields
import Derived.Carry
import Derived.ProofKit
import Derived.OpenShut
import Derived.ChangeSame
import Derived.Laws.Cover1
import Derived.Test.YtnplefhigbkbbaaRows
import Derived.Test.YtnplefhigbkbbaaQ0
import Derived.Test.YtnplefhigbkbbaaProg
set_option linter.unusedVariables false
set_option linter.unusedSimpArgs false
set_option linter.unusedSectionVars false
section
namespace Go.Proofs.Ytnplefhigbkbbaa
section
open Go.RowKit
attribute [local go_sem] Ex.cell? Ex.frozen? Gx.cell?
theorem run_append_empty (A : Option Addr) (c : Nat) (ty : TypeId) (W : World) : (Builtin.append_ #[52, 52] ty #[.slice none 0 0, .slice A 0 c]).run Try.prog W = .ok (.slice none 0 0) W := by
  obtain ⟨i0, hi0, hz0, hz1, hz2⟩ := info_parts int_info
  cases A with
  | none => simp [Builtin.append_, run_underlying Try.underlying52, sizeOf, typeInfo, hi0, Builtin.lenOf, Builtin.firstCells]
  | some a => simp [Builtin.append_, run_underlying Try.underlying52, sizeOf, typeInfo, hi0, Builtin.lenOf, Builtin.firstCells, loadCells, loadCellsFrom]
theorem wpList_append_empty {ops : Array Oper} {rest : List Oper} {o : Oper} {a : Act} {Q : Exit → Act → World → Prop} (w : World) (hg : o.guard = none) (s x : Operand)
    (hop : o.op = .call { callee := .builtin .append, args := #[s, x], argTypes := #[52, 52] }) (A : Option Addr) (c : Nat) (hs : a.eval s = .slice none 0 0) (hx : a.eval x = .slice A 0 c)
    (hK : wpList Try.prog ops Q rest (a.put o.dst (.slice none 0 0)) w) : wpList Try.prog ops Q (o :: rest) a w := by
  refine wpList_plain hg fun K hK' => ?_
  have hrun := run_append_empty A c o.type w
  unfold Oper.wp
  simp [execOp, hop, resolve, invoke, builtin, hs, hx, hrun, Result.andThen]
  exact hK' _ _ hK
end

section
open Go.RowKit
attribute [local go_sem] Ex.cell? Ex.frozen? Gx.cell?
theorem exFrame' {T : Array Value} {F : (Nat → Value) → Array Value} {ds : List Deferred} (h : T = F (fun i => T.getD i undef)) : ∃ u, Act.mk T ds = Act.mk (F u) ds := ⟨_, congrArg (fun T => Act.mk T ds) h⟩
end

section
open Go.RowKit Go.ChangeShapes Go.WideShapes Go.Deep
section
variable {H : Type} {enc : TypeId × Value → H} {w : World} {base : Nat} {spare : Nat → Bool} {held : Bool}
/-- one-cell fields and others, at written-out places. -/
theorem tr_int {fuel : Nat} {t : TypeId} {k : IntKind} {cs : List Value} {x : DataW H × List MemPlace} (ht : Try.prog.underlying t = some (.int k)) (h : DataW.trod enc Try.prog w base spare held fuel t cs = some x) : ∃ n : Int, cs = [.int k n] ∧ (Lit.int k n).wf = true := by
  obtain ⟨n, h1, _, h2⟩ := DataW.trod_int ht h
  exact ⟨n, h1, h2⟩
theorem list2 {α : Type} {l : List α} (h : l.length = 2) : ∃ a b, l = [a, b] := by
  match l, h with
  | [a, b], _ => exact ⟨a, b, rfl⟩
theorem list3 {α : Type} {l : List α} (h : l.length = 3) : ∃ a b c, l = [a, b, c] := by
  match l, h with
  | [a, b, c], _ => exact ⟨a, b, c, rfl⟩
theorem list5 {α : Type} {l : List α} (h : l.length = 5) : ∃ a b c d e, l = [a, b, c, d, e] := by
  match l, h with
  | [a, b, c, d, e], _ => exact ⟨a, b, c, d, e, rfl⟩
theorem some_of {α : Type} {l : List α} {i : Nat} (h : i < l.length) : ∃ y, l[i]? = some y := ⟨l[i], List.getElem?_eq_getElem h⟩

theorem fld {fs : Array Field} {xs : List (DataW H × List MemPlace)} {cs : List Value} {n : Nat}
    (hf : ∀ (i : Nat) (f : Field), fs[i]? = some f → DataW.trod enc Try.prog w base spare held n f.type ((cs.drop f.offset).take (Try.prog.cellsOf f.type)) = xs[i]?)
    {i : Nat} {f : Field} {y : DataW H × List MemPlace} (t' off k : Nat) (h1 : fs[i]? = some f) (ht : f.type = t') (ho : f.offset = off) (hk : Try.prog.cellsOf t' = k) (hy : xs[i]? = some y) :
    DataW.trod enc Try.prog w base spare held n t' ((cs.drop off).take k) = some y := by
  subst ht ho hk; exact (hf i f h1).trans hy

theorem lt_of_cell {b o : Nat} {v : Value} (h : w.cell? ⟨b, o, none⟩ = some v) : b < w.heap.size := by
  rcases Nat.lt_or_ge b w.heap.size with h' | h'
  · exact h'
  · simp [World.cell?, Array.getElem?_eq_none h'] at h

/-- a slice of structs of integers. -/
theorem tr_sl {fuel : Nat} {t e : TypeId} {cs : List Value} {x : DataW H × List MemPlace} (ht : Try.prog.underlying t = some (.slice e)) {sz : Nat} (hsz : 0 < sz) (hC : Try.prog.cellsOf e = sz) {α : Type} [Inhabited α] {c : α → List Value}
    (hc : ∀ {n : Nat} {cs : List Value} {x : DataW H × List MemPlace}, DataW.trod enc Try.prog w base spare held n e cs = some x → ∃ a, cs = c a) (hlen : ∀ a, (c a).length = sz)
    (h : DataW.trod enc Try.prog w base spare held fuel t cs = some x) :
    ∃ (A : Option Addr) (l : List α) (cp : Nat), cs = [.slice A l.length cp] ∧ l.length ≤ cp ∧ cp ≤ maxLen ∧ ∀ F : Nat → Nat → Value, (∀ (k : Nat) (hk : k < l.length) (j : Nat), j < sz → (c l[k])[j]? = some (F k j)) → SlAt w w.heap.size sz A l.length F := by
  rcases open_slice ht h with ⟨rfl, _⟩ | ⟨a, len, cap, m, n, D, Pl, rfl, _, hl, hm, hmm, _, hi⟩
  · exact ⟨none, [], 0, rfl, Nat.le_refl _, by unfold maxLen; omega, fun F _ h => by simp at h⟩
  · have hlm : len ≤ m := by rw [hmm]; split <;> omega
    have hex : ∀ i, ∃ y : α, i < len → ∃ cs', w.cells? base (a.add (i * sz)) sz = some cs' ∧ cs' = c y := fun i => by
      by_cases hil : i < len
      · obtain ⟨cs', h1, h2⟩ := hi i (by omega)
        rw [hC] at h1
        obtain ⟨y, hy⟩ := hc h2
        exact ⟨y, fun _ => ⟨cs', h1, hy⟩⟩
      · exact ⟨default, fun h => absurd h hil⟩
    obtain ⟨f, hf⟩ := Classical.axiomOfChoice hex
    refine ⟨some a, (List.range len).map f, cap, by simp, by simpa using hl, hm, fun F hF h0 => ?_⟩
    have hl0 : 0 < len := by simpa using h0
    obtain ⟨cs0, h1, h2⟩ := hf 0 hl0
    obtain ⟨_, _, h3⟩ := World.cells?_some h1
    have h4 := h3 0 hsz
    rw [h2, List.getElem?_eq_getElem (by rw [hlen]; exact hsz)] at h4
    obtain ⟨b, off, spot⟩ := a
    have hspot : spot = none := by simpa [Addr.add] using World.cell?_spot h4
    subst hspot
    rw [Addr.add_lit, Addr.add_lit] at h4
    refine ⟨b, off, rfl, lt_of_cell h4, fun k j hk hj => ?_⟩
    have hk' : k < len := by simpa using hk
    obtain ⟨csk, g1, g2⟩ := hf k hk'
    obtain ⟨_, _, g3⟩ := World.cells?_some g1
    have g4 := g3 j hj
    rw [Addr.add_lit, Addr.add_lit, g2] at g4
    have g5 := hF k (by simpa using hk') j hj
    rw [List.getElem_map, List.getElem_range] at g5
    rw [show off + (k * sz + j) = off + k * sz + j by omega, g4, g5]
end
section
variable {H : Type} {enc : TypeId × Value → H} {w : World} {base : Nat} {spare : Nat → Bool} {held : Bool} {r : Reach} {b0 : Nat}
set_option maxRecDepth 100000 in
theorem tr_ints {fuel : Nat} {cs : List Value} {x : DataW H × List MemPlace} (h : DataW.trod enc Try.prog w base spare held fuel 52 cs = some x) :
    ∃ A l cp, cs = [.slice A (l : List Int).length cp] ∧ l.length ≤ cp ∧ cp ≤ maxLen ∧ SlAt w w.heap.size 1 A l.length (fI l) := by
  obtain ⟨A, l, cp, h1, h2, h3, h4⟩ := tr_sl (sz := 1) (α := Int) (c := fun n => [.int .i64 n]) Try.underlying52 (by omega) (by kernel_rfl) (fun h => by obtain ⟨n, hn, _⟩ := tr_int Try.underlying3 h; exact ⟨n, hn⟩) (fun _ => rfl) h
  refine ⟨A, l, cp, h1, h2, h3, h4 _ (fun k hk j hj => ?_)⟩
  obtain rfl : j = 0 := by omega
  simp [fI, gI, hk]

end
theorem laidOut : laidOutB Try.prog = true := by kernel_rfl
/-- these types can be read. -/
def AllRd : List TypeId → Prop
  | [] => True
  | t :: ts => (Try.prog.readableRec t = true ∧ t < Try.prog.types.size) ∧ AllRd ts
/-- the arguments read as they did, where below the heap's old size nothing has turned. -/
theorem trodAll_stays {H : Type} {enc : TypeId × Value → H} {W W' : World} {sp : Nat → Bool} (hb : Below W.heap.size W W') : ∀ {ts : List TypeId} {vs : List Value} {ds : List (DataW H)} {ps : List MemPlace},
    AllRd ts → DataW.TrodAll enc Try.prog W 0 (fun _ => true) true ts vs ds ps → (∀ p ∈ ps, sp p.block = true) → (∀ p ∈ ps, p.block < W.heap.size) → DataW.TrodAll enc Try.prog W' 0 sp true ts vs ds ps
  | [], vs, ds, ps, _, h, _, _ => by
    obtain ⟨rfl, rfl, rfl⟩ := trodAll_nil h
    exact trodAll_mk0
  | t :: ts, vs, ds, ps, ht, h, hs, hlt => by
    obtain ⟨v, vs', d, ds', p, q, rfl, rfl, rfl, h1, h2⟩ := trodAll_cons h
    exact trodAll_cons_mk (WideElems.Trod_stays laidOut ht.1.1 ht.1.2 h1 (fun x hx => hb.same (hlt x (List.mem_append.2 (.inl hx)))) (fun x hx => hs x (List.mem_append.2 (.inl hx)))) (trodAll_stays hb ht.2 h2 (fun x hx => hs x (List.mem_append.2 (.inr hx))) (fun x hx => hlt x (List.mem_append.2 (.inr hx))))

theorem own : ownKnob Try.prog.godebug = none := by kernel_rfl
end

section
open Go.RowKit Go.ChangeShapes Go.WideShapes Go.ChangeAt
section
variable {H : Type} {enc : TypeId × Value → H}
/-- the post of a law: it returned true, and below the heap's old size nothing has turned. -/
theorem post_law {f : Func} {s : ChangeSpec} {W W' : World} {args : Array Value} {ds : List (DataW H)} {before : List MemPlace} (hvars : s.vars = [])
    (hW : DataW.Whole enc Try.prog f.params.toList s.vars false W args.toList ds [] before) (hrt : f.resultTypes = #[4]) (hfn : s.fn H (ds ++ []) = { results := [.lit (.bool true)], args := ds }) (hrd : AllRd f.params.toList) (hb : Below W.heap.size W W') :
    s.post enc Try.prog f false true false false W args (.bool true) W' := by
  have hlt : ∀ p ∈ before, p.block < W.heap.size := fun p hp => hW.lt p hp
  have hold : ∀ p ∈ before, (fun b => decide (b < W.heap.size)) p.block = true := fun p hp => by simpa using hlt p hp
  have hW2 := hW
  obtain ⟨pa, pv, hA, hV, hps, hz, hn⟩ := hW2
  rw [hvars] at hV
  obtain ⟨_, rfl⟩ := trodVars_none hV
  rw [List.append_nil] at hps
  subst hps
  have hargs : ∀ sp : Nat → Bool, (∀ p ∈ before, sp p.block = true) → DataW.TrodAll enc Try.prog W' 0 sp true f.params.toList args.toList (s.fn H (ds ++ [])).args before := fun sp hsp => by
    rw [hfn]; exact trodAll_stays hb hrd hA hsp hlt
  have hres : ∀ (b : Nat) (sp : Nat → Bool) (hd : Bool), DataW.TrodAll enc Try.prog W' b sp hd f.resultTypes.toList ((Value.bool true).resultList f.resultTypes.size) (s.fn H (ds ++ [])).results [] := fun b sp hd => by
    rw [hfn, hrt]; exact trodAll_cons_mk (shut_bool Try.underlying4 _) trodAll_mk0
  have hvrs : ∀ sp : Nat → Bool, DataW.TrodVars enc Try.prog W' sp s.vars (s.fn H (ds ++ [])).vars [] := fun sp => by rw [hvars, hfn]; exact rfl
  refine ⟨ds, [], before, [], before, [], hW, hres _ _ _, hargs _ hold, hvrs _, World.keptBut_mono (fun p hp => ⟨hp, ?_⟩) (hb.frame (· ∈ before)), fun h => by cases h⟩
  exact Or.inr (by simpa using hp)
end
end

section
open Go.RowKit
attribute [local go_sem] Ex.cell? Ex.frozen? Gx.cell?
theorem max3_eq (x y z : Int) : (if z > (if y > x then y else x) then z else (if y > x then y else x)) = mx3 x y z := by
  unfold mx3
  split <;> split <;> omega
theorem wpList_max3 {P : Program} {ops : Array Oper} {rest : List Oper} {o : Oper} {a : Act} {Q : Exit → Act → World → Prop} (w : World) (hgd : o.guard = none) (p q s : Operand) (ts : Array TypeId)
    (hop : o.op = .call { callee := .builtin .max, args := #[p, q, s], argTypes := ts }) (x y z : Int) (h1 : a.eval p = .int .i64 x) (h2 : a.eval q = .int .i64 y) (h3 : a.eval s = .int .i64 z)
    (hK : wpList P ops Q rest (a.put o.dst (.int .i64 (mx3 x y z))) w) : wpList P ops Q (o :: rest) a w := by
  refine wpList_plain hgd fun K hK' => ?_
  have hrun := run_max_int3 (P := P) (w := w) ts o.type .i64 .i64 .i64 x y z
  rw [max3_eq] at hrun
  unfold Oper.wp
  simp only [execOp, hop, resolve, invoke, builtin, h1, h2, h3, hrun, Result.andThen, Sem.run_bind, Sem.run_pure, List.map_toArray, List.map_cons, List.map_nil]
  exact hK' _ _ hK
end

section
open Go.RowKit
attribute [local go_sem] Ex.cell? Ex.frozen? Gx.cell?
def fU (l : List Int) (k _j : Nat) : Value := .int .u16 (gI l k)
theorem IsWords.at_ {w : World} {B : Nat} {A : Option Addr} {l : List Int} (h : SlAt w B 1 A l.length (fU l)) {k : Nat} (hk : k < l.length) : ∃ b off, A = some ⟨b, off, none⟩ ∧ b < B ∧ w.cell? ⟨b, off + k, none⟩ = some (.int .u16 (gI l k)) := by
  obtain ⟨b, off, rfl, hb, hc⟩ := h (by omega)
  have := hc k 0 hk (by omega)
  exact ⟨b, off, rfl, hb, by simpa [fU] using this⟩
end

section
open Go.RowKit
attribute [local go_sem] Ex.cell? Ex.frozen? Gx.cell?
theorem gI_snoc {l : List Int} {x : Int} {j : Nat} (h : j < l.length) : gI (l ++ [x]) j = gI l j := by simp [gI, List.getElem?_append, h]
theorem gI_last {l : List Int} {x : Int} : gI (l ++ [x]) l.length = x := by simp [gI]
end

section
open Go.RowKit Go.ChangeShapes Go.WideShapes Go.ChangeAt
theorem wf_u16 {n : Int} (h : (Lit.int .u16 n).wf = true) : 0 ≤ n ∧ n ≤ 65535 := by
  simp only [Lit.wf, Bool.and_eq_true, decide_eq_true_eq] at h
  exact ⟨h.1, h.2⟩
theorem wf_u8 {n : Int} (h : (Lit.int .u8 n).wf = true) : 0 ≤ n ∧ n ≤ 255 := by
  simp only [Lit.wf, Bool.and_eq_true, decide_eq_true_eq] at h
  exact ⟨h.1, h.2⟩
theorem wf_i16 {n : Int} (h : (Lit.int .i16 n).wf = true) : -32768 ≤ n ∧ n ≤ 32767 := by
  simp only [Lit.wf, Bool.and_eq_true, decide_eq_true_eq] at h
  exact ⟨h.1, h.2⟩
theorem wf_i64 {n : Int} (h : (Lit.int .i64 n).wf = true) : -9223372036854775808 ≤ n ∧ n ≤ 9223372036854775807 := by
  simp only [Lit.wf, Bool.and_eq_true, decide_eq_true_eq] at h
  exact ⟨h.1, h.2⟩

/-- a word of two bytes. -/
abbrev Wd := {n : Int // 0 ≤ n ∧ n ≤ 65535}
instance : Inhabited Wd := ⟨⟨0, by omega⟩⟩

section
variable {H : Type} {enc : TypeId × Value → H} {w : World} {base : Nat} {spare : Nat → Bool} {held : Bool} {r : Reach} {b0 : Nat}
set_option maxRecDepth 100000 in
theorem open_int {t : TypeId} {k : IntKind} (ht : Try.prog.underlying t = some (.int k)) {v : Value} {d : DataW H} {p : List MemPlace} (hv : Value.okWide Try.prog w r b0 t v) (h : DataW.Trod enc Try.prog w base spare held t v d p) : ∃ n, v = .int k n ∧ (Lit.int k n).wf = true := by
  obtain ⟨n, rfl⟩ := okWide_int ht hv
  obtain ⟨fuel, hf⟩ := h
  obtain ⟨m, h1, h2⟩ := tr_int ht hf
  injection h1 with h1 _
  exact ⟨m, h1, h2⟩
set_option maxRecDepth 100000 in
theorem open_words {v : Value} {d : DataW H} {p : List MemPlace} (hv : Value.okWide Try.prog w r b0 74 v) (h : DataW.Trod enc Try.prog w base spare held 74 v d p) :
    ∃ A l cp, v = .slice A (l : List Int).length cp ∧ l.length ≤ maxLen ∧ SlAt w w.heap.size 1 A l.length (fU l) ∧ ∀ k, k < l.length → 0 ≤ gI l k ∧ gI l k ≤ 65535 := by
  obtain ⟨a, len, cap, rfl⟩ := okWide_slice Try.underlying74 hv
  obtain ⟨fuel, hf⟩ := h
  obtain ⟨A, l, cp, h1, h2, h3, h4⟩ := tr_sl (sz := 1) (α := Wd) (c := fun n => [.int .u16 n.1]) Try.underlying74 (by omega) (by kernel_rfl) (fun h => by obtain ⟨n, hn, hw⟩ := tr_int Try.underlying91 h; exact ⟨⟨n, wf_u16 hw⟩, hn⟩) (fun _ => rfl) hf
  have hl : (l.map (·.1)).length = l.length := by simp
  have hg : ∀ k (hk : k < l.length), gI (l.map (·.1)) k = (l[k]).1 := fun k hk => by simp [gI, hk]
  refine ⟨A, l.map (·.1), cp, by injection h1 with h1 _; rw [h1, hl], by rw [hl]; omega, ?_, fun k hk => ?_⟩
  · rw [hl]
    refine h4 _ (fun k hk j hj => ?_)
    obtain rfl : j = 0 := by omega
    show some (Value.int .u16 (l[k]).1) = some (.int .u16 (gI (l.map (·.1)) k))
    rw [hg k hk]
  · rw [hg k (by rwa [hl] at hk)]
    exact (l[k]'(by rwa [hl] at hk)).2
end
end

section
open Go.RowKit
theorem news_of {α : Type} {f : α → List Value} {sz : Nat} (hsz : 0 < sz) (hf : ∀ a, (f a).length = sz) {F : Nat → Nat → Value} {l : List α} (hF : ∀ (k : Nat) (hk : k < l.length) (j : Nat), j < sz → (f l[k])[j]? = some (F k j)) {w : World} {b off : Nat}
    (hc : ∀ k j, k < l.length → j < sz → w.cell? ⟨b, off + k * sz + j, none⟩ = some (F k j)) : ∀ j u, (l.flatMap f)[j]? = some u → w.cell? ((⟨b, off, none⟩ : Addr).add j) = some u := by
  intro j u hu
  have hlen : (l.flatMap f).length = l.length * sz := by
    clear hF hc hu
    induction l with
    | nil => simp
    | cons a l ih => rw [List.flatMap_cons, List.length_append, hf, ih, List.length_cons, Nat.add_mul, Nat.one_mul, Nat.add_comm]
  have hj : j < l.length * sz := by
    have := (List.getElem?_eq_some_iff.1 hu).1
    rwa [hlen] at this
  have hk : j / sz < l.length := (Nat.div_lt_iff_lt_mul hsz).2 hj
  have hr : j % sz < sz := Nat.mod_lt _ hsz
  have e : j = j / sz * sz + j % sz := by have := Nat.div_add_mod j sz; rw [Nat.mul_comm] at this; omega
  have h1 := (flat_get hf hk hr).trans (hF _ hk _ hr)
  rw [← e, hu] at h1
  injection h1 with h1
  rw [Addr.add_lit, h1, ← hc _ _ hk hr]
  congr 2
  omega

section
variable {P : Program}
theorem wpList_append_nothing {ops : Array Oper} {rest : List Oper} {o : Oper} {a : Act} {Q : Exit → Act → World → Prop} (w : World) (hg : o.guard = none) (s x : Operand) (t e : TypeId) (i : TypeInfo)
    (hop : o.op = .call { callee := .builtin .append, args := #[s, x], argTypes := #[t, t] }) (ht : P.underlying t = some (.slice e)) (hi : P.info? e = some i) (B A : Option Addr) (n k c : Nat) (hle : n ≤ k)
    (hs : a.eval s = .slice B n k) (hx : a.eval x = .slice A 0 c) (hK : wpList P ops Q rest (a.put o.dst (.slice B n k)) w) : wpList P ops Q (o :: rest) a w := by
  refine wpList_plain hg fun K hK' => ?_
  have hrun : (Builtin.append_ #[t, t] o.type #[.slice B n k, .slice A 0 c]).run P w = .ok (.slice B n k) w := by
    cases A <;> cases B <;> simp [Builtin.append_, run_underlying ht, sizeOf, typeInfo, hi, Builtin.lenOf, Builtin.firstCells, loadCells, loadCellsFrom, storeCells, hle]
  unfold Oper.wp
  simp [execOp, hop, resolve, invoke, builtin, hs, hx, hrun, Result.andThen]
  exact hK' _ _ hK
theorem own_cap {w : World} {base : Nat} {e : TypeId} {sz n k : Nat} {B : Option Addr} {xs : List Value} (h : w.ownsRow base e sz (.slice B n k) n xs) : n ≤ k := by
  rcases h.2 with ⟨h1, h2⟩ | ⟨g, cap, cur, h1, _, _, h2, _⟩
  · injection h1 with h1 h3 h4; omega
  · injection h1 with h1 h3 h4; omega
theorem wpList_append_all {ops : Array Oper} {rest : List Oper} {o : Oper} {a : Act} {w : World} {Q : Exit → Act → World → Prop} (hgd : o.guard = none) (s x : Operand) (t : TypeId)
    (ho : o.op = .call { callee := .builtin .append, args := #[s, x], argTypes := #[t, t] })
    (base : Nat) (e : TypeId) (i : TypeInfo) (z : Value) (size bytes : Nat) (ht : P.underlying t = some (.slice e)) (hi : P.info? e = some i) (hz : i.zero = some z)
    (hsize : i.size = size) (hby : i.bytes = bytes) (hzs : z.cells.size = size) (hsz : 0 < size)
    (B : Option Addr) (n k : Nat) (xs : List Value) (hs : a.eval s = .slice B n k) (hown : w.ownsRow base e size (.slice B n k) n xs)
    (A : Option Addr) (m c : Nat) (news : List Value) (hx : a.eval x = .slice A m c) (hl : news.length = m * size) (hA : 0 < m → ∃ b off, A = some ⟨b, off, none⟩ ∧ ∀ j u, news[j]? = some u → w.cell? ((⟨b, off, none⟩ : Addr).add j) = some u) (h1 : ∀ u ∈ news, u.oneCell' = true)
    (h63 : n + m ≤ maxLen) (hbytes : (n + m) * bytes ≤ 140737488355328) (hbase : base ≤ w.heap.size) (H : Nat) (hH : w.heap.size = H)
    (h : ∀ B' k' w', w'.ownsRow base e size (.slice B' (n + m) k') (n + m) (xs ++ news) → w.grownBy w' (Value.slice B n k).ownBlock → (∀ g, (Value.slice B' (n + m) k').ownBlock = some g → (Value.slice B n k).ownBlock = some g ∨ g = H) → wpList P ops Q rest (a.put o.dst (.slice B' (n + m) k')) w') : wpList P ops Q (o :: rest) a w := by
  rcases Nat.eq_zero_or_pos m with h0 | h0
  · subst h0
    have hn : news = [] := List.eq_nil_of_length_eq_zero (by simpa using hl)
    subst hn
    have hcap := own_cap hown
    refine wpList_append_nothing w hgd s x t e i ho ht hi B A n k c hcap hs hx ?_
    exact h B k w (by simpa using hown) (World.grownBy.refl _ _) (fun g hg => .inl (by simpa using hg))
  · obtain ⟨b, off, rfl, hnews⟩ := hA h0
    exact wpList_append_lies w hgd s x t ho base e i z size bytes ht hi hz hsize hby hzs hsz _ n xs hs hown ⟨b, off, none⟩ m c news hx hl hnews h1 h0 h63 hbytes hbase H hH
      (fun g cap w' h2 h3 h4 _ => h _ _ w' h2 h3 (fun g' hg => by
        have : g = g' := by simpa [Value.ownBlock] using hg
        subst this; exact h4))
theorem one_at {w : World} {g sz : Nat} {t : TypeId} {cs : Array Value} {F : Nat → Nat → Value} (hb : Blk w g t cs) (h : ∀ j, j < sz → cs[j]? = some (F 0 j)) : SlAt w w.heap.size sz (some ⟨g, 0, none⟩) 1 F := fun _ => ⟨g, 0, rfl, hb.lt, fun k j hk hj => by
  obtain rfl : k = 0 := by omega
  rw [cell_of_row _ _ _ _ _ _ hb]
  simpa using h j hj⟩
/-- append of a list to a list that the call owns: the new list stands behind a name. -/
theorem wpList_append_list {ops : Array Oper} {rest : List Oper} {o : Oper} {a : Act} {w : World} {Q : Exit → Act → World → Prop} {α : Type} {f : α → List Value} {F : List α → Nat → Nat → Value} {sz : Nat} (hf : ∀ a, (f a).length = sz)
    (hF : ∀ (l : List α) (k : Nat) (hk : k < l.length) (j : Nat), j < sz → (f l[k])[j]? = some (F l k j)) (h1 : ∀ a u, u ∈ f a → u.oneCell' = true) (hgd : o.guard = none) (s x : Operand) (t : TypeId)
    (ho : o.op = .call { callee := .builtin .append, args := #[s, x], argTypes := #[t, t] })
    (base : Nat) (e : TypeId) (i : TypeInfo) (z : Value) (bytes : Nat) (ht : P.underlying t = some (.slice e)) (hi : P.info? e = some i) (hz : i.zero = some z)
    (hsize : i.size = sz) (hby : i.bytes = bytes) (hzs : z.cells.size = sz) (hsz : 0 < sz)
    (B : Option Addr) (k : Nat) (xs : List α) (hs : a.eval s = .slice B xs.length k) (hown : w.ownsRow base e sz (.slice B xs.length k) xs.length (xs.flatMap f))
    (A : Option Addr) (c : Nat) (ys : List α) (hx : a.eval x = .slice A ys.length c) (hA : SlAt w w.heap.size sz A ys.length (F ys))
    (h63 : xs.length + ys.length ≤ maxLen) (hbytes : (xs.length + ys.length) * bytes ≤ 140737488355328) (hbase : base ≤ w.heap.size) (H : Nat) (hH : w.heap.size = H)
    (h : ∀ L B' k' w', Hid (L = xs ++ ys) → w'.ownsRow base e sz (.slice B' L.length k') L.length (L.flatMap f) → w.grownBy w' (Value.slice B xs.length k).ownBlock → (∀ g, (Value.slice B' L.length k').ownBlock = some g → (Value.slice B xs.length k).ownBlock = some g ∨ g = H) → wpList P ops Q rest (a.put o.dst (.slice B' L.length k')) w') : wpList P ops Q (o :: rest) a w := by
  have hlen : (ys.flatMap f).length = ys.length * sz := by
    clear hA hx hbytes h63 h
    induction ys with
    | nil => simp
    | cons a l ih => rw [List.flatMap_cons, List.length_append, hf, ih, List.length_cons, Nat.add_mul, Nat.one_mul, Nat.add_comm]
  refine wpList_append_all hgd s x t ho base e i z sz bytes ht hi hz hsize hby hzs hsz B xs.length k _ hs hown A ys.length c (ys.flatMap f) hx hlen (fun h0 => ?_) (fun u hu => by obtain ⟨a, _, ha⟩ := List.mem_flatMap.1 hu; exact h1 a u ha) h63 hbytes hbase H hH (fun B' k' w' g1 g2 g3 => ?_)
  · obtain ⟨b, off, rfl, _, hc⟩ := hA h0
    exact ⟨b, off, rfl, news_of hsz hf (hF ys) (fun k j hk hj => by rw [Nat.add_assoc]; exact hc k j hk hj)⟩
  · have e1 : (xs ++ ys).length = xs.length + ys.length := List.length_append
    have := h (xs ++ ys) B' k' w' (Lib.hid rfl) (by rw [e1, List.flatMap_append]; exact g1) g2 (by rw [e1]; exact g3)
    rwa [e1] at this
theorem own_empty {w : World} {base g : Nat} {e : TypeId} {sz : Nat} (hb : Blk w g e #[]) (hg : base ≤ g) : w.ownsRow base e sz (.slice (some ⟨g, 0, none⟩) 0 0) 0 [] :=
  ⟨by simp, .inr ⟨g, 0, #[], rfl, hg, hb, Nat.le_refl _, by unfold maxLen; omega, by simp, by simp⟩⟩
end
end

section
open Go.RowKit
/-- a place where the walk stops. -/
structure Paused (p : Prop) : Prop where
  out : p
theorem pause_at {P : Program} {rest : List Oper} {A : Array Oper} {o : Oper} {a : Act} {w : World} {Q : Exit → Act → World → Prop} (d : Nat) (hd : o.dst = some d) (h : Paused (wpList P A Q (o :: rest) a w)) : wpList P A Q (o :: rest) a w := h.out

theorem own_set {w : World} {base : Nat} {e : TypeId} {sz n : Nat} {v : Value} {xs : List Value} (h : w.ownsRow base e sz v n xs) {g : Nat} (hg : v.ownBlock = some g) {j : Nat} (hj : j < xs.length) (u : Value) : (w.setCell ⟨g, j, none⟩ u).ownsRow base e sz v n (xs.set j u) := by
  rcases h.2 with ⟨rfl, _⟩ | ⟨g', cap, cur, rfl, hb, hh, hnc, hcm, hsz, hc⟩
  · simp [Value.ownBlock] at hg
  · have : g' = g := by simpa [Value.ownBlock] using hg
    subst this
    refine ⟨by rw [List.length_set]; exact h.1, .inr ⟨g', cap, cur.setIfInBounds j u, rfl, hb, ?_, hnc, hcm, by simpa using hsz, ?_⟩⟩
    · simp [World.setCell, Array.getElem?_modify, hh]
    · rw [Array.toList_setIfInBounds, List.take_set, hc]
theorem own_cell {w : World} {base : Nat} {e : TypeId} {sz n : Nat} {v : Value} {xs : List Value} (h : w.ownsRow base e sz v n xs) (hn : 0 < n) :
    ∃ g cap, v = .slice (some ⟨g, 0, none⟩) n cap ∧ base ≤ g ∧ g < w.heap.size ∧ n ≤ cap ∧ cap ≤ maxLen ∧ (∀ i, i < xs.length → w.cell? ⟨g, i, none⟩ = xs[i]?) ∧ ∀ i, w.frozen? ⟨g, i, none⟩ = false := by
  rcases h.2 with ⟨_, h0⟩ | ⟨g, cap, cur, rfl, hb, hh, hnc, hcm, hsz, hc⟩
  · omega
  · refine ⟨g, cap, rfl, hb, (Array.getElem?_eq_some_iff.1 hh).1, hnc, hcm, fun i hi => ?_, fun i => by simp [World.frozen?, hh]⟩
    rw [cell_of_row w g i cur e (0, 0) hh, ← hc, List.getElem?_take, if_pos (by rw [← h.1]; exact hi), Array.getElem?_toList]
theorem flat_set {α : Type} {f : α → List Value} {sz : Nat} (hf : ∀ a, (f a).length = sz) : ∀ {l : List α} {k : Nat} (hk : k < l.length) {j : Nat}, j < sz → ∀ {u : Value} {a : α}, (f l[k]).set j u = f a → (l.flatMap f).set (k * sz + j) u = (l.set k a).flatMap f
  | x :: l, 0, _, j, hj, u, a, h => by
    rw [List.flatMap_cons, List.set_cons_zero, List.flatMap_cons, Nat.zero_mul, Nat.zero_add, List.set_append, if_pos (by rw [hf]; exact hj)]
    rw [show (f x).set j u = f a from h]
  | x :: l, k + 1, hk, j, hj, u, a, h => by
    rw [List.flatMap_cons, List.set_cons_succ, List.flatMap_cons, List.set_append, if_neg (by rw [hf, Nat.add_mul]; omega), hf, show (k + 1) * sz + j - sz = k * sz + j by rw [Nat.add_mul]; omega]
    rw [flat_set hf (l := l) (k := k) (by simpa using hk) hj h]
theorem ints_cell {w : World} {base : Nat} {e : TypeId} {v : Value} {l : List Int} (h : w.ownsRow base e 1 v l.length (l.map (Value.int .i64))) {k : Nat} (hk : k < l.length) :
    ∃ g cap, v = .slice (some ⟨g, 0, none⟩) l.length cap ∧ base ≤ g ∧ g < w.heap.size ∧ w.cell? ⟨g, k, none⟩ = some (.int .i64 (gI l k)) ∧ ∀ i, w.frozen? ⟨g, i, none⟩ = false := by
  obtain ⟨g, cap, rfl, hb, hl, _, _, hc, hf⟩ := own_cell h (by omega)
  exact ⟨g, cap, rfl, hb, hl, by rw [hc _ (by simpa using hk)]; simp [gI, hk], hf⟩
theorem ints_set {w : World} {base : Nat} {e : TypeId} {v : Value} {l : List Int} (h : w.ownsRow base e 1 v l.length (l.map (Value.int .i64))) {g : Nat} (hg : v.ownBlock = some g) {k : Nat} (hk : k < l.length) (x : Int) :
    (w.setCell ⟨g, k, none⟩ (.int .i64 x)).ownsRow base e 1 v (l.set k x).length ((l.set k x).map (Value.int .i64)) := by
  have := own_set h hg (j := k) (by simpa using hk) (.int .i64 x)
  rw [List.length_set, List.map_set]
  exact this
end

section
open Go.RowKit
/-- the order in which a region's operations are gone through. -/
inductive Tr where
  | done : Tr
  | quiet : Nat → Tr → Tr
  | loud : Nat → Tr → Tr
  | fork : Nat → Tr → Nat → Tr → Tr
def Tr.len : Tr → Nat
  | .done => 0
  | .quiet _ t => t.len + 1
  | .loud _ t => t.len + 1
  | .fork _ t _ _ => t.len + 1
section
variable {P : Program} {ops : Array Oper} {md : Region.Mode} {S : World → Prop} {Q : Exit → Act → World → Prop}
def wpTr (P : Program) (ops : Array Oper) (Q : Exit → Act → World → Prop) (S : World → Prop) (T : Act → World → Prop) : Tr → Act → World → Prop
  | .done, a, w => T a w
  | .quiet k t, a, w => ∀ o, ops[k]? = some o → wpQuiet P ops S (fun a' => wpTr P ops Q S T t a' w) [o] a
  | .loud k t, a, w => wpOne P ops Q k (fun a' w' => S w' ∧ wpTr P ops Q S T t a' w') a w
  | .fork i t j u, a, w => wpOne P ops Q i (fun a' w' => S w' ∧ wpTr P ops Q S T t a' w') a w ∧ wpOne P ops Q j (fun a' w' => S w' ∧ wpTr P ops Q S T u a' w') a w

def trB (md : Region.Mode) (ops : Array Oper) (n g : Nat) : Tr → Array Bool → Bool
  | .done, listed => Region.seqB md ops g n listed
  | .quiet k t, listed => decide (k < n) && ((Region.ready md ops listed).contains k && Region.free md ops listed k && (match ops[k]? with | some o => mute o.op | none => false)) && trB md ops n g t (listed.setIfInBounds k true)
  | .loud k t, listed => decide (k < n) && decide (Region.ready md ops listed = [k]) && trB md ops n g t (listed.setIfInBounds k true)
  | .fork i t j u, listed => decide (Region.ready md ops listed = [i, j]) && decide (i < n) && decide (j < n) && decide (t.len = u.len) && trB md ops n g t (listed.setIfInBounds i true) && trB md ops n g u (listed.setIfInBounds j true)

def treeB (md : Region.Mode) (ops : Array Oper) (n : Nat) (t : Tr) : Bool :=
  Region.noSelect ops && decide (n < ops.size) && Region.sinkB md ops n && Region.chainB md ops n && trB md ops n (ops.size - n) t (Array.replicate ops.size false)

theorem tr_head {n g : Nat} {T : Act → World → Prop} (hsel : Region.noSelect ops = true) (hQ : ∀ d v c a w, Q (.panic c) (a.put d v) w → Q (.panic c) a w)
    (hs : Region.sinkB md ops n = true) (hc : Region.chainB md ops n = true) (hn : n < ops.size) :
    ∀ (t : Tr) (listed : Array Bool) (a : Act) (w : World), HeadInv md ops n listed → trB md ops n g t listed = true → S w →
      wpTr P ops Q S T t a w → wpAnyLH P md ops Q S n (fun listed' a' w' => Region.seqB md ops g n listed' = true ∧ T a' w') t.len listed a w
  | .done, listed, a, w, _, hB, _, h => ⟨hB, h⟩
  | .fork i t j u, listed, a, w, inv, hB, hS, h => by
    simp only [trB, Bool.and_eq_true, decide_eq_true_eq] at hB
    obtain ⟨⟨⟨⟨⟨hr, hi⟩, hj⟩, hl⟩, hA⟩, hBB⟩ := hB
    refine ⟨by rw [hr]; simp, fun k hk => ?_⟩
    rw [hr] at hk
    rcases List.mem_cons.1 hk with rfl | hk
    · exact ⟨hi, wpOp_mono (fun a' w' h' => ⟨h'.1, tr_head hsel hQ hs hc hn t _ a' w' (inv.set (by rw [hr]; simp) hi) hA h'.1 h'.2⟩) (wpOp_one hn hi h.1)⟩
    · obtain rfl := List.mem_singleton.1 hk
      refine ⟨hj, wpOp_mono (fun a' w' h' => ⟨h'.1, ?_⟩) (wpOp_one hn hj h.2)⟩
      rw [hl]
      exact tr_head hsel hQ hs hc hn u _ a' w' (inv.set (by rw [hr]; simp) hj) hBB h'.1 h'.2
  | .loud k t, listed, a, w, inv, hB, hS, h => by
    simp only [trB, Bool.and_eq_true, decide_eq_true_eq] at hB
    obtain ⟨⟨hk, hr⟩, hB'⟩ := hB
    have h' : wpOne P ops Q k (fun a' w' => S w' ∧ wpTr P ops Q S T t a' w') a w := h
    refine ⟨by rw [hr]; simp, fun x hx => ?_⟩
    rw [hr] at hx
    have hik : x = k := by simpa using hx
    subst hik
    exact ⟨hk, wpOp_mono (fun a' w' h' => ⟨h'.1, tr_head hsel hQ hs hc hn t _ a' w' (inv.set (by rw [hr]; simp) hk) hB' h'.1 h'.2⟩) (wpOp_one hn hk h')⟩
  | .quiet k t, listed, a, w, inv, hB, hS, h => by
    simp only [trB, Bool.and_eq_true, decide_eq_true_eq] at hB
    obtain ⟨⟨hk, ⟨hr, hf⟩, hm⟩, hB'⟩ := hB
    obtain ⟨o, hk0⟩ : ∃ o, ops[k]? = some o := ⟨ops[k]'(by omega), by simp [show k < ops.size by omega]⟩
    simp only [hk0] at hm
    have h' : wpQuiet P ops S (fun a' => wpTr P ops Q S T t a' w) [o] a := h o hk0
    have hr' : k ∈ Region.ready md ops listed := by simpa using hr
    have hst : qOp P ops S k (wpQuiet P ops S (fun a' => wpTr P ops Q S T t a' w) []) a := by unfold qOp; simp only [hk0]; exact h'
    obtain ⟨v, hy, hK⟩ := yieldsIn_of_qOp hk0 hst
    exact wpAnyLH_first hk0 (Region.noSelect_spec hsel) (hQ _ _) hs hc hn hk (fun listed' a' w' hL => seqB_ready hL.1) t.len listed a w inv (Region.free_spec hk0 hf) hr' (mute_if hm hy) hS
      (tr_head hsel hQ hs hc hn t _ _ w (inv.set hr' hk) hB' hS hK)

/-- what is left of the region: a tree. -/
def wpTree (P : Program) (l : List Oper) (Q : Exit → Act → World → Prop) (S : World → Prop) (n : Nat) (t : Tr) (a : Act) (w : World) : Prop :=
  wpTr P l.toArray Q S (fun a'' w'' => wpList P l.toArray Q (l.drop n) a'' w'') t a w
theorem tree_done {l r : List Oper} {n : Nat} {a : Act} {w : World} (hr : l.drop n = r) (h : wpList P l.toArray Q r a w) : wpTree P l Q S n .done a w := by subst hr; exact h
theorem tree_loud {l : List Oper} {n k : Nat} {t : Tr} {o : Oper} {a : Act} {w : World} (ho : l[k]? = some o)
    (h : wpList P l.toArray (fun e a' w' => match e with | .normal => S w' ∧ wpTree P l Q S n t a' w' | e => Q e a' w') [o] a w) : wpTree P l Q S n (.loud k t) a w := by
  show wpOne P l.toArray Q k _ a w
  intro o' ho'
  have : o' = o := by rw [List.getElem?_toArray, ho] at ho'; exact (Option.some.inj ho').symm
  subst this
  exact h
theorem tree_quiet {l : List Oper} {n k : Nat} {t : Tr} {o : Oper} {a : Act} {w : World} (ho : l[k]? = some o)
    (h : wpQuiet P l.toArray S (fun a' => wpTree P l Q S n t a' w) [o] a) : wpTree P l Q S n (.quiet k t) a w := by
  intro o' ho'
  have : o' = o := by rw [List.getElem?_toArray, ho] at ho'; exact (Option.some.inj ho').symm
  subst this
  exact h
theorem tree_fork {l : List Oper} {n i j : Nat} {t u : Tr} {oi oj : Oper} {a : Act} {w : World} (hi : l[i]? = some oi) (hj : l[j]? = some oj)
    (h1 : wpList P l.toArray (fun e a' w' => match e with | .normal => S w' ∧ wpTree P l Q S n t a' w' | e => Q e a' w') [oi] a w)
    (h2 : wpList P l.toArray (fun e a' w' => match e with | .normal => S w' ∧ wpTree P l Q S n u a' w' | e => Q e a' w') [oj] a w) : wpTree P l Q S n (.fork i t j u) a w := by
  refine ⟨fun o' ho' => ?_, fun o' ho' => ?_⟩
  · have : o' = oi := by rw [List.getElem?_toArray, hi] at ho'; exact (Option.some.inj ho').symm
    subst this
    exact h1
  · have : o' = oj := by rw [List.getElem?_toArray, hj] at ho'; exact (Option.some.inj ho').symm
    subst this
    exact h2
theorem wp_region_tree {id : Nat} {a : Act} {w : World} {l : List Oper} (n : Nat) (t : Tr) (S : World → Prop) (hm : P.follows .mixedOrders = true)
    (hB : (treeB .any l.toArray n t && decide (t.len = n)) = true) (hQ : ∀ d v c a w, Q (.panic c) (a.put d v) w → Q (.panic c) a w)
    (hS : S w.drew) (h : wpTree P l Q S n t a w.drew) : (Code.region id l.toArray true).wp P Q a w := by
  simp only [treeB, Bool.and_eq_true, decide_eq_true_eq] at hB
  obtain ⟨⟨⟨⟨⟨hsel, hn⟩, hs⟩, hc⟩, hlex⟩, hlen⟩ := hB
  have hdl : (l.drop n).length = l.toArray.size - n := by simp
  have inv0 : HeadInv .any l.toArray n (Array.replicate l.toArray.size false) :=
    ⟨by simp, fun j oj _ hl => (by rw [getD_replicate_false] at hl; cases hl), fun t _ ht => getD_in (by simpa using ht) (getD_replicate_false _ _)⟩
  have H := tr_head (md := .any) (g := l.toArray.size - n) (T := fun a'' w'' => wpList P l.toArray Q (l.drop n) a'' w'') hsel hQ hs hc hn t _ a _ inv0 hlex hS h
  refine wp_region_any hm ?_
  have := wpAny_of_headH (g := l.toArray.size - n) (fun listed' a' w' hL => by
    have := wpAny_of_seq (md := .any) (l.drop n) n listed' a' w' (fun j => by simp [List.getElem?_drop]) (by rw [hdl]; exact hL.1) hL.2
    rwa [hdl] at this) _ _ _ _ H
  rw [hlen, show n + (l.toArray.size - n) = l.toArray.size by omega] at this
  exact this
theorem wp_region_ext_tree {id : Nat} {a : Act} {w : World} {l : List Oper} (n : Nat) (t : Tr) (hm : P.follows .mixedOrders = true)
    (hB : (treeB .any l.toArray n t && decide (t.len = n)) = true) (hQ : ∀ d v c a w, Q (.panic c) (a.put d v) w → Q (.panic c) a w)
    (h : wpTree P l Q (fun w' => ∃ x : Ex w, w' = x.W) n t a w.drew) : (Code.region id l.toArray true).wp P Q a w :=
  wp_region_tree n t _ hm hB hQ (inEx (Below.refl w.heap.size w).drew) h
end
end

section
open Go.RowKit
/-- the order in which a region's operations are gone through. -/
inductive Tq where
  | done : Tq
  | quiet : Nat → Tq → Tq
  | loud : Nat → Tq → Tq
  | fork : Nat → Tq → Nat → Tq → Tq
  | fork3 : Nat → Tq → Nat → Tq → Nat → Tq → Tq
def Tq.len : Tq → Nat
  | .done => 0
  | .quiet _ t => t.len + 1
  | .loud _ t => t.len + 1
  | .fork _ t _ _ => t.len + 1
  | .fork3 _ t _ _ _ _ => t.len + 1
section
variable {P : Program} {ops : Array Oper} {md : Region.Mode} {S : World → Prop} {Q : Exit → Act → World → Prop}
def wqTr (P : Program) (ops : Array Oper) (Q : Exit → Act → World → Prop) (S : World → Prop) (T : Act → World → Prop) : Tq → Act → World → Prop
  | .done, a, w => T a w
  | .quiet k t, a, w => ∀ o, ops[k]? = some o → wpQuiet P ops S (fun a' => wqTr P ops Q S T t a' w) [o] a
  | .loud k t, a, w => wpOne P ops Q k (fun a' w' => S w' ∧ wqTr P ops Q S T t a' w') a w
  | .fork i t j u, a, w => wpOne P ops Q i (fun a' w' => S w' ∧ wqTr P ops Q S T t a' w') a w ∧ wpOne P ops Q j (fun a' w' => S w' ∧ wqTr P ops Q S T u a' w') a w
  | .fork3 i t j u k v, a, w => wpOne P ops Q i (fun a' w' => S w' ∧ wqTr P ops Q S T t a' w') a w ∧ wpOne P ops Q j (fun a' w' => S w' ∧ wqTr P ops Q S T u a' w') a w ∧ wpOne P ops Q k (fun a' w' => S w' ∧ wqTr P ops Q S T v a' w') a w

def tqB (md : Region.Mode) (ops : Array Oper) (n g : Nat) : Tq → Array Bool → Bool
  | .done, listed => Region.seqB md ops g n listed
  | .quiet k t, listed => decide (k < n) && ((Region.ready md ops listed).contains k && Region.free md ops listed k && (match ops[k]? with | some o => mute o.op | none => false)) && tqB md ops n g t (listed.setIfInBounds k true)
  | .loud k t, listed => decide (k < n) && decide (Region.ready md ops listed = [k]) && tqB md ops n g t (listed.setIfInBounds k true)
  | .fork i t j u, listed => decide (Region.ready md ops listed = [i, j]) && decide (i < n) && decide (j < n) && decide (t.len = u.len) && tqB md ops n g t (listed.setIfInBounds i true) && tqB md ops n g u (listed.setIfInBounds j true)
  | .fork3 i t j u k v, listed => decide (Region.ready md ops listed = [i, j, k]) && decide (i < n) && decide (j < n) && decide (k < n) && decide (t.len = u.len) && decide (t.len = v.len) && tqB md ops n g t (listed.setIfInBounds i true) && tqB md ops n g u (listed.setIfInBounds j true) && tqB md ops n g v (listed.setIfInBounds k true)

def tqeB (md : Region.Mode) (ops : Array Oper) (n : Nat) (t : Tq) : Bool :=
  Region.noSelect ops && decide (n < ops.size) && Region.sinkB md ops n && Region.chainB md ops n && tqB md ops n (ops.size - n) t (Array.replicate ops.size false)

theorem tq_head {n g : Nat} {T : Act → World → Prop} (hsel : Region.noSelect ops = true) (hQ : ∀ d v c a w, Q (.panic c) (a.put d v) w → Q (.panic c) a w)
    (hs : Region.sinkB md ops n = true) (hc : Region.chainB md ops n = true) (hn : n < ops.size) :
    ∀ (t : Tq) (listed : Array Bool) (a : Act) (w : World), HeadInv md ops n listed → tqB md ops n g t listed = true → S w →
      wqTr P ops Q S T t a w → wpAnyLH P md ops Q S n (fun listed' a' w' => Region.seqB md ops g n listed' = true ∧ T a' w') t.len listed a w
  | .done, listed, a, w, _, hB, _, h => ⟨hB, h⟩
  | .fork i t j u, listed, a, w, inv, hB, hS, h => by
    simp only [tqB, Bool.and_eq_true, decide_eq_true_eq] at hB
    obtain ⟨⟨⟨⟨⟨hr, hi⟩, hj⟩, hl⟩, hA⟩, hBB⟩ := hB
    refine ⟨by rw [hr]; simp, fun k hk => ?_⟩
    rw [hr] at hk
    rcases List.mem_cons.1 hk with rfl | hk
    · exact ⟨hi, wpOp_mono (fun a' w' h' => ⟨h'.1, tq_head hsel hQ hs hc hn t _ a' w' (inv.set (by rw [hr]; simp) hi) hA h'.1 h'.2⟩) (wpOp_one hn hi h.1)⟩
    · obtain rfl := List.mem_singleton.1 hk
      refine ⟨hj, wpOp_mono (fun a' w' h' => ⟨h'.1, ?_⟩) (wpOp_one hn hj h.2)⟩
      rw [hl]
      exact tq_head hsel hQ hs hc hn u _ a' w' (inv.set (by rw [hr]; simp) hj) hBB h'.1 h'.2
  | .fork3 i t j u l v, listed, a, w, inv, hB, hS, h => by
    simp only [tqB, Bool.and_eq_true, decide_eq_true_eq] at hB
    obtain ⟨⟨⟨⟨⟨⟨⟨⟨hr, hi⟩, hj⟩, hl⟩, hl1⟩, hl2⟩, hA⟩, hBB⟩, hC⟩ := hB
    refine ⟨by rw [hr]; simp, fun k hk => ?_⟩
    rw [hr] at hk
    rcases List.mem_cons.1 hk with rfl | hk
    · exact ⟨hi, wpOp_mono (fun a' w' h' => ⟨h'.1, tq_head hsel hQ hs hc hn t _ a' w' (inv.set (by rw [hr]; simp) hi) hA h'.1 h'.2⟩) (wpOp_one hn hi h.1)⟩
    · rcases List.mem_cons.1 hk with rfl | hk
      · refine ⟨hj, wpOp_mono (fun a' w' h' => ⟨h'.1, ?_⟩) (wpOp_one hn hj h.2.1)⟩
        show wpAnyLH P md ops Q S n _ t.len _ _ _
        rw [hl1]
        exact tq_head hsel hQ hs hc hn u _ a' w' (inv.set (by rw [hr]; simp) hj) hBB h'.1 h'.2
      · obtain rfl := List.mem_singleton.1 hk
        refine ⟨hl, wpOp_mono (fun a' w' h' => ⟨h'.1, ?_⟩) (wpOp_one hn hl h.2.2)⟩
        show wpAnyLH P md ops Q S n _ t.len _ _ _
        rw [hl2]
        exact tq_head hsel hQ hs hc hn v _ a' w' (inv.set (by rw [hr]; simp) hl) hC h'.1 h'.2
  | .loud k t, listed, a, w, inv, hB, hS, h => by
    simp only [tqB, Bool.and_eq_true, decide_eq_true_eq] at hB
    obtain ⟨⟨hk, hr⟩, hB'⟩ := hB
    have h' : wpOne P ops Q k (fun a' w' => S w' ∧ wqTr P ops Q S T t a' w') a w := h
    refine ⟨by rw [hr]; simp, fun x hx => ?_⟩
    rw [hr] at hx
    have hik : x = k := by simpa using hx
    subst hik
    exact ⟨hk, wpOp_mono (fun a' w' h' => ⟨h'.1, tq_head hsel hQ hs hc hn t _ a' w' (inv.set (by rw [hr]; simp) hk) hB' h'.1 h'.2⟩) (wpOp_one hn hk h')⟩
  | .quiet k t, listed, a, w, inv, hB, hS, h => by
    simp only [tqB, Bool.and_eq_true, decide_eq_true_eq] at hB
    obtain ⟨⟨hk, ⟨hr, hf⟩, hm⟩, hB'⟩ := hB
    obtain ⟨o, hk0⟩ : ∃ o, ops[k]? = some o := ⟨ops[k]'(by omega), by simp [show k < ops.size by omega]⟩
    simp only [hk0] at hm
    have h' : wpQuiet P ops S (fun a' => wqTr P ops Q S T t a' w) [o] a := h o hk0
    have hr' : k ∈ Region.ready md ops listed := by simpa using hr
    have hst : qOp P ops S k (wpQuiet P ops S (fun a' => wqTr P ops Q S T t a' w) []) a := by unfold qOp; simp only [hk0]; exact h'
    obtain ⟨v, hy, hK⟩ := yieldsIn_of_qOp hk0 hst
    exact wpAnyLH_first hk0 (Region.noSelect_spec hsel) (hQ _ _) hs hc hn hk (fun listed' a' w' hL => seqB_ready hL.1) t.len listed a w inv (Region.free_spec hk0 hf) hr' (mute_if hm hy) hS
      (tq_head hsel hQ hs hc hn t _ _ w (inv.set hr' hk) hB' hS hK)

/-- what is left of the region: a tree. -/
def wqTree (P : Program) (l : List Oper) (Q : Exit → Act → World → Prop) (S : World → Prop) (n : Nat) (t : Tq) (a : Act) (w : World) : Prop :=
  wqTr P l.toArray Q S (fun a'' w'' => wpList P l.toArray Q (l.drop n) a'' w'') t a w
theorem tq_done {l r : List Oper} {n : Nat} {a : Act} {w : World} (hr : l.drop n = r) (h : wpList P l.toArray Q r a w) : wqTree P l Q S n .done a w := by subst hr; exact h
theorem tq_loud {l : List Oper} {n k : Nat} {t : Tq} {o : Oper} {a : Act} {w : World} (ho : l[k]? = some o)
    (h : wpList P l.toArray (fun e a' w' => match e with | .normal => S w' ∧ wqTree P l Q S n t a' w' | e => Q e a' w') [o] a w) : wqTree P l Q S n (.loud k t) a w := by
  show wpOne P l.toArray Q k _ a w
  intro o' ho'
  have : o' = o := by rw [List.getElem?_toArray, ho] at ho'; exact (Option.some.inj ho').symm
  subst this
  exact h
theorem tq_quiet {l : List Oper} {n k : Nat} {t : Tq} {o : Oper} {a : Act} {w : World} (ho : l[k]? = some o)
    (h : wpQuiet P l.toArray S (fun a' => wqTree P l Q S n t a' w) [o] a) : wqTree P l Q S n (.quiet k t) a w := by
  intro o' ho'
  have : o' = o := by rw [List.getElem?_toArray, ho] at ho'; exact (Option.some.inj ho').symm
  subst this
  exact h
theorem tq_fork {l : List Oper} {n i j : Nat} {t u : Tq} {oi oj : Oper} {a : Act} {w : World} (hi : l[i]? = some oi) (hj : l[j]? = some oj)
    (h1 : wpList P l.toArray (fun e a' w' => match e with | .normal => S w' ∧ wqTree P l Q S n t a' w' | e => Q e a' w') [oi] a w)
    (h2 : wpList P l.toArray (fun e a' w' => match e with | .normal => S w' ∧ wqTree P l Q S n u a' w' | e => Q e a' w') [oj] a w) : wqTree P l Q S n (.fork i t j u) a w := by
  refine ⟨fun o' ho' => ?_, fun o' ho' => ?_⟩
  · have : o' = oi := by rw [List.getElem?_toArray, hi] at ho'; exact (Option.some.inj ho').symm
    subst this
    exact h1
  · have : o' = oj := by rw [List.getElem?_toArray, hj] at ho'; exact (Option.some.inj ho').symm
    subst this
    exact h2
theorem tq_fork3 {l : List Oper} {n i j k : Nat} {t u v : Tq} {oi oj ok : Oper} {a : Act} {w : World} (hi : l[i]? = some oi) (hj : l[j]? = some oj) (hk : l[k]? = some ok)
    (h1 : wpList P l.toArray (fun e a' w' => match e with | .normal => S w' ∧ wqTree P l Q S n t a' w' | e => Q e a' w') [oi] a w)
    (h2 : wpList P l.toArray (fun e a' w' => match e with | .normal => S w' ∧ wqTree P l Q S n u a' w' | e => Q e a' w') [oj] a w)
    (h3 : wpList P l.toArray (fun e a' w' => match e with | .normal => S w' ∧ wqTree P l Q S n v a' w' | e => Q e a' w') [ok] a w) : wqTree P l Q S n (.fork3 i t j u k v) a w := by
  refine ⟨fun o' ho' => ?_, fun o' ho' => ?_, fun o' ho' => ?_⟩
  · have : o' = oi := by rw [List.getElem?_toArray, hi] at ho'; exact (Option.some.inj ho').symm
    subst this
    exact h1
  · have : o' = oj := by rw [List.getElem?_toArray, hj] at ho'; exact (Option.some.inj ho').symm
    subst this
    exact h2
  · have : o' = ok := by rw [List.getElem?_toArray, hk] at ho'; exact (Option.some.inj ho').symm
    subst this
    exact h3
theorem wp_region_tq {id : Nat} {a : Act} {w : World} {l : List Oper} (n : Nat) (t : Tq) (S : World → Prop) (hm : P.follows .mixedOrders = true)
    (hB : (tqeB .any l.toArray n t && decide (t.len = n)) = true) (hQ : ∀ d v c a w, Q (.panic c) (a.put d v) w → Q (.panic c) a w)
    (hS : S w.drew) (h : wqTree P l Q S n t a w.drew) : (Code.region id l.toArray true).wp P Q a w := by
  simp only [tqeB, Bool.and_eq_true, decide_eq_true_eq] at hB
  obtain ⟨⟨⟨⟨⟨hsel, hn⟩, hs⟩, hc⟩, hlex⟩, hlen⟩ := hB
  have hdl : (l.drop n).length = l.toArray.size - n := by simp
  have inv0 : HeadInv .any l.toArray n (Array.replicate l.toArray.size false) :=
    ⟨by simp, fun j oj _ hl => (by rw [getD_replicate_false] at hl; cases hl), fun t _ ht => getD_in (by simpa using ht) (getD_replicate_false _ _)⟩
  have H := tq_head (md := .any) (g := l.toArray.size - n) (T := fun a'' w'' => wpList P l.toArray Q (l.drop n) a'' w'') hsel hQ hs hc hn t _ a _ inv0 hlex hS h
  refine wp_region_any hm ?_
  have := wpAny_of_headH (g := l.toArray.size - n) (fun listed' a' w' hL => by
    have := wpAny_of_seq (md := .any) (l.drop n) n listed' a' w' (fun j => by simp [List.getElem?_drop]) (by rw [hdl]; exact hL.1) hL.2
    rwa [hdl] at this) _ _ _ _ H
  rw [hlen, show n + (l.toArray.size - n) = l.toArray.size by omega] at this
  exact this
theorem wp_region_ext_tq {id : Nat} {a : Act} {w : World} {l : List Oper} (n : Nat) (t : Tq) (hm : P.follows .mixedOrders = true)
    (hB : (tqeB .any l.toArray n t && decide (t.len = n)) = true) (hQ : ∀ d v c a w, Q (.panic c) (a.put d v) w → Q (.panic c) a w)
    (h : wqTree P l Q (fun w' => ∃ x : Ex w, w' = x.W) n t a w.drew) : (Code.region id l.toArray true).wp P Q a w :=
  wp_region_tq n t _ hm hB hQ (inEx (Below.refl w.heap.size w).drew) h
end
end

section
open Go.RowKit
/-- worlds in which only some older blocks have turned. -/
structure Fx (w : World) (R : Nat → Prop) where
  W : World
  h : Fr R w W
instance (w : World) (R : Nat → Prop) : Nonempty (Fx w R) := ⟨⟨w, Fr.refl R w⟩⟩
theorem Fx.cell? {w : World} {R : Nat → Prop} (x : Fx w R) (b o : Nat) (hb : b < w.heap.size) (hne : ¬ R b) : x.W.cell? ⟨b, o, none⟩ = w.cell? ⟨b, o, none⟩ := World.cell?_of_block (x.h.block b hb hne)
theorem inFx {w w' : World} {R : Nat → Prop} (h : Fr R w w') : ∃ x : Fx w R, w' = x.W := ⟨⟨w', h⟩, rfl⟩
theorem Fr.drew {R : Nat → Prop} {w w' : World} (h : Fr R w w') : Fr R w w'.drew := ⟨h.os, h.tape, h.output, h.size, h.block⟩
theorem wp_region_fx_tq {P : Program} {Q : Exit → Act → World → Prop} {id : Nat} {a : Act} {w : World} {l : List Oper} (R : Nat → Prop) (n : Nat) (t : Tq) (hm : P.follows .mixedOrders = true)
    (hB : (tqeB .any l.toArray n t && decide (t.len = n)) = true) (hQ : ∀ d v c a w, Q (.panic c) (a.put d v) w → Q (.panic c) a w)
    (h : wqTree P l Q (fun w' => ∃ x : Fx w R, w' = x.W) n t a w.drew) : (Code.region id l.toArray true).wp P Q a w :=
  wp_region_tq n t _ hm hB hQ (inFx (Fr.refl R w).drew) h
attribute [local go_sem] Ex.cell? Ex.frozen? Fx.cell?
end

section
open Go.RowKit
attribute [local go_sem] Ex.cell? Ex.frozen?
/-- a loop's relation, closed to the walk. -/
structure Rel (p : Act → World → Prop) (a : Act) (W : World) : Prop where
  out : p a W
end
end Go.Proofs.Ytnplefhigbkbbaa
end

section
namespace Go.Proofs.Ytnplefhigbkbbaa
open Go.RowKit Go.ChangeShapes Go.WideShapes Go.Deep
section
variable {H : Type} {enc : TypeId × Value → H} {w : World} {base : Nat} {spare : Nat → Bool} {held : Bool}
/-- a slice of elements of which more is known than their cells. -/
theorem tr_slR {fuel : Nat} {t e : TypeId} {cs : List Value} {x : DataW H × List MemPlace} (ht : Try.prog.underlying t = some (.slice e)) {sz : Nat} (hsz : 0 < sz) (hC : Try.prog.cellsOf e = sz) {α : Type} [Inhabited α] {c : α → List Value} {R : α → Prop}
    (hc : ∀ {n : Nat} {cs : List Value} {x : DataW H × List MemPlace}, DataW.trod enc Try.prog w base spare held n e cs = some x → ∃ a, cs = c a ∧ R a) (hlen : ∀ a, (c a).length = sz)
    (h : DataW.trod enc Try.prog w base spare held fuel t cs = some x) :
    ∃ (A : Option Addr) (l : List α) (cp : Nat), cs = [.slice A l.length cp] ∧ l.length ≤ cp ∧ cp ≤ maxLen ∧ (∀ a ∈ l, R a) ∧ ∀ F : Nat → Nat → Value, (∀ (k : Nat) (hk : k < l.length) (j : Nat), j < sz → (c l[k])[j]? = some (F k j)) → SlAt w w.heap.size sz A l.length F := by
  rcases open_slice ht h with ⟨rfl, _⟩ | ⟨a, len, cap, m, n, D, Pl, rfl, _, hl, hm, hmm, _, hi⟩
  · exact ⟨none, [], 0, rfl, Nat.le_refl _, by unfold maxLen; omega, (fun a ha => by cases ha), fun F _ h => by simp at h⟩
  · have hlm : len ≤ m := by rw [hmm]; split <;> omega
    have hex : ∀ i, ∃ y : α, i < len → (∃ cs', w.cells? base (a.add (i * sz)) sz = some cs' ∧ cs' = c y) ∧ R y := fun i => by
      by_cases hil : i < len
      · obtain ⟨cs', h1, h2⟩ := hi i (by omega)
        rw [hC] at h1
        obtain ⟨y, hy, hR⟩ := hc h2
        exact ⟨y, fun _ => ⟨⟨cs', h1, hy⟩, hR⟩⟩
      · exact ⟨default, fun h => absurd h hil⟩
    obtain ⟨f, hf⟩ := Classical.axiomOfChoice hex
    refine ⟨some a, (List.range len).map f, cap, by simp, by simpa using hl, hm, fun a ha => ?_, fun F hF h0 => ?_⟩
    · obtain ⟨i, hi', rfl⟩ := List.mem_map.1 ha
      exact (hf i (by simpa using hi')).2
    have hl0 : 0 < len := by simpa using h0
    obtain ⟨cs0, h1, h2⟩ := (hf 0 hl0).1
    obtain ⟨_, _, h3⟩ := World.cells?_some h1
    have h4 := h3 0 hsz
    rw [h2, List.getElem?_eq_getElem (by rw [hlen]; exact hsz)] at h4
    obtain ⟨b, off, spot⟩ := a
    have hspot : spot = none := by simpa [Addr.add] using World.cell?_spot h4
    subst hspot
    rw [Addr.add_lit, Addr.add_lit] at h4
    refine ⟨b, off, rfl, lt_of_cell h4, fun k j hk hj => ?_⟩
    have hk' : k < len := by simpa using hk
    obtain ⟨⟨csk, g1, g2⟩, _⟩ := hf k hk'
    obtain ⟨_, _, g3⟩ := World.cells?_some g1
    have g4 := g3 j hj
    rw [Addr.add_lit, Addr.add_lit, g2] at g4
    have g5 := hF k (by simpa using hk') j hj
    rw [List.getElem_map, List.getElem_range] at g5
    rw [show off + (k * sz + j) = off + k * sz + j by omega, g4, g5]
end
end Go.Proofs.Ytnplefhigbkbbaa
end

section
namespace Go.Proofs.Ytnplefhigbkbbaa

abbrev Mat := Nat → Nat → Int
def set2 (f : Mat) (i j : Nat) (v : Int) : Mat := fun a b => if a = i ∧ b = j then v else f a b
theorem set2_self {f : Mat} {i j : Nat} {v : Int} : set2 f i j v i j = v := by simp [set2]
theorem set2_ne {f : Mat} {i j a b : Nat} {v : Int} (h : ¬ (a = i ∧ b = j)) : set2 f i j v a b = f a b := by unfold set2; rw [if_neg h]
/-- numbers that are no further apart than told. -/
def Sol (f : Mat) (x : Nat → Int) : Prop := ∀ i j, i < 13 → j < 13 → x j - x i ≤ f i j
def Past (i j a b : Nat) : Prop := a < i ∨ (a = i ∧ b < j)
instance (i j a b : Nat) : Decidable (Past i j a b) := by unfold Past; infer_instance
/-- one round over k, up to (i, j). -/
structure Ph (A : Mat) (k : Nat) (m : Int) (i j : Nat) (f : Mat) : Prop where
  le : ∀ a b, a < 13 → b < 13 → f a b ≤ A a b
  sol : ∀ x, Sol A x → Sol f x
  new : A k k = 0 → ∀ a b, a < 13 → b < 13 → f a b = if Past i j a b then min (A a b) (A a k + A k b) else A a b
  b1 : ∀ a b, a < 13 → b < 13 → -(6 * m) ≤ f a b
  kk : -(2 * m) ≤ f k k
  ck : ∀ a, a < 13 → -(3 * m) ≤ f a k
  rk : ∀ b, b < 13 → -(3 * m) ≤ f k b
  un : ∀ a b, a < 13 → b < 13 → ¬ Past i j a b → -m ≤ f a b
section
variable {A f : Mat} {k i j : Nat} {m : Int}
theorem Ph.start (hk : k < 13) (hm : 0 ≤ m) (h : ∀ a b, a < 13 → b < 13 → -m ≤ A a b) : Ph A k m 0 0 A :=
  ⟨fun _ _ _ _ => Int.le_refl _, fun _ h => h, fun _ a b _ _ => by rw [if_neg (by unfold Past; omega)], fun a b ha hb => by have := h a b ha hb; omega, by have := h k k hk hk; omega, fun a ha => by have := h a k ha hk; omega, fun b hb => by have := h k b hk hb; omega, fun a b ha hb _ => h a b ha hb⟩
theorem Ph.step (p : Ph A k m i j f) (hk : k < 13) (hi : i < 13) (hj : j < 13) (hm : 0 ≤ m) : Ph A k m i (j + 1) (set2 f i j (min (f i j) (f i k + f k j))) := by
  have u : -m ≤ f i j := p.un i j hi hj (by unfold Past; omega)
  have key : ∀ a b, a < 13 → b < 13 → set2 f i j (min (f i j) (f i k + f k j)) a b ≤ f a b := fun a b ha hb => by
    by_cases h : a = i ∧ b = j
    · obtain ⟨rfl, rfl⟩ := h; rw [set2_self]; omega
    · rw [set2_ne h]; exact Int.le_refl _
  refine ⟨fun a b ha hb => Int.le_trans (key a b ha hb) (p.le a b ha hb), fun x hx => ?_, fun h0 a b ha hb => ?_, fun a b ha hb => ?_, ?_, fun a ha => ?_, fun b hb => ?_, fun a b ha hb hn => ?_⟩
  · intro a b ha hb
    have hs := p.sol x hx
    by_cases h : a = i ∧ b = j
    · obtain ⟨rfl, rfl⟩ := h
      rw [set2_self]
      have h1 := hs a b ha hb
      have h2 := hs a k ha hk
      have h3 := hs k b hk hb
      omega
    · rw [set2_ne h]; exact hs a b ha hb
  · have n1 := p.new h0 i j hi hj
    have n2 := p.new h0 i k hi hk
    have n3 := p.new h0 k j hk hj
    rw [if_neg (by unfold Past; omega)] at n1
    have e2 : f i k = A i k := by rw [n2]; split <;> omega
    have e3 : f k j = A k j := by rw [n3]; split <;> omega
    by_cases h : a = i ∧ b = j
    · obtain ⟨rfl, rfl⟩ := h
      rw [set2_self, if_pos (by unfold Past; omega), n1, e2, e3]
    · rw [set2_ne h, p.new h0 a b ha hb]
      have : Past i (j + 1) a b ↔ Past i j a b := by unfold Past; omega
      simp only [this]
  · by_cases h : a = i ∧ b = j
    · obtain ⟨rfl, rfl⟩ := h
      rw [set2_self]
      have := p.ck a ha
      have := p.rk b hb
      omega
    · rw [set2_ne h]; exact p.b1 a b ha hb
  · by_cases h : k = i ∧ k = j
    · obtain ⟨rfl, rfl⟩ := h
      rw [set2_self]; omega
    · rw [set2_ne h]; exact p.kk
  · by_cases h : a = i ∧ k = j
    · obtain ⟨rfl, rfl⟩ := h
      rw [set2_self]
      have := p.kk
      omega
    · rw [set2_ne h]; exact p.ck a ha
  · by_cases h : k = i ∧ b = j
    · obtain ⟨rfl, rfl⟩ := h
      rw [set2_self]
      have := p.kk
      omega
    · rw [set2_ne h]; exact p.rk b hb
  · rw [set2_ne (by unfold Past at hn; omega)]
    exact p.un a b ha hb (by unfold Past at *; omega)
theorem Ph.row (p : Ph A k m i 13 f) : Ph A k m (i + 1) 0 f :=
  ⟨p.le, p.sol, fun h0 a b ha hb => by
    rw [p.new h0 a b ha hb]
    have : Past (i + 1) 0 a b ↔ Past i 13 a b := by unfold Past; omega
    simp only [this], p.b1, p.kk, p.ck, p.rk, fun a b ha hb hn => p.un a b ha hb (by unfold Past at *; omega)⟩
end
/-- after so many rounds. -/
structure FW (C : Mat) (t : Nat) (f : Mat) : Prop where
  le : ∀ a b, a < 13 → b < 13 → f a b ≤ C a b
  sol : ∀ x, Sol C x → Sol f x
  diag : ∀ n, n < 13 → f n n ≤ 0
  tri : (∀ n, n < 13 → 0 ≤ f n n) → ∀ k, k < t → ∀ a b, a < 13 → b < 13 → f a b ≤ f a k + f k b
  lo : ∀ a b, a < 13 → b < 13 → -(8000 * 6 ^ t) ≤ f a b
theorem FW.start {C : Mat} (hd : ∀ n, n < 13 → C n n = 0) (hl : ∀ a b, a < 13 → b < 13 → -8000 ≤ C a b) : FW C 0 C :=
  ⟨fun _ _ _ _ => Int.le_refl _, fun _ h => h, fun n hn => by rw [hd n hn]; exact Int.le_refl _, fun _ k hk => by omega, fun a b ha hb => by have := hl a b ha hb; omega⟩
theorem FW.step {C A f : Mat} {t : Nat} (h : FW C t A) (ht : t < 13) (p : Ph A t (8000 * 6 ^ t) 13 0 f) : FW C (t + 1) f := by
  refine ⟨fun a b ha hb => Int.le_trans (p.le a b ha hb) (h.le a b ha hb), fun x hx => p.sol x (h.sol x hx), fun n hn => Int.le_trans (p.le n n hn hn) (h.diag n hn), fun hd => ?_, fun a b ha hb => ?_⟩
  · have hA : ∀ n, n < 13 → A n n = 0 := fun n hn => by
      have h1 := hd n hn
      have h2 := p.le n n hn hn
      have h3 := h.diag n hn
      omega
    have hf : ∀ a b, a < 13 → b < 13 → f a b = min (A a b) (A a t + A t b) := fun a b ha hb => by
      rw [p.new (hA t ht) a b ha hb, if_pos (by unfold Past; omega)]
    have ht' := h.tri (fun n hn => by rw [hA n hn]; exact Int.le_refl _)
    have h0 := hA t ht
    intro k hk a b ha hb
    rcases Nat.lt_succ_iff_lt_or_eq.1 hk with hk | rfl
    · have k13 : k < 13 := by omega
      rw [hf a b ha hb, hf a k ha k13, hf k b k13 hb]
      have t1 := ht' k hk a b ha hb
      have t2 := ht' k hk a t ha ht
      have t3 := ht' k hk t b ht hb
      have t4 := ht' k hk t t ht ht
      omega
    · rw [hf a b ha hb, hf a k ha ht, hf k b ht hb]
      omega
  · have := p.b1 a b ha hb
    have e : (8000 : Int) * 6 ^ (t + 1) = 6 * (8000 * 6 ^ t) := by rw [Int.pow_succ]; omega
    omega
theorem six_pow {t : Nat} (ht : t ≤ 13) : ∃ n : Nat, (6 : Int) ^ t = (n : Int) ∧ n ≤ 13060694016 := by
  refine ⟨6 ^ t, by simp, ?_⟩
  have h1 : 6 ^ t ≤ 6 ^ 13 := Nat.pow_le_pow_right (by omega) ht
  have h3 : (6 : Nat) ^ 13 = 13060694016 := by decide
  omega
theorem six_le {t : Nat} (ht : t ≤ 13) : (8000 : Int) * 6 ^ t ≤ 104485552128000 := by
  obtain ⟨n, h1, h2⟩ := six_pow ht
  rw [h1]; omega
theorem six_pos (t : Nat) : (0 : Int) ≤ 8000 * 6 ^ t := by
  have : (0 : Int) < 6 ^ t := Int.pow_pos (by omega)
  omega
/-- some thing is further from itself: there are no such numbers. -/
theorem FW.none {C f : Mat} (h : FW C 13 f) {n : Nat} (hn : n < 13) (hf : f n n < 0) : ¬ ∃ x, Sol C x := by
  rintro ⟨x, hx⟩
  have := h.sol x hx n n hn hn
  omega
/-- else each is as far as it can be in some such numbers, of which any one can be 0. -/
theorem FW.some {C f : Mat} (h : FW C 13 f) (hf : ∀ n, n < 13 → 0 ≤ f n n) {a b : Nat} (ha : a < 13) (hb : b < 13) : ∃ x, Sol C x ∧ x 0 = 0 ∧ x b - x a = f a b := by
  have ht := h.tri hf
  have hd : f a a = 0 := by
    have h1 := h.diag a ha
    have h2 := hf a ha
    omega
  refine ⟨fun v => f a v - f a 0, fun i j hi hj => ?_, by simp only; omega, by simp only; omega⟩
  have h1 := ht i hi a j ha hj
  have h2 := h.le i j hi hj
  simp only
  omega
theorem FW.le_of {C f : Mat} (h : FW C 13 f) {a b : Nat} (ha : a < 13) (hb : b < 13) {x : Nat → Int} (hx : Sol C x) : x b - x a ≤ f a b := h.sol x hx a b ha hb
/-- two bounds more. -/
def spanM (f : Mat) (a b : Nat) (lo hi : Int) : Mat := set2 (set2 f a b (min (f a b) hi)) b a (min (set2 f a b (min (f a b) hi) b a) (-lo))
theorem spanM_sol {f : Mat} {a b : Nat} {lo hi : Int} (ha : a < 13) (hb : b < 13) (hab : a ≠ b) {x : Nat → Int} : Sol (spanM f a b lo hi) x ↔ Sol f x ∧ lo ≤ x b - x a ∧ x b - x a ≤ hi := by
  unfold spanM
  rw [set2_ne (show ¬ (b = a ∧ a = b) from fun h => hab h.2)]
  constructor
  · intro h
    have h1 := h a b ha hb
    rw [set2_ne (fun k => hab k.1), set2_self] at h1
    have h2 := h b a hb ha
    rw [set2_self] at h2
    refine ⟨fun i j hi hj => ?_, by omega, by omega⟩
    have h3 := h i j hi hj
    by_cases e1 : i = b ∧ j = a
    · obtain ⟨rfl, rfl⟩ := e1
      rw [set2_self] at h3; omega
    · rw [set2_ne e1] at h3
      by_cases e2 : i = a ∧ j = b
      · obtain ⟨rfl, rfl⟩ := e2
        rw [set2_self] at h3; omega
      · rw [set2_ne e2] at h3; exact h3
  · rintro ⟨h, h1, h2⟩ i j hi hj
    have h3 := h i j hi hj
    by_cases e1 : i = b ∧ j = a
    · obtain ⟨rfl, rfl⟩ := e1
      rw [set2_self]; omega
    · rw [set2_ne e1]
      by_cases e2 : i = a ∧ j = b
      · obtain ⟨rfl, rfl⟩ := e2
        rw [set2_self]; omega
      · rw [set2_ne e2]; exact h3
theorem spanM_diag {f : Mat} {a b n : Nat} {lo hi : Int} (hab : a ≠ b) : spanM f a b lo hi n n = f n n := by
  unfold spanM
  rw [set2_ne (by omega), set2_ne (by omega)]
theorem spanM_lo {f : Mat} {a b : Nat} {lo hi c : Int} (h : ∀ i j, i < 13 → j < 13 → c ≤ f i j) (ha : a < 13) (hb : b < 13) (h1 : c ≤ hi) (h2 : c ≤ -lo) : ∀ i j, i < 13 → j < 13 → c ≤ spanM f a b lo hi i j := by
  have step : ∀ {g : Mat} {a b : Nat} {v : Int}, (∀ i j, i < 13 → j < 13 → c ≤ g i j) → a < 13 → b < 13 → c ≤ v → ∀ i j, i < 13 → j < 13 → c ≤ set2 g a b (min (g a b) v) i j := fun {g a b v} hg ha hb hv i j hi hj => by
    by_cases e : i = a ∧ j = b
    · obtain ⟨rfl, rfl⟩ := e
      have := hg i j hi hj
      rw [set2_self]; omega
    · rw [set2_ne e]; exact hg i j hi hj
  exact step (step h ha hb h1) hb ha h2
/-- nothing is known but how far things can ever be. -/
def farM : Mat := fun a b => if a = b then 0 else 8000
theorem farM_sol {x : Nat → Int} : Sol farM x ↔ ∀ i j, i < 13 → j < 13 → x j - x i ≤ 8000 := by
  unfold Sol farM
  constructor
  · intro h i j hi hj
    have := h i j hi hj
    split at this
    · omega
    · exact this
  · intro h i j hi hj
    have := h i j hi hj
    split
    · rename_i e; subst e; omega
    · exact this
end Go.Proofs.Ytnplefhigbkbbaa
end

section
namespace Go.Proofs.Ytnplefhigbkbbaa

structure Rd where
  inst : Int
  val : Int
structure Bt where
  heat : Rg
  reads : List Rd
structure Se where
  offs : List Rg
  err : Int
  baths : List Bt
def gRd (l : List Rd) (k : Nat) : Rd := l.getD k ⟨0, 0⟩
def gBt (l : List Bt) (k : Nat) : Bt := l.getD k ⟨⟨0, 0⟩, []⟩
/-- is a range one from low to high? -/
def spanB (r : Rg) (low high : Int) : Bool := decide (low ≤ r.lo) && (decide (r.lo ≤ r.hi) && decide (r.hi ≤ high))
theorem spanB_iff {r : Rg} {low high : Int} : spanB r low high = true ↔ low ≤ r.lo ∧ r.lo ≤ r.hi ∧ r.hi ≤ high := by simp [spanB]
/-- is the reading k of a bath right, of n instruments? -/
def rdOk (n : Nat) (l : List Rd) (k : Nat) : Bool :=
  decide (0 ≤ (gRd l k).inst ∧ (gRd l k).inst ≤ (n : Int) - 1) && (allTo (fun j => decide ((gRd l j).inst ≠ (gRd l k).inst)) k && decide (-1000 ≤ (gRd l k).val ∧ (gRd l k).val ≤ 2000))
def rdsB (n : Nat) (l : List Rd) : Bool := allTo (rdOk n l) l.length
def btOk (n : Nat) (b : Bt) : Bool := rdsB n b.reads && spanB b.heat 0 1000
def offsB (l : List Rg) : Bool := allTo (fun k => spanB (gR l k) (-100) 100) l.length
def btsB (n : Nat) (l : List Bt) : Bool := allTo (fun k => btOk n (gBt l k)) l.length
/-- the error of a series. -/
def ckSe (s : Se) : Int := if s.offs.length > 6 ∨ s.baths.length > 6 then 3 else if s.offs.length = 0 ∨ offsB s.offs = false ∨ ¬ (0 ≤ s.err ∧ s.err ≤ 20) ∨ btsB s.offs.length s.baths = false then 1 else 0
structure SeOk (s : Se) : Prop where
  no : 0 < s.offs.length ∧ s.offs.length ≤ 6
  nb : s.baths.length ≤ 6
  err : 0 ≤ s.err ∧ s.err ≤ 20
  offs : ∀ k, k < s.offs.length → -100 ≤ (gR s.offs k).lo ∧ (gR s.offs k).lo ≤ (gR s.offs k).hi ∧ (gR s.offs k).hi ≤ 100
  heats : ∀ b, b < s.baths.length → 0 ≤ (gBt s.baths b).heat.lo ∧ (gBt s.baths b).heat.lo ≤ (gBt s.baths b).heat.hi ∧ (gBt s.baths b).heat.hi ≤ 1000
  inst : ∀ b, b < s.baths.length → ∀ k, k < (gBt s.baths b).reads.length → 0 ≤ (gRd (gBt s.baths b).reads k).inst ∧ (gRd (gBt s.baths b).reads k).inst ≤ (s.offs.length : Int) - 1
  once : ∀ b, b < s.baths.length → ∀ k, k < (gBt s.baths b).reads.length → ∀ j, j < k → (gRd (gBt s.baths b).reads j).inst ≠ (gRd (gBt s.baths b).reads k).inst
  val : ∀ b, b < s.baths.length → ∀ k, k < (gBt s.baths b).reads.length → -1000 ≤ (gRd (gBt s.baths b).reads k).val ∧ (gRd (gBt s.baths b).reads k).val ≤ 2000
theorem seOk_iff {s : Se} : ckSe s = 0 ↔ SeOk s := by
  unfold ckSe
  constructor
  · intro h
    split at h
    · cases h
    · rename_i h1
      split at h
      · cases h
      · rename_i h2
        simp only [not_or, Bool.not_eq_false, Decidable.not_not] at h1 h2
        obtain ⟨h3, h4, h5, h6⟩ := h2
        unfold offsB at h4
        unfold btsB at h6
        rw [allTo_iff] at h4 h6
        have hb : ∀ b, b < s.baths.length → rdsB s.offs.length (gBt s.baths b).reads = true ∧ spanB (gBt s.baths b).heat 0 1000 = true := fun b hb => by
          have := h6 b hb
          unfold btOk at this
          simpa using this
        have hr : ∀ b, b < s.baths.length → ∀ k, k < (gBt s.baths b).reads.length → rdOk s.offs.length (gBt s.baths b).reads k = true := fun b hb' k hk => by
          have := (hb b hb').1
          unfold rdsB at this
          exact allTo_iff.1 this k hk
        refine ⟨by omega, by omega, h5, fun k hk => spanB_iff.1 (h4 k hk), fun b hb' => spanB_iff.1 (hb b hb').2, fun b hb' k hk => ?_, fun b hb' k hk j hj => ?_, fun b hb' k hk => ?_⟩
        · have := hr b hb' k hk
          simp only [rdOk, Bool.and_eq_true, decide_eq_true_eq] at this
          exact this.1
        · have := hr b hb' k hk
          simp only [rdOk, Bool.and_eq_true, decide_eq_true_eq] at this
          exact of_decide_eq_true (allTo_iff.1 this.2.1 j hj)
        · have := hr b hb' k hk
          simp only [rdOk, Bool.and_eq_true, decide_eq_true_eq] at this
          exact this.2.2
  · intro h
    have h1 := h.no
    have h2 := h.nb
    rw [if_neg (by omega), if_neg]
    simp only [not_or, Bool.not_eq_false, Decidable.not_not]
    refine ⟨by omega, ?_, h.err, ?_⟩
    · unfold offsB
      exact allTo_iff.2 fun k hk => spanB_iff.2 (h.offs k hk)
    · unfold btsB
      refine allTo_iff.2 fun b hb => ?_
      unfold btOk
      rw [Bool.and_eq_true]
      refine ⟨?_, spanB_iff.2 (h.heats b hb)⟩
      unfold rdsB
      refine allTo_iff.2 fun k hk => ?_
      simp only [rdOk, Bool.and_eq_true, decide_eq_true_eq]
      exact ⟨h.inst b hb k hk, allTo_iff.2 fun j hj => decide_eq_true (h.once b hb k hk j hj), h.val b hb k hk⟩

/-- all readings of a series, bath by bath. -/
def placeB (s : Se) : Nat → List (Nat × Nat)
  | 0 => []
  | b + 1 => placeB s b ++ (List.range (gBt s.baths b).reads.length).map fun i => (b, i)
def placeL (s : Se) : List (Nat × Nat) := placeB s s.baths.length
theorem mem_placeB {s : Se} {p : Nat × Nat} : ∀ {n : Nat}, p ∈ placeB s n ↔ p.1 < n ∧ p.2 < (gBt s.baths p.1).reads.length
  | 0 => by simp [placeB]
  | n + 1 => by
    rw [placeB, List.mem_append, mem_placeB, List.mem_map]
    constructor
    · rintro (h | ⟨i, h, rfl⟩)
      · exact ⟨by omega, h.2⟩
      · exact ⟨by simp, by simpa using h⟩
    · rintro ⟨h1, h2⟩
      rcases Nat.lt_succ_iff_lt_or_eq.1 h1 with h3 | h3
      · exact .inl ⟨h3, h2⟩
      · exact .inr ⟨p.2, by rw [← h3]; simpa using h2, by rw [← h3]⟩
theorem mem_placeL {s : Se} {p : Nat × Nat} : p ∈ placeL s ↔ p.1 < s.baths.length ∧ p.2 < (gBt s.baths p.1).reads.length := mem_placeB
def rdAt (s : Se) (p : Nat × Nat) : Rd := gRd (gBt s.baths p.1).reads p.2
def pAt (s : Se) (i : Nat) : Nat × Nat := (placeL s).getD i (0, 0)
theorem pAt_at {s : Se} {i : Nat} (hi : i < (placeL s).length) : pAt s i = (placeL s)[i] := by simp [pAt, hi]
theorem pAt_mem {s : Se} {i : Nat} (hi : i < (placeL s).length) : (pAt s i).1 < s.baths.length ∧ (pAt s i).2 < (gBt s.baths (pAt s i).1).reads.length := by
  rw [pAt_at hi]; exact mem_placeL.1 (List.getElem_mem hi)
/-- a truth, but for the readings that are left out. -/
structure Tru (s : Se) (out : Nat → Bool) (o h : Nat → Int) : Prop where
  offs : ∀ n, n < s.offs.length → (gR s.offs n).lo ≤ o n ∧ o n ≤ (gR s.offs n).hi
  heats : ∀ b, b < s.baths.length → (gBt s.baths b).heat.lo ≤ h b ∧ h b ≤ (gBt s.baths b).heat.hi
  reads : ∀ i, i < (placeL s).length → out i = false → (rdAt s (pAt s i)).val - s.err ≤ h (pAt s i).1 + o (rdAt s (pAt s i)).inst.toNat ∧ h (pAt s i).1 + o (rdAt s (pAt s i)).inst.toNat ≤ (rdAt s (pAt s i)).val + s.err

/-- the distances, as they are laid down: first the offsets, then the heats, then the readings. -/
def offsTo (s : Se) : Nat → Mat
  | 0 => farM
  | k + 1 => spanM (offsTo s k) 0 (1 + k) (-(gR s.offs k).hi) (-(gR s.offs k).lo)
def heatsTo (s : Se) : Nat → Mat
  | 0 => offsTo s s.offs.length
  | k + 1 => spanM (heatsTo s k) 0 (7 + k) (gBt s.baths k).heat.lo (gBt s.baths k).heat.hi
def readsTo (s : Se) (out : Nat → Bool) : List (Nat × Nat) → Nat → Mat → Mat
  | [], _, f => f
  | p :: l, k, f => readsTo s out l (k + 1) (if out k = true then f else spanM f (1 + (rdAt s p).inst.toNat) (7 + p.1) ((rdAt s p).val - s.err) ((rdAt s p).val + s.err))
theorem readsTo_snoc {s : Se} {out : Nat → Bool} {p : Nat × Nat} : ∀ {l : List (Nat × Nat)} {k : Nat} {f : Mat}, readsTo s out (l ++ [p]) k f = if out (k + l.length) = true then readsTo s out l k f else spanM (readsTo s out l k f) (1 + (rdAt s p).inst.toNat) (7 + p.1) ((rdAt s p).val - s.err) ((rdAt s p).val + s.err)
  | [], k, f => by simp [readsTo]
  | q :: l, k, f => by
    rw [List.cons_append, readsTo, readsTo_snoc, readsTo, List.length_cons, show k + 1 + l.length = k + (l.length + 1) by omega]
/-- the distances after so many readings. -/
def readN (s : Se) (out : Nat → Bool) (n : Nat) : Mat := readsTo s out ((placeL s).take n) 0 (heatsTo s s.baths.length)
theorem readN_step {s : Se} {out : Nat → Bool} {n : Nat} (hn : n < (placeL s).length) : readN s out (n + 1) = if out n = true then readN s out n else spanM (readN s out n) (1 + (rdAt s (pAt s n)).inst.toNat) (7 + (pAt s n).1) ((rdAt s (pAt s n)).val - s.err) ((rdAt s (pAt s n)).val + s.err) := by
  unfold readN
  rw [List.take_succ_eq_append_getElem hn, readsTo_snoc, ← pAt_at hn, Nat.zero_add, List.length_take, Nat.min_eq_left (Nat.le_of_lt hn)]
def seM (s : Se) (out : Nat → Bool) : Mat := readsTo s out (placeL s) 0 (heatsTo s s.baths.length)
section
variable {s : Se} {x : Nat → Int}
theorem offsTo_sol (h6 : s.offs.length ≤ 6) : ∀ {k : Nat}, k ≤ s.offs.length → (Sol (offsTo s k) x ↔ Sol farM x ∧ ∀ n, n < k → -(gR s.offs n).hi ≤ x (1 + n) - x 0 ∧ x (1 + n) - x 0 ≤ -(gR s.offs n).lo)
  | 0, _ => by rw [offsTo]; exact ⟨fun h => ⟨h, fun n hn => by omega⟩, fun h => h.1⟩
  | k + 1, hk => by
    rw [offsTo, spanM_sol (by omega) (by omega) (by omega), offsTo_sol h6 (by omega)]
    constructor
    · rintro ⟨⟨h1, h2⟩, h3⟩
      refine ⟨h1, fun n hn => ?_⟩
      rcases Nat.lt_succ_iff_lt_or_eq.1 hn with h4 | h4
      · exact h2 n h4
      · subst h4; exact h3
    · rintro ⟨h1, h2⟩
      exact ⟨⟨h1, fun n hn => h2 n (by omega)⟩, h2 k (by omega)⟩
theorem heatsTo_sol (h6 : s.offs.length ≤ 6) (hb : s.baths.length ≤ 6) : ∀ {k : Nat}, k ≤ s.baths.length → (Sol (heatsTo s k) x ↔ Sol (offsTo s s.offs.length) x ∧ ∀ b, b < k → (gBt s.baths b).heat.lo ≤ x (7 + b) - x 0 ∧ x (7 + b) - x 0 ≤ (gBt s.baths b).heat.hi)
  | 0, _ => by rw [heatsTo]; exact ⟨fun h => ⟨h, fun n hn => by omega⟩, fun h => h.1⟩
  | k + 1, hk => by
    rw [heatsTo, spanM_sol (by omega) (by omega) (by omega), heatsTo_sol h6 hb (by omega)]
    constructor
    · rintro ⟨⟨h1, h2⟩, h3⟩
      refine ⟨h1, fun n hn => ?_⟩
      rcases Nat.lt_succ_iff_lt_or_eq.1 hn with h4 | h4
      · exact h2 n h4
      · subst h4; exact h3
    · rintro ⟨h1, h2⟩
      exact ⟨⟨h1, fun n hn => h2 n (by omega)⟩, h2 k (by omega)⟩
theorem readsTo_sol {out : Nat → Bool} : ∀ {l : List (Nat × Nat)} {k : Nat} {f : Mat}, (∀ p, p ∈ l → p.1 < 6 ∧ (rdAt s p).inst.toNat < 6) →
    (Sol (readsTo s out l k f) x ↔ Sol f x ∧ ∀ i (hi : i < l.length), out (k + i) = false → (rdAt s l[i]).val - s.err ≤ x (7 + l[i].1) - x (1 + (rdAt s l[i]).inst.toNat) ∧ x (7 + l[i].1) - x (1 + (rdAt s l[i]).inst.toNat) ≤ (rdAt s l[i]).val + s.err)
  | [], k, f, _ => by rw [readsTo]; exact ⟨fun h => ⟨h, fun i hi => by simp at hi⟩, fun h => h.1⟩
  | p :: l, k, f, hl => by
    have hp := hl p (by simp)
    rw [readsTo, readsTo_sol (fun p hp => hl p (by simp [hp]))]
    have key : Sol (if out k = true then f else spanM f (1 + (rdAt s p).inst.toNat) (7 + p.1) ((rdAt s p).val - s.err) ((rdAt s p).val + s.err)) x ↔ Sol f x ∧ (out k = false → (rdAt s p).val - s.err ≤ x (7 + p.1) - x (1 + (rdAt s p).inst.toNat) ∧ x (7 + p.1) - x (1 + (rdAt s p).inst.toNat) ≤ (rdAt s p).val + s.err) := by
      cases ho : out k
      · rw [if_neg (by simp), spanM_sol (by omega) (by omega) (by omega)]
        simp
      · rw [if_pos rfl]; simp
    rw [key]
    constructor
    · rintro ⟨⟨h1, h2⟩, h3⟩
      refine ⟨h1, fun i hi ho => ?_⟩
      match i, hi with
      | 0, _ => exact h2 ho
      | i + 1, hi => exact h3 i (by simpa using hi) (by rw [show k + 1 + i = k + (i + 1) by omega]; exact ho)
    · rintro ⟨h1, h2⟩
      exact ⟨⟨h1, fun ho => h2 0 (by simp) ho⟩, fun i hi ho => h2 (i + 1) (by simpa using hi) (by rw [show k + (i + 1) = k + 1 + i by omega]; exact ho)⟩
theorem seM_sol {out : Nat → Bool} (hok : SeOk s) : Sol (seM s out) x ↔ Sol farM x ∧ (∀ n, n < s.offs.length → -(gR s.offs n).hi ≤ x (1 + n) - x 0 ∧ x (1 + n) - x 0 ≤ -(gR s.offs n).lo) ∧ (∀ b, b < s.baths.length → (gBt s.baths b).heat.lo ≤ x (7 + b) - x 0 ∧ x (7 + b) - x 0 ≤ (gBt s.baths b).heat.hi) ∧
    ∀ i, i < (placeL s).length → out i = false → (rdAt s (pAt s i)).val - s.err ≤ x (7 + (pAt s i).1) - x (1 + (rdAt s (pAt s i)).inst.toNat) ∧ x (7 + (pAt s i).1) - x (1 + (rdAt s (pAt s i)).inst.toNat) ≤ (rdAt s (pAt s i)).val + s.err := by
  have h1 := hok.no
  have h2 := hok.nb
  unfold seM
  rw [readsTo_sol (fun p hp => ?_), heatsTo_sol h1.2 h2 (Nat.le_refl _), offsTo_sol h1.2 (Nat.le_refl _), and_assoc, and_assoc]
  · refine and_congr Iff.rfl (and_congr Iff.rfl (and_congr Iff.rfl ?_))
    constructor
    · intro h i hi ho
      have := h i hi (by rw [Nat.zero_add]; exact ho)
      rwa [← pAt_at hi] at this
    · intro h i hi ho
      have := h i hi (by rw [Nat.zero_add] at ho; exact ho)
      rwa [pAt_at hi] at this
  · obtain ⟨h3, h4⟩ := mem_placeL.1 hp
    have := hok.inst p.1 h3 p.2 h4
    unfold rdAt
    omega
/-- the numbers of a truth. -/
def xOf (s : Se) (o h : Nat → Int) : Nat → Int := fun v => if v = 0 then 0 else if v ≤ s.offs.length then -(o (v - 1)) else if 7 ≤ v ∧ v < 7 + s.baths.length then h (v - 7) else 0
theorem tr_sol {out : Nat → Bool} (hok : SeOk s) {o h : Nat → Int} (ht : Tru s out o h) : Sol (seM s out) (xOf s o h) := by
  have h1 := hok.no
  have h2 := hok.nb
  have e0 : xOf s o h 0 = 0 := by simp [xOf]
  have eo : ∀ n, n < s.offs.length → xOf s o h (1 + n) = -(o n) := fun n hn => by
    unfold xOf
    rw [if_neg (by omega), if_pos (by omega), show 1 + n - 1 = n by omega]
  have eh : ∀ b, b < s.baths.length → xOf s o h (7 + b) = h b := fun b hb => by
    unfold xOf
    rw [if_neg (by omega), if_neg (by omega), if_pos (by omega), show 7 + b - 7 = b by omega]
  have hb : ∀ v, v < 13 → -1000 ≤ xOf s o h v ∧ xOf s o h v ≤ 1000 := fun v _ => by
    unfold xOf
    split
    · omega
    · split
      · have k1 := ht.offs (v - 1) (by omega)
        have k2 := hok.offs (v - 1) (by omega)
        omega
      · split
        · have k1 := ht.heats (v - 7) (by omega)
          have k2 := hok.heats (v - 7) (by omega)
          omega
        · omega
  refine (seM_sol hok).2 ⟨farM_sol.2 fun i j hi hj => ?_, fun n hn => ?_, fun b hb => ?_, fun i hi ho => ?_⟩
  · have k1 := hb i hi
    have k2 := hb j hj
    omega
  · rw [eo n hn, e0]
    have := ht.offs n hn
    omega
  · rw [eh b hb, e0]
    have := ht.heats b hb
    omega
  · obtain ⟨h3, h4⟩ := pAt_mem hi
    have h5 := hok.inst _ h3 _ h4
    have h6 := ht.reads i hi ho
    unfold rdAt at *
    rw [eh _ h3, eo _ (by omega)]
    omega
theorem sol_tr {out : Nat → Bool} (hok : SeOk s) (hx : Sol (seM s out) x) (h0 : x 0 = 0) : Tru s out (fun n => -x (1 + n)) (fun b => x (7 + b)) := by
  obtain ⟨_, h1, h2, h3⟩ := (seM_sol hok).1 hx
  refine ⟨fun n hn => ?_, fun b hb => ?_, fun i hi ho => ?_⟩
  · have := h1 n hn; omega
  · have := h2 b hb; omega
  · have := h3 i hi ho; omega
/-- what far tells: the ends of what can be. -/
structure FarIs (s : Se) (out : Nat → Bool) (f : Mat) : Prop where
  some : ∃ o h, Tru s out o h
  offs : ∀ n, n < s.offs.length → EndsOf (fun z => ∃ o h, Tru s out o h ∧ z = o n) (-(f 0 (1 + n))) (f (1 + n) 0)
  heats : ∀ b, b < s.baths.length → EndsOf (fun z => ∃ o h, Tru s out o h ∧ z = h b) (-(f (7 + b) 0)) (f 0 (7 + b))
  diff : ∀ n k, n < s.offs.length → k < s.offs.length → EndsOf (fun z => ∃ o h, Tru s out o h ∧ z = o n - o k) (-(f (1 + k) (1 + n))) (f (1 + n) (1 + k))
  bd : ∀ a b, a < 13 → b < 13 → -16000 ≤ f a b ∧ f a b ≤ 8000
theorem far_none {out : Nat → Bool} (hok : SeOk s) {f : Mat} (hf : FW (seM s out) 13 f) {n : Nat} (hn : n < 13) (h : f n n < 0) : ¬ ∃ o h, Tru s out o h := by
  rintro ⟨o, h', ht⟩
  exact hf.none hn h ⟨_, tr_sol hok ht⟩
theorem xOf_off {o h : Nat → Int} {n : Nat} (hn : n < s.offs.length) : xOf s o h (1 + n) = -(o n) := by
  unfold xOf
  rw [if_neg (by omega), if_pos (by omega), show 1 + n - 1 = n by omega]
theorem xOf_heat {o h : Nat → Int} (h6 : s.offs.length ≤ 6) {b : Nat} (hb : b < s.baths.length) : xOf s o h (7 + b) = h b := by
  unfold xOf
  rw [if_neg (by omega), if_neg (by omega), if_pos (by omega), show 7 + b - 7 = b by omega]
theorem xOf_zero {o h : Nat → Int} : xOf s o h 0 = 0 := by simp [xOf]
theorem far_some {out : Nat → Bool} (hok : SeOk s) {f : Mat} (hf : FW (seM s out) 13 f) (hd : ∀ n, n < 13 → 0 ≤ f n n) : FarIs s out f := by
  have h1 := hok.no
  have h2 := hok.nb
  have get : ∀ a b, a < 13 → b < 13 → ∃ x, Sol (seM s out) x ∧ x 0 = 0 ∧ x b - x a = f a b := fun a b ha hb => hf.some hd ha hb
  refine ⟨?_, fun n hn => ⟨?_, ?_, ?_⟩, fun b hb => ⟨?_, ?_, ?_⟩, fun n k hn hk => ⟨?_, ?_, ?_⟩, fun a b ha hb => ?_⟩
  · obtain ⟨x, hx, h0, _⟩ := get 0 0 (by omega) (by omega)
    exact ⟨_, _, sol_tr hok hx h0⟩
  · obtain ⟨x, hx, h0, he⟩ := get 0 (1 + n) (by omega) (by omega)
    exact ⟨_, _, sol_tr hok hx h0, by omega⟩
  · obtain ⟨x, hx, h0, he⟩ := get (1 + n) 0 (by omega) (by omega)
    exact ⟨_, _, sol_tr hok hx h0, by omega⟩
  · rintro z ⟨o, h, ht, rfl⟩
    have k1 := hf.le_of (a := 0) (b := 1 + n) (by omega) (by omega) (tr_sol hok ht)
    have k2 := hf.le_of (a := 1 + n) (b := 0) (by omega) (by omega) (tr_sol hok ht)
    rw [xOf_off hn, xOf_zero] at k1 k2
    omega
  · obtain ⟨x, hx, h0, he⟩ := get (7 + b) 0 (by omega) (by omega)
    exact ⟨_, _, sol_tr hok hx h0, by omega⟩
  · obtain ⟨x, hx, h0, he⟩ := get 0 (7 + b) (by omega) (by omega)
    exact ⟨_, _, sol_tr hok hx h0, by omega⟩
  · rintro z ⟨o, h, ht, rfl⟩
    have k1 := hf.le_of (a := 0) (b := 7 + b) (by omega) (by omega) (tr_sol hok ht)
    have k2 := hf.le_of (a := 7 + b) (b := 0) (by omega) (by omega) (tr_sol hok ht)
    rw [xOf_heat h1.2 hb, xOf_zero] at k1 k2
    omega
  · obtain ⟨x, hx, h0, he⟩ := get (1 + k) (1 + n) (by omega) (by omega)
    exact ⟨_, _, sol_tr hok hx h0, by omega⟩
  · obtain ⟨x, hx, h0, he⟩ := get (1 + n) (1 + k) (by omega) (by omega)
    exact ⟨_, _, sol_tr hok hx h0, by omega⟩
  · rintro z ⟨o, h, ht, rfl⟩
    have k1 := hf.le_of (a := 1 + k) (b := 1 + n) (by omega) (by omega) (tr_sol hok ht)
    have k2 := hf.le_of (a := 1 + n) (b := 1 + k) (by omega) (by omega) (tr_sol hok ht)
    rw [xOf_off hn, xOf_off hk] at k1 k2
    omega
  · have t := hf.tri hd a ha b b hb hb
    have d1 := hd b hb
    obtain ⟨x, hx, _, he⟩ := get a b ha hb
    obtain ⟨h3, _⟩ := (seM_sol hok).1 hx
    have h4 := farM_sol.1 h3 a b ha hb
    have h5 := farM_sol.1 h3 b a hb ha
    omega
end
end Go.Proofs.Ytnplefhigbkbbaa
end

section
namespace Go.Proofs.Ytnplefhigbkbbaa

structure Wo where
  rng : List Rg
  room : Int
  steps : Int
structure Dp where
  heat : Int
  ins : List Int
instance : Inhabited Dp := ⟨⟨0, []⟩⟩
def heatsB (l : List Rg) : Bool := allTo (fun k => spanB (gR l k) 0 1000) l.length
/-- the error of a works. -/
def ckWo (w : Wo) : Int := if w.rng.length > 6 then 3 else if w.rng.length = 0 ∨ heatsB w.rng = false ∨ ¬ (2 ≤ w.room ∧ w.room ≤ 6) ∨ ¬ (1 ≤ w.steps ∧ w.steps ≤ 4) then 1 else 0
structure WoOk (w : Wo) : Prop where
  n : 0 < w.rng.length ∧ w.rng.length ≤ 6
  rng : ∀ k, k < w.rng.length → 0 ≤ (gR w.rng k).lo ∧ (gR w.rng k).lo ≤ (gR w.rng k).hi ∧ (gR w.rng k).hi ≤ 1000
  room : 2 ≤ w.room ∧ w.room ≤ 6
  steps : 1 ≤ w.steps ∧ w.steps ≤ 4
theorem woOk_iff {w : Wo} : ckWo w = 0 ↔ WoOk w := by
  unfold ckWo
  constructor
  · intro h
    split at h
    · cases h
    · rename_i h1
      split at h
      · cases h
      · rename_i h2
        simp only [not_or, Bool.not_eq_false, Decidable.not_not] at h1 h2
        obtain ⟨h3, h4, h5, h6⟩ := h2
        unfold heatsB at h4
        exact ⟨by omega, fun k hk => spanB_iff.1 (allTo_iff.1 h4 k hk), h5, h6⟩
  · intro h
    have h1 := h.n
    rw [if_neg (by omega), if_neg]
    simp only [not_or, Bool.not_eq_false, Decidable.not_not]
    exact ⟨by omega, by unfold heatsB; exact allTo_iff.2 fun k hk => spanB_iff.2 (h.rng k hk), h.room, h.steps⟩
/-- is the instrument k of a dip right? -/
def inOk (w : Wo) (d : Dp) (k : Nat) : Bool :=
  inB (gI d.ins k) 0 ((w.rng.length : Int) - 1) && (!(decide (0 < k) && decide (gI d.ins k ≤ gI d.ins (k - 1))) && inB d.heat (gR w.rng (gI d.ins k).toNat).lo (gR w.rng (gI d.ins k).toNat).hi)
def dipB (w : Wo) (d : Dp) : Bool := inB (d.ins.length : Int) 2 w.room && allTo (inOk w d) d.ins.length
structure DipOk (w : Wo) (d : Dp) : Prop where
  len : 2 ≤ (d.ins.length : Int) ∧ (d.ins.length : Int) ≤ w.room
  ins : ∀ k, k < d.ins.length → 0 ≤ gI d.ins k ∧ gI d.ins k ≤ (w.rng.length : Int) - 1
  inc : ∀ k, k + 1 < d.ins.length → gI d.ins k < gI d.ins (k + 1)
  heat : ∀ k, k < d.ins.length → (gR w.rng (gI d.ins k).toNat).lo ≤ d.heat ∧ d.heat ≤ (gR w.rng (gI d.ins k).toNat).hi
theorem dipOk_iff {w : Wo} {d : Dp} : dipB w d = true ↔ DipOk w d := by
  unfold dipB
  rw [Bool.and_eq_true, inB_iff, allTo_iff]
  constructor
  · rintro ⟨h1, h2⟩
    have h3 : ∀ k, k < d.ins.length → _ := fun k hk => h2 k hk
    simp only [inOk, Bool.and_eq_true, inB_iff, Bool.not_eq_true', Bool.and_eq_false_iff, decide_eq_false_iff_not] at h3
    refine ⟨h1, fun k hk => (h3 k hk).1, fun k hk => ?_, fun k hk => (h3 k hk).2.2⟩
    have := (h3 (k + 1) hk).2.1
    rw [Nat.add_sub_cancel] at this
    omega
  · rintro ⟨h1, h2, h3, h4⟩
    refine ⟨h1, fun k hk => ?_⟩
    simp only [inOk, Bool.and_eq_true, inB_iff, Bool.not_eq_true', Bool.and_eq_false_iff, decide_eq_false_iff_not]
    refine ⟨h2 k hk, ?_, h4 k hk⟩
    rcases Nat.eq_zero_or_pos k with h0 | h0
    · exact .inl (by omega)
    · right
      have := h3 (k - 1) (by omega)
      rw [Nat.sub_add_cancel h0] at this
      omega
def gDp (l : List Dp) (k : Nat) : Dp := l.getD k default
/-- are all dips of a plan right? -/
def planB (w : Wo) (p : List Dp) : Bool := allTo (fun k => dipB w (gDp p k)) p.length

/-- by how many steps each of six is known. -/
structure S6 where
  a : Int
  b : Int
  c : Int
  d : Int
  e : Int
  f : Int
  deriving DecidableEq
def S6.get (s : S6) : Nat → Int
  | 0 => s.a
  | 1 => s.b
  | 2 => s.c
  | 3 => s.d
  | 4 => s.e
  | _ => s.f
def S6.set (s : S6) (i : Nat) (v : Int) : S6 :=
  match i with
  | 0 => ⟨v, s.b, s.c, s.d, s.e, s.f⟩
  | 1 => ⟨s.a, v, s.c, s.d, s.e, s.f⟩
  | 2 => ⟨s.a, s.b, v, s.d, s.e, s.f⟩
  | 3 => ⟨s.a, s.b, s.c, v, s.e, s.f⟩
  | 4 => ⟨s.a, s.b, s.c, s.d, v, s.f⟩
  | _ => ⟨s.a, s.b, s.c, s.d, s.e, v⟩
theorem six {i : Nat} (h : i < 6) : i = 0 ∨ i = 1 ∨ i = 2 ∨ i = 3 ∨ i = 4 ∨ i = 5 := by omega
theorem S6.get_set {s : S6} {i j : Nat} {v : Int} (hi : i < 6) (hj : j < 6) : (s.set i v).get j = if j = i then v else s.get j := by
  rcases six hi with rfl | rfl | rfl | rfl | rfl | rfl <;> rcases six hj with rfl | rfl | rfl | rfl | rfl | rfl <;> rfl
theorem S6.ext' {s t : S6} (h : ∀ i, i < 6 → s.get i = t.get i) : s = t := by
  have h0 := h 0 (by omega)
  have h1 := h 1 (by omega)
  have h2 := h 2 (by omega)
  have h3 := h 3 (by omega)
  have h4 := h 4 (by omega)
  have h5 := h 5 (by omega)
  cases s
  cases t
  simp only [S6.get] at h0 h1 h2 h3 h4 h5
  rw [h0, h1, h2, h3, h4, h5]
def begun6 : S6 := ⟨0, -1, -1, -1, -1, -1⟩
def sC (s : S6) : Array Value := #[.int .i64 s.a, .int .i64 s.b, .int .i64 s.c, .int .i64 s.d, .int .i64 s.e, .int .i64 s.f]
theorem sC_get {s : S6} {i : Nat} (hi : i < 6) : (sC s)[i]? = some (.int .i64 (s.get i)) := by
  rcases six hi with rfl | rfl | rfl | rfl | rfl | rfl <;> rfl
theorem sC_set {s : S6} {i : Nat} {v : Int} (hi : i < 6) : (sC s).setIfInBounds i (.int .i64 v) = sC (s.set i v) := by
  rcases six hi with rfl | rfl | rfl | rfl | rfl | rfl <;> rfl
/-- the least that one of the first so many is known by; -1: none is. -/
def fstTo (s : S6) (d : List Int) : Nat → Int
  | 0 => -1
  | k + 1 => if s.get (gI d k).toNat ≠ -1 ∧ (fstTo s d k = -1 ∨ s.get (gI d k).toNat < fstTo s d k) then s.get (gI d k).toNat else fstTo s d k
/-- what is known when the first so many have been told. -/
def nrTo (s : S6) (d : List Int) (f : Int) : Nat → S6
  | 0 => s
  | k + 1 => if f ≠ -1 ∧ ((nrTo s d f k).get (gI d k).toNat = -1 ∨ (nrTo s d f k).get (gI d k).toNat > f + 1) then (nrTo s d f k).set (gI d k).toNat (f + 1) else nrTo s d f k
def nearer (s : S6) (d : List Int) : S6 := nrTo s d (fstTo s d d.length) d.length
/-- all of a dip are among the six. -/
def In6 (d : List Int) : Prop := ∀ k, k < d.length → 0 ≤ gI d k ∧ gI d k < 6
theorem DipOk.in6 {w : Wo} {d : Dp} (hw : WoOk w) (h : DipOk w d) : In6 d.ins := fun k hk => by
  have := h.ins k hk
  have := hw.n
  omega
/-- all numbers are from -1 to so many. -/
def Bd6 (m : Int) (s : S6) : Prop := ∀ i, i < 6 → -1 ≤ s.get i ∧ s.get i ≤ m
theorem fstTo_bd {s : S6} {d : List Int} {m : Int} (h : Bd6 m s) (hd : In6 d) (hm : -1 ≤ m) : ∀ {k : Nat}, k ≤ d.length → -1 ≤ fstTo s d k ∧ fstTo s d k ≤ m
  | 0, _ => by rw [fstTo]; omega
  | k + 1, hk => by
    have h1 := hd k (by omega)
    have h2 := h (gI d k).toNat (by omega)
    have h3 := fstTo_bd h hd hm (k := k) (by omega)
    rw [fstTo]
    split <;> omega
theorem nrTo_bd {s : S6} {d : List Int} {f m : Int} (h : Bd6 m s) (hd : In6 d) (hf : -1 ≤ f ∧ f ≤ m) : ∀ {k : Nat}, k ≤ d.length → Bd6 (m + 1) (nrTo s d f k)
  | 0, _ => fun i hi => by have := h i hi; rw [nrTo]; omega
  | k + 1, hk => by
    have h1 := hd k (by omega)
    have h3 := nrTo_bd h hd hf (k := k) (by omega)
    rw [nrTo]
    split
    · intro i hi
      have := h3 i hi
      rw [S6.get_set (by omega) hi]
      split <;> omega
    · exact h3
theorem nearer_bd {s : S6} {d : List Int} {m : Int} (h : Bd6 m s) (hd : In6 d) (hm : -1 ≤ m) : Bd6 (m + 1) (nearer s d) := nrTo_bd h hd (fstTo_bd h hd hm (Nat.le_refl _)) (Nat.le_refl _)
end Go.Proofs.Ytnplefhigbkbbaa
end

section
namespace Go.Proofs.Ytnplefhigbkbbaa
open Go.RowKit
attribute [local go_sem] Ex.cell? Ex.frozen?

theorem within_any (n lo hi : Int) (w : World) :
    Calls Try.prog 96 #[.int .i64 n, .int .i64 lo, .int .i64 hi] w fun e w' => e = .returned (.bool (inB n lo hi)) ∧ w = w' := by
  by_cases h1 : lo ≤ n
  · by_cases h2 : n ≤ hi
    · go_enter Try.func96, Try.ntmps96
      go_wp2
      go_ret
      simp [inB, h1, h2]
    · have h2' : decide (n ≤ hi) = false := by simpa using h2
      go_enter Try.func96, Try.ntmps96
      go_wp2
      go_ret
      simp [inB, h1, h2]
  · have h1' : decide (lo ≤ n) = false := by simpa using h1
    go_enter Try.func96, Try.ntmps96
    go_wp2
    go_ret
    exact ⟨by rw [inB, h1']; rfl, rfl⟩
theorem inside_any (lo hi low high : Int) (w : World) :
    Calls Try.prog 118 #[.agg #[.int .i64 lo, .int .i64 hi], .int .i64 low, .int .i64 high] w fun e w' => e = .returned (.bool (spanB ⟨lo, hi⟩ low high)) ∧ Below w.heap.size w w' := by
  by_cases h1 : low ≤ lo
  · by_cases h2 : lo ≤ hi
    · by_cases h3 : hi ≤ high
      · rw [show spanB ⟨lo, hi⟩ low high = true by simp [spanB, h1, h2, h3]]
        go_enter Try.func118, Try.ntmps118
        go_wp2
        go_ret
        exact ⟨rfl, ex_alloc (Below.refl _ _) _⟩
      · rw [show spanB ⟨lo, hi⟩ low high = false by simp [spanB, h1, h2, h3]]
        have h3' : decide (hi ≤ high) = false := by simpa using h3
        go_enter Try.func118, Try.ntmps118
        go_wp2
        go_ret
        exact ⟨rfl, ex_alloc (Below.refl _ _) _⟩
    · rw [show spanB ⟨lo, hi⟩ low high = false by simp [spanB, h1, h2]]
      have h2' : decide (lo ≤ hi) = false := by simpa using h2
      go_enter Try.func118, Try.ntmps118
      go_wp2
      go_ret
      exact ⟨rfl, ex_alloc (Below.refl _ _) _⟩
  · rw [show spanB ⟨lo, hi⟩ low high = false by simp [spanB, h1]]
    have h1' : decide (low ≤ lo) = false := by simpa using h1
    go_enter Try.func118, Try.ntmps118
    go_wp2
    go_ret
    exact ⟨rfl, ex_alloc (Below.refl _ _) _⟩
theorem has_any (lo hi n : Int) (w : World) :
    Calls Try.prog 101 #[.agg #[.int .i64 lo, .int .i64 hi], .int .i64 n] w fun e w' => e = .returned (.bool (inB n lo hi)) ∧ Below w.heap.size w w' := by
  go_enter Try.func101, Try.ntmps101
  go_wp2_with (go_at_call 96; refine (within_any _ _ _ _).mono ?_; rintro e w' ⟨rfl, rfl⟩)
  go_ret
  exact ⟨rfl, ex_alloc (Below.refl _ _) _⟩
theorem offset_any (lo hi : Int) (w : World) :
    Calls Try.prog 98 #[.agg #[.int .i64 lo, .int .i64 hi]] w fun e w' => e = .returned (.bool (spanB ⟨lo, hi⟩ (-100) 100)) ∧ Below w.heap.size w w' := by
  go_enter Try.func98, Try.ntmps98
  go_wp2_with (go_at_call 118; refine (inside_any _ _ _ _ _).mono ?_; rintro e w2 ⟨rfl, hb2⟩)
  go_ret
  exact ⟨rfl, ex_trans (ex_alloc (Below.refl _ _) _) hb2⟩
theorem heat_any (lo hi : Int) (w : World) :
    Calls Try.prog 95 #[.agg #[.int .i64 lo, .int .i64 hi]] w fun e w' => e = .returned (.bool (spanB ⟨lo, hi⟩ 0 1000)) ∧ Below w.heap.size w w' := by
  go_enter Try.func95, Try.ntmps95
  go_wp2_with (go_at_call 118; refine (inside_any _ _ _ _ _).mono ?_; rintro e w2 ⟨rfl, hb2⟩)
  go_ret
  exact ⟨rfl, ex_trans (ex_alloc (Below.refl _ _) _) hb2⟩
theorem tool_any (n : Int) (w : World) (h : 0 ≤ n ∧ n ≤ 1000) :
    Calls Try.prog 71 #[.int .i64 n] w fun e w' => e = .returned (.int .i64 (1 + n)) ∧ w = w' := by
  have w1 : IntKind.i64.wrap (1 + n) = 1 + n := IntWalk.i64_in _ (by omega)
  go_enter Try.func71, Try.ntmps71
  go_wp2
  go_ret
  exact ⟨rfl, rfl⟩
theorem pool_any (n : Int) (w : World) (h : 0 ≤ n ∧ n ≤ 1000) :
    Calls Try.prog 72 #[.int .i64 n] w fun e w' => e = .returned (.int .i64 (7 + n)) ∧ w = w' := by
  have w1 : IntKind.i64.wrap (7 + n) = 7 + n := IntWalk.i64_in _ (by omega)
  go_enter Try.func72, Try.ntmps72
  go_wp2
  go_ret
  exact ⟨rfl, rfl⟩

set_option maxHeartbeats 400000 in
theorem max_any (A : Option Addr) (c B n : Nat) (xs : List Int) (w : World) (h1 : 1 ≤ n) (hl : n ≤ 1000000) (hA : SlAt w B 1 A n (fI xs)) :
    Calls Try.prog 127 #[.slice A n c] w fun e w' => e = .returned (.int .i64 (mxTo xs n)) ∧ w = w' := by
  obtain ⟨b, off, rfl, hb, hc⟩ := hA (by omega)
  have hc0 : w.cell? ⟨b, off, none⟩ = some (.int .i64 (gI xs 0)) := by simpa [fI] using hc 0 0 (by omega) (by omega)
  have hc : ∀ k, k < n → w.cell? ⟨b, off + k, none⟩ = some (.int .i64 (gI xs k)) := fun k hk => by simpa [fI] using hc k 0 hk (by omega)
  go_enter Try.func127, Try.ntmps127
  go_wp2
  go_loop [3, 4] (fun m i => ∃ k : Nat, 1 ≤ k ∧ k ≤ n ∧ i = .int .i64 k ∧ m = .int .i64 (mxTo xs k)) (fun _ i => n - (intOf i).toNat)
  case atStart => exact ⟨1, by omega, by omega, rfl, by simp [mxTo]⟩
  case round =>
    obtain ⟨k, hk1, hk, rfl, rfl⟩ := hrel
    by_cases hlt : k < n
    · have hcell := hc k hlt
      go_wp2
      go_round
      case rel => exact ⟨k + 1, by omega, by omega, by go_num, by simp only [mxTo]; congr 1; split <;> omega⟩
      case measure => simp [intOf]; omega
    · have : k = n := by omega
      subst this
      go_wp2
      go_ret
      exact ⟨rfl, rfl⟩

/-- the least of the first so many numbers of a list. -/
def mnTo (xs : List Int) : Nat → Int
  | 0 => gI xs 0
  | n + 1 => min (mnTo xs n) (gI xs n)
set_option maxHeartbeats 400000 in
theorem min_any (A : Option Addr) (c B n : Nat) (xs : List Int) (w : World) (h1 : 1 ≤ n) (hl : n ≤ 1000000) (hA : SlAt w B 1 A n (fI xs)) :
    Calls Try.prog 128 #[.slice A n c] w fun e w' => e = .returned (.int .i64 (mnTo xs n)) ∧ w = w' := by
  obtain ⟨b, off, rfl, hb, hc⟩ := hA (by omega)
  have hc0 : w.cell? ⟨b, off, none⟩ = some (.int .i64 (gI xs 0)) := by simpa [fI] using hc 0 0 (by omega) (by omega)
  have hc : ∀ k, k < n → w.cell? ⟨b, off + k, none⟩ = some (.int .i64 (gI xs k)) := fun k hk => by simpa [fI] using hc k 0 hk (by omega)
  go_enter Try.func128, Try.ntmps128
  go_wp2
  go_loop [3, 4] (fun m i => ∃ k : Nat, 1 ≤ k ∧ k ≤ n ∧ i = .int .i64 k ∧ m = .int .i64 (mnTo xs k)) (fun _ i => n - (intOf i).toNat)
  case atStart => exact ⟨1, by omega, by omega, rfl, by simp [mnTo]⟩
  case round =>
    obtain ⟨k, hk1, hk, rfl, rfl⟩ := hrel
    by_cases hlt : k < n
    · have hcell := hc k hlt
      go_wp2
      go_round
      case rel => exact ⟨k + 1, by omega, by omega, by go_num, by simp only [mnTo]; congr 1; split <;> omega⟩
      case measure => simp [intOf]; omega
    · have : k = n := by omega
      subst this
      go_wp2
      go_ret
      exact ⟨rfl, rfl⟩
theorem least_any (A : Option Addr) (c B n : Nat) (xs : List Int) (w : World) (h1 : 1 ≤ n) (hl : n ≤ 1000000) (hA : SlAt w B 1 A n (fI xs)) :
    Calls Try.prog 115 #[.slice A n c] w fun e w' => e = .returned (.int .i64 (mnTo xs n)) ∧ w = w' := by
  go_enter Try.func115, Try.ntmps115
  go_wp2_with (go_at_call 128; refine (min_any _ _ _ _ _ _ h1 hl hA).mono ?_; rintro e w' ⟨rfl, rfl⟩)
  go_ret
  exact ⟨rfl, rfl⟩
theorem least2 (b c : Nat) (x y : Int) (w : World) (h0 : w.cell? ⟨b, 0, none⟩ = some (.int .i64 x)) (h1 : w.cell? ⟨b, 1, none⟩ = some (.int .i64 y)) :
    Calls Try.prog 115 #[.slice (some ⟨b, 0, none⟩) 2 c] w fun e w' => e = .returned (.int .i64 (min x y)) ∧ w = w' := by
  refine (least_any _ c (b + 1) 2 [x, y] w (by omega) (by omega) (fun _ => ⟨b, 0, rfl, by omega, fun k j hk hj => ?_⟩)).mono ?_
  · obtain rfl : j = 0 := by omega
    match k, hk with
    | 0, _ => simpa [fI, gI] using h0
    | 1, _ => simpa [fI, gI] using h1
  · rintro e w' ⟨rfl, rfl⟩
    refine ⟨?_, rfl⟩
    simp [mnTo, gI]
theorem greatest_any (A : Option Addr) (c B n : Nat) (xs : List Int) (w : World) (h1 : 1 ≤ n) (hl : n ≤ 1000000) (hA : SlAt w B 1 A n (fI xs)) :
    Calls Try.prog 114 #[.slice A n c] w fun e w' => e = .returned (.int .i64 (mxTo xs n)) ∧ w = w' := by
  go_enter Try.func114, Try.ntmps114
  go_wp2_with (go_at_call 127; refine (max_any _ _ _ _ _ _ h1 hl hA).mono ?_; rintro e w' ⟨rfl, rfl⟩)
  go_ret
  exact ⟨rfl, rfl⟩
theorem greatest2 (b c : Nat) (x y : Int) (w : World) (h0 : w.cell? ⟨b, 0, none⟩ = some (.int .i64 x)) (h1 : w.cell? ⟨b, 1, none⟩ = some (.int .i64 y)) :
    Calls Try.prog 114 #[.slice (some ⟨b, 0, none⟩) 2 c] w fun e w' => e = .returned (.int .i64 (max x y)) ∧ w = w' := by
  refine (greatest_any _ c (b + 1) 2 [x, y] w (by omega) (by omega) (fun _ => ⟨b, 0, rfl, by omega, fun k j hk hj => ?_⟩)).mono ?_
  · obtain rfl : j = 0 := by omega
    match k, hk with
    | 0, _ => simpa [fI, gI] using h0
    | 1, _ => simpa [fI, gI] using h1
  · rintro e w' ⟨rfl, rfl⟩
    refine ⟨?_, rfl⟩
    simp [mxTo, gI]
end Go.Proofs.Ytnplefhigbkbbaa
end
