/- Nets (plain): the arcs of a net's nodes, by its edges; a way through it. · Pushing grams through a net (plain), and the numbers of spots. · Weighings, and what the stocks can be (plain). · Spill: works as they come (plain), and how they lie. · Rows in rows: elements that hold slices of the call's own. · Spill: the small functions (walks). · Arrays by their places. · Regions in two parts: trees one behind the other (what is done ahead of the second one is the same on each way). -/
import Derived.Test.YthihdiilokdidaaM1
import Derived.Test.YthihdiilokdidaaM0
set_option linter.unusedVariables false
set_option linter.unusedSimpArgs false
set_option linter.unusedSectionVars false
section
namespace Go.Proofs.Ythihdiilokdidaa

structure Ar where
  tgt : Nat
  room : Int
  back : Nat
  deriving DecidableEq, Inhabited
/-- how many edges touch a node. -/
def cntE : List Ed → Nat → Nat
  | [], _ => 0
  | e :: l, x => (if e.u = x ∨ e.v = x then 1 else 0) + cntE l x
def pieceE (pre : List Ed) (e : Ed) (x : Nat) : List Ar :=
  if e.u = x then [⟨e.v, e.cap - e.fl, cntE pre e.v⟩] else if e.v = x then [⟨e.u, e.fl, cntE pre e.u⟩] else []
def rowFrom : List Ed → List Ed → Nat → List Ar
  | _, [], _ => []
  | pre, e :: l, x => pieceE pre e x ++ rowFrom (pre ++ [e]) l x
/-- a node's arcs. -/
def rowE (es : List Ed) (x : Nat) : List Ar := rowFrom [] es x
theorem cntE_app : ∀ (l m : List Ed) (x : Nat), cntE (l ++ m) x = cntE l x + cntE m x
  | [], m, x => by simp [cntE]
  | e :: l, m, x => by simp only [List.cons_append, cntE, cntE_app l m x]; omega
theorem cntE_shape : ∀ {l m : List Ed}, l.map Ed.shape = m.map Ed.shape → ∀ x, cntE l x = cntE m x
  | [], [], _, _ => rfl
  | [], _ :: _, h, _ => by simp at h
  | _ :: _, [], h, _ => by simp at h
  | e :: l, f :: m, h, x => by
    simp only [List.map_cons, List.cons.injEq, Ed.shape, Prod.mk.injEq] at h
    rw [cntE, cntE, cntE_shape h.2 x, h.1.1, h.1.2.1]
theorem pieceE_len (pre : List Ed) (e : Ed) (x : Nat) : (pieceE pre e x).length = if e.u = x ∨ e.v = x then 1 else 0 := by
  unfold pieceE
  by_cases h1 : e.u = x
  · simp [h1]
  · by_cases h2 : e.v = x <;> simp [h1, h2]
theorem rowFrom_len : ∀ (l pre : List Ed) (x : Nat), (rowFrom pre l x).length = cntE l x
  | [], _, _ => rfl
  | e :: l, pre, x => by rw [rowFrom, List.length_append, pieceE_len, rowFrom_len l, cntE]
theorem rowE_len (es : List Ed) (x : Nat) : (rowE es x).length = cntE es x := rowFrom_len es [] x
theorem rowFrom_app : ∀ (l m pre : List Ed) (x : Nat), rowFrom pre (l ++ m) x = rowFrom pre l x ++ rowFrom (pre ++ l) m x
  | [], m, pre, x => by simp [rowFrom]
  | e :: l, m, pre, x => by rw [List.cons_append, rowFrom, rowFrom_app l m, rowFrom, List.append_assoc]; simp
theorem rowFrom_pre {l : List Ed} : ∀ {pre pre' : List Ed} (x : Nat), (∀ y, cntE pre y = cntE pre' y) → rowFrom pre l x = rowFrom pre' l x := by
  induction l with
  | nil => intros; rfl
  | cons e l ih =>
    intro pre pre' x h
    rw [rowFrom, rowFrom, ih (pre := pre ++ [e]) (pre' := pre' ++ [e]) x (fun y => by rw [cntE_app, cntE_app, h y])]
    unfold pieceE
    rw [h, h]
theorem rowE_snoc (es : List Ed) (e : Ed) (x : Nat) : rowE (es ++ [e]) x = rowE es x ++ pieceE es e x := by
  unfold rowE
  rw [rowFrom_app]
  simp [rowFrom]
theorem rowE_nil (x : Nat) : rowE [] x = [] := rfl
/-- edge k: where its two arcs lie. -/
structure EdgeAt (es : List Ed) (k : Nat) (e : Ed) : Prop where
  lt : k < es.length
  at_ : es[k]? = some e
def posE (es : List Ed) (k : Nat) (x : Nat) : Nat := cntE (es.take k) x
theorem split_at {es : List Ed} {k : Nat} {e : Ed} (h : es[k]? = some e) : es = es.take k ++ e :: es.drop (k + 1) := by
  have hk : k < es.length := by
    rcases Nat.lt_or_ge k es.length with h' | h'
    · exact h'
    · rw [List.getElem?_eq_none h'] at h; cases h
  have : es[k] = e := by rw [List.getElem?_eq_getElem hk] at h; exact Option.some.inj h
  rw [← this, List.getElem_cons_drop, List.take_append_drop]
theorem rowE_split {es : List Ed} {k : Nat} {e : Ed} (h : es[k]? = some e) (x : Nat) : rowE es x = rowE (es.take k) x ++ pieceE (es.take k) e x ++ rowFrom (es.take k ++ [e]) (es.drop (k + 1)) x := by
  have h1 := split_at h
  unfold rowE
  conv => lhs; rw [h1]
  rw [rowFrom_app, rowFrom]
  simp
theorem rowE_at {es : List Ed} {k : Nat} {e : Ed} (h : es[k]? = some e) {x : Nat} {a : Ar} (hp : pieceE (es.take k) e x = [a]) : (rowE es x)[posE es k x]? = some a := by
  rw [rowE_split h x, hp, List.append_assoc, List.getElem?_append_right (by rw [rowE_len]; exact Nat.le_refl _), rowE_len]
  simp [posE]
/-- each arc is one of an edge. -/
theorem arc_edge : ∀ {l pre : List Ed} {x i : Nat} {a : Ar}, (rowFrom pre l x)[i]? = some a → ∃ k e, l[k]? = some e ∧ cntE (l.take k) x = i ∧ pieceE (pre ++ l.take k) e x = [a]
  | [], _, _, _, _, h => by simp [rowFrom] at h
  | e :: l, pre, x, i, a, h => by
    rw [rowFrom] at h
    have hlen := pieceE_len pre e x
    by_cases hi : i < (pieceE pre e x).length
    · rw [List.getElem?_append_left hi] at h
      refine ⟨0, e, rfl, ?_, ?_⟩
      · simp only [List.take_zero, cntE]
        split at hlen <;> omega
      · simp only [List.take_zero, List.append_nil]
        generalize pieceE pre e x = l at *
        match l, hlen with
        | [], _ => simp at hi
        | [b], _ =>
          have : i = 0 := by simpa using hi
          subst this
          simpa using h
        | _ :: _ :: _, hlen => simp at hlen; split at hlen <;> omega
    · rw [List.getElem?_append_right (by omega)] at h
      obtain ⟨k, e', h1, h2, h3⟩ := arc_edge h
      refine ⟨k + 1, e', by simpa using h1, ?_, by simpa using h3⟩
      simp only [List.take_succ_cons, cntE]
      omega
theorem rowE_set {es : List Ed} {k : Nat} {e e' : Ed} (h : es[k]? = some e) (hs : e'.u = e.u ∧ e'.v = e.v) (x : Nat) :
    rowE (es.set k e') x = rowE (es.take k) x ++ pieceE (es.take k) e' x ++ rowFrom (es.take k ++ [e]) (es.drop (k + 1)) x := by
  have hk : k < es.length := by
    rcases Nat.lt_or_ge k es.length with h' | h'
    · exact h'
    · rw [List.getElem?_eq_none h'] at h; cases h
  have h2 : (es.set k e')[k]? = some e' := by simp [hk]
  rw [rowE_split h2 x]
  have h3 : (es.set k e').take k = es.take k := by rw [List.take_set_of_le (Nat.le_refl _)]
  have h4 : (es.set k e').drop (k + 1) = es.drop (k + 1) := by rw [List.drop_set_of_lt (by omega)]
  rw [h3, h4]
  congr 1
  refine rowFrom_pre x (fun y => ?_)
  rw [cntE_app, cntE_app]
  simp only [cntE, hs.1, hs.2]
theorem rowE_set_ne {es : List Ed} {k : Nat} {e e' : Ed} (h : es[k]? = some e) (hs : e'.u = e.u ∧ e'.v = e.v) {x : Nat} (h1 : e.u ≠ x) (h2 : e.v ≠ x) : rowE (es.set k e') x = rowE es x := by
  rw [rowE_set h hs, rowE_split h x]
  congr 2
  unfold pieceE
  rw [if_neg (by omega), if_neg (by omega), if_neg h1, if_neg h2]
theorem rowE_set_at {es : List Ed} {k : Nat} {e e' : Ed} (h : es[k]? = some e) (hs : e'.u = e.u ∧ e'.v = e.v) {x : Nat} {a a' : Ar} (h1 : pieceE (es.take k) e x = [a]) (h2 : pieceE (es.take k) e' x = [a']) : rowE (es.set k e') x = (rowE es x).set (posE es k x) a' := by
  rw [rowE_set h hs, rowE_split h x, h1, h2, List.append_assoc, List.append_assoc, show posE es k x = (rowE (es.take k) x).length from by rw [rowE_len]; rfl, List.set_append_right _ _ (Nat.le_refl _)]
  simp
theorem piece_u {pre : List Ed} {e : Ed} : pieceE pre e e.u = [⟨e.v, e.cap - e.fl, cntE pre e.v⟩] := by unfold pieceE; rw [if_pos rfl]
theorem piece_v {pre : List Ed} {e : Ed} (h : e.u ≠ e.v) : pieceE pre e e.v = [⟨e.u, e.fl, cntE pre e.u⟩] := by unfold pieceE; rw [if_neg h, if_pos rfl]
theorem piece_one {pre : List Ed} {e : Ed} {x : Nat} {a : Ar} (h : pieceE pre e x = [a]) : (e.u = x ∧ a = ⟨e.v, e.cap - e.fl, cntE pre e.v⟩) ∨ (e.u ≠ x ∧ e.v = x ∧ a = ⟨e.u, e.fl, cntE pre e.u⟩) := by
  unfold pieceE at h
  split at h
  · rename_i h1; left; exact ⟨h1, by simpa using h.symm⟩
  · rename_i h1
    split at h
    · rename_i h2; right; exact ⟨h1, h2, by simpa using h.symm⟩
    · cases h

/-- an arc of a node: its edge, the way it goes, and what more grams through it do. -/
structure ArcAt (es : List Ed) (x i : Nat) (a : Ar) (k : Nat) (e : Ed) (sg : Int) : Prop where
  ed : es[k]? = some e
  way : (e.u = x ∧ e.v = a.tgt ∧ sg = 1 ∧ a.room = e.cap - e.fl) ∨ (e.v = x ∧ e.u = a.tgt ∧ sg = -1 ∧ a.room = e.fl)
  ne : e.u ≠ e.v
  bk : a.back < (rowE es a.tgt).length
  /-- more grams: both arcs turn. -/
  more : ∀ g : Int, rowE (es.set k ⟨e.u, e.v, e.cap, e.fl + sg * g⟩) x = (rowE es x).set i ⟨a.tgt, a.room - g, a.back⟩ ∧
    (∃ b, (rowE es a.tgt)[a.back]? = some b ∧ rowE (es.set k ⟨e.u, e.v, e.cap, e.fl + sg * g⟩) a.tgt = (rowE es a.tgt).set a.back ⟨b.tgt, b.room + g, b.back⟩) ∧
    ∀ y, y ≠ x → y ≠ a.tgt → rowE (es.set k ⟨e.u, e.v, e.cap, e.fl + sg * g⟩) y = rowE es y
theorem arcAt {es : List Ed} (hne : ∀ e ∈ es, e.u ≠ e.v) {x i : Nat} {a : Ar} (h : (rowE es x)[i]? = some a) : ∃ k e sg, ArcAt es x i a k e sg := by
  obtain ⟨k, e, h1, h2, h3⟩ := arc_edge h
  simp only [List.nil_append] at h3
  have hn : e.u ≠ e.v := hne e (List.mem_of_getElem? h1)
  have hpos : posE es k x = i := h2
  rcases piece_one h3 with ⟨hu, ha⟩ | ⟨hu, hv, ha⟩
  · have hb := rowE_at h1 (piece_v (pre := es.take k) hn)
    refine ⟨k, e, 1, h1, .inl ⟨hu, by rw [ha], rfl, by rw [ha]⟩, hn, ?_, fun g => ⟨?_, ⟨⟨e.u, e.fl, cntE (es.take k) e.u⟩, ?_, ?_⟩, fun y y1 y2 => ?_⟩⟩
    · rw [ha]
      have := (List.getElem?_eq_some_iff.1 hb).1
      exact this
    · have := rowE_set_at (e' := ⟨e.u, e.v, e.cap, e.fl + 1 * g⟩) h1 ⟨rfl, rfl⟩ (x := x) (a := a) h3 (by rw [← hu]; exact piece_u)
      rw [this, hpos, ha]
      simp only
      congr 2
      omega
    · rw [ha]; exact hb
    · have := rowE_set_at (e' := ⟨e.u, e.v, e.cap, e.fl + 1 * g⟩) h1 ⟨rfl, rfl⟩ (x := e.v) (piece_v hn) (piece_v (e := ⟨e.u, e.v, e.cap, e.fl + 1 * g⟩) hn)
      rw [ha]
      simp only
      rw [this]
      congr 2
      simp
    · rw [ha] at y2
      exact rowE_set_ne (e' := ⟨e.u, e.v, e.cap, e.fl + 1 * g⟩) h1 ⟨rfl, rfl⟩ (by omega) (fun h => y2 h.symm)
  · have hb := rowE_at h1 (piece_u (pre := es.take k) (e := e))
    refine ⟨k, e, -1, h1, .inr ⟨hv, by rw [ha], rfl, by rw [ha]⟩, hn, ?_, fun g => ⟨?_, ⟨⟨e.v, e.cap - e.fl, cntE (es.take k) e.v⟩, ?_, ?_⟩, fun y y1 y2 => ?_⟩⟩
    · rw [ha]
      exact (List.getElem?_eq_some_iff.1 hb).1
    · have := rowE_set_at (e' := ⟨e.u, e.v, e.cap, e.fl + -1 * g⟩) h1 ⟨rfl, rfl⟩ (x := x) (a := a) h3 (by rw [← hv]; exact piece_v (e := ⟨e.u, e.v, e.cap, e.fl + -1 * g⟩) hn)
      rw [this, hpos, ha]
      simp only
      congr 2
      omega
    · rw [ha]; exact hb
    · have := rowE_set_at (e' := ⟨e.u, e.v, e.cap, e.fl + -1 * g⟩) h1 ⟨rfl, rfl⟩ (x := e.u) piece_u (piece_u (e := ⟨e.u, e.v, e.cap, e.fl + -1 * g⟩))
      rw [ha]
      simp only
      rw [this]
      congr 2
      show e.cap - (e.fl + -1 * g) = e.cap - e.fl + g
      omega
    · rw [ha] at y2
      exact rowE_set_ne (e' := ⟨e.u, e.v, e.cap, e.fl + -1 * g⟩) h1 ⟨rfl, rfl⟩ (fun h => y2 h.symm) (by omega)

/-- nodes that have been seen: a list of Bools, by its function. -/
def seenCnt (S : Nat → Bool) (n : Nat) : Nat := ((List.range n).filter (fun x => !S x)).length
theorem seen_less {S : Nat → Bool} {n x : Nat} (hx : x < n) (h : S x = false) : seenCnt (fun y => if y = x then true else S y) n < seenCnt S n := by
  unfold seenCnt
  induction n with
  | zero => omega
  | succ n ih =>
    rw [List.range_succ, List.filter_append, List.filter_append, List.length_append, List.length_append]
    by_cases e : x = n
    · subst e
      have h1 : (List.filter (fun y => !(if y = x then true else S y)) (List.range x)) = List.filter (fun y => !S y) (List.range x) := List.filter_congr (fun y hy => by
        have : y < x := by simpa using hy
        rw [if_neg (by omega)])
      rw [h1]
      simp [h]
    · have := ih (by omega)
      have h2 : (List.filter (fun y => !(if y = x then true else S y)) [n]).length = (List.filter (fun y => !S y) [n]).length := by
        congr 1
        refine List.filter_congr (fun y hy => ?_)
        rw [List.mem_singleton.1 hy, if_neg (fun h => e h.symm)]
      simp only at h2 this ⊢
      omega
theorem seen_mono {S S' : Nat → Bool} {n : Nat} (h : ∀ x, x < n → S x = true → S' x = true) : seenCnt S' n ≤ seenCnt S n := by
  unfold seenCnt
  induction n with
  | zero => simp
  | succ n ih =>
    rw [List.range_succ, List.filter_append, List.filter_append, List.length_append, List.length_append]
    have h1 := ih (fun x hx => h x (by omega))
    have h2 : (List.filter (fun x => !S' x) [n]).length ≤ (List.filter (fun x => !S x) [n]).length := by
      have := h n (by omega)
      cases hs : S n <;> cases hs' : S' n <;> simp [hs, hs'] at this ⊢
    omega

/-- all that is newly seen is closed: what can take more leads to what is seen. -/
def ClosedE (es : List Ed) (S S' : Nat → Bool) : Prop := ∀ x, S' x = true → S x = false → ∀ a ∈ rowE es x, a.room ≠ 0 → S' a.tgt = true
/-- what a walk from x towards t tells. -/
structure WalkIs (N : Nat) (es es' : List Ed) (S S' : Nat → Bool) (x t : Nat) (grams got : Int) : Prop where
  mono : ∀ y, S y = true → S' y = true
  none : got = 0 → es' = es ∧ S' x = true ∧ S' t = false ∧ ClosedE es S S'
  bd : 0 ≤ got ∧ got ≤ grams
  shape : es'.map Ed.shape = es.map Ed.shape
  cap : ∀ e ∈ es', 0 ≤ e.fl ∧ e.fl ≤ e.cap
  flow : ∀ y, flows es' y = flows es y - (if y = x then got else 0) + (if y = t then got else 0)
  same : ∀ (k : Nat) (e : Ed), es[k]? = some e → S e.u = true ∨ S e.v = true → es'[k]? = some e
/-- nodes that lie in the net. -/
structure EdsOk (N : Nat) (es : List Ed) : Prop where
  lt : ∀ e ∈ es, e.u < N ∧ e.v < N
  ne : ∀ e ∈ es, e.u ≠ e.v
  bd : ∀ e ∈ es, 0 ≤ e.fl ∧ e.fl ≤ e.cap
theorem shape_mem {es es' : List Ed} (h : es'.map Ed.shape = es.map Ed.shape) {e : Ed} (he : e ∈ es') : ∃ f ∈ es, f.shape = e.shape := by
  have : e.shape ∈ es.map Ed.shape := by rw [← h]; exact List.mem_map_of_mem he
  obtain ⟨f, hf, e2⟩ := List.mem_map.1 this
  exact ⟨f, hf, e2⟩
theorem EdsOk.shape {N : Nat} {es es' : List Ed} (h : EdsOk N es) (hs : es'.map Ed.shape = es.map Ed.shape) (hb : ∀ e ∈ es', 0 ≤ e.fl ∧ e.fl ≤ e.cap) : EdsOk N es' :=
  ⟨fun e he => by obtain ⟨f, hf, e2⟩ := shape_mem hs he; have := h.lt f hf; simp only [Ed.shape, Prod.mk.injEq] at e2; omega,
   fun e he => by obtain ⟨f, hf, e2⟩ := shape_mem hs he; have := h.ne f hf; simp only [Ed.shape, Prod.mk.injEq] at e2; omega, hb⟩
theorem arc_lt {N : Nat} {es : List Ed} (h : EdsOk N es) {x i : Nat} {a : Ar} (ha : (rowE es x)[i]? = some a) : a.tgt < N ∧ a.tgt ≠ x ∧ 0 ≤ a.room := by
  obtain ⟨k, e, sg, hA⟩ := arcAt h.ne ha
  have he := List.mem_of_getElem? hA.ed
  have h1 := h.lt e he
  have h2 := h.bd e he
  have h3 := h.ne e he
  rcases hA.way with ⟨a1, a2, _, a4⟩ | ⟨a1, a2, _, a4⟩ <;> omega
/-- at the aim. -/
theorem WalkIs.here {N : Nat} {es : List Ed} (ho : EdsOk N es) {S : Nat → Bool} {t : Nat} {grams : Int} (hg : 0 < grams) : WalkIs N es es S S t t grams grams :=
  ⟨fun _ h => h, fun h => by omega, by omega, rfl, ho.bd, fun y => by split <;> omega, fun _ _ h _ => h⟩
/-- the loop over the arcs of x: up to so many. -/
structure WkLoop (N : Nat) (es : List Ed) (S S1 : Nat → Bool) (x t i : Nat) : Prop where
  mono : ∀ y, S y = true → S1 y = true
  at_ : S1 x = true
  aim : S1 t = false
  arcs : ∀ j a, j < i → (rowE es x)[j]? = some a → a.room ≠ 0 → S1 a.tgt = true
  closed : ∀ y, S1 y = true → S y = false → y ≠ x → ∀ a ∈ rowE es y, a.room ≠ 0 → S1 a.tgt = true
theorem WkLoop.start {N : Nat} {es : List Ed} {S : Nat → Bool} {x t : Nat} (ht : S t = false) (hxt : x ≠ t) : WkLoop N es S (fun y => if y = x then true else S y) x t 0 :=
  ⟨fun y h => by show (if y = x then true else S y) = true; split <;> simp [h], by simp, by show (if t = x then true else S t) = false; rw [if_neg (fun h => hxt h.symm)]; exact ht, fun j a hj => by omega, fun y h1 h2 h3 => by simp only [if_neg h3] at h1; rw [h1] at h2; cases h2⟩
theorem WkLoop.skip {N : Nat} {es : List Ed} {S S1 : Nat → Bool} {x t i : Nat} (h : WkLoop N es S S1 x t i) {a : Ar} (ha : (rowE es x)[i]? = some a) (hs : a.room = 0 ∨ S1 a.tgt = true) : WkLoop N es S S1 x t (i + 1) :=
  ⟨h.mono, h.at_, h.aim, fun j b hj hb hr => by
    rcases Nat.lt_succ_iff_lt_or_eq.1 hj with h' | h'
    · exact h.arcs j b h' hb hr
    · subst h'
      rw [ha] at hb
      injection hb with hb
      subst hb
      rcases hs with h1 | h1
      · exact absurd h1 hr
      · exact h1, h.closed⟩
theorem WkLoop.fail {N : Nat} {es es' : List Ed} {S S1 S2 : Nat → Bool} {x t i : Nat} {g : Int} (h : WkLoop N es S S1 x t i) {a : Ar} (ha : (rowE es x)[i]? = some a) (hw : WalkIs N es es' S1 S2 a.tgt t g 0) : WkLoop N es S S2 x t (i + 1) ∧ es' = es := by
  obtain ⟨h1, h2, h3, h4⟩ := hw.none rfl
  refine ⟨⟨fun y hy => hw.mono y (h.mono y hy), hw.mono x h.at_, h3, fun j b hj hb hr => ?_, fun y hy hn hne b hb hr => ?_⟩, h1⟩
  · rcases Nat.lt_succ_iff_lt_or_eq.1 hj with h' | h'
    · exact hw.mono _ (h.arcs j b h' hb hr)
    · subst h'
      rw [ha] at hb
      injection hb with hb
      subst hb
      exact h2
  · cases hy1 : S1 y
    · exact h4 y hy hy1 b hb hr
    · exact hw.mono _ (h.closed y hy1 hn hne b hb hr)
theorem WkLoop.done {N : Nat} {es : List Ed} (ho : EdsOk N es) {S S1 : Nat → Bool} {x t : Nat} {grams : Int} (hg : 0 ≤ grams) (h : WkLoop N es S S1 x t (rowE es x).length) : WalkIs N es es S S1 x t grams 0 :=
  ⟨h.mono, fun _ => ⟨rfl, h.at_, h.aim, fun y hy hn a ha hr => by
    by_cases e : y = x
    · subst e
      obtain ⟨j, hj, e2⟩ := List.mem_iff_getElem.1 ha
      exact h.arcs j a hj (by rw [List.getElem?_eq_getElem hj, e2]) hr
    · exact h.closed y hy hn e a ha hr⟩, by omega, rfl, ho.bd, fun y => by simp, fun _ _ h _ => h⟩
theorem flows_set {es : List Ed} {k : Nat} {e : Ed} (h : es[k]? = some e) (g : Int) (y : Nat) : flows (es.set k ⟨e.u, e.v, e.cap, e.fl + g⟩) y = flows es y + inn e.u e.v g y := by
  obtain ⟨hk, he⟩ := List.getElem?_eq_some_iff.1 h
  unfold flows
  rw [esum_set _ hk, he]
  simp only
  rw [inn_add]; omega
/-- a way is found. -/
theorem WkLoop.found {N : Nat} {es es' : List Ed} (ho : EdsOk N es) {S S1 S2 : Nat → Bool} {x t i : Nat} {g grams got : Int} (hS : S x = false) (h : WkLoop N es S S1 x t i) {a : Ar} (ha : (rowE es x)[i]? = some a) (hto0 : S1 a.tgt = false) (hg : g ≤ grams ∧ g ≤ a.room) (hw : WalkIs N es es' S1 S2 a.tgt t g got) (hgot : 0 < got) :
    ∃ k e sg, ArcAt es' x i a k e sg ∧ (rowE es' x)[i]? = some a ∧ WalkIs N es (es'.set k ⟨e.u, e.v, e.cap, e.fl + sg * got⟩) S S2 x t grams got := by
  have ho' := ho.shape hw.shape hw.cap
  obtain ⟨k, e, sg, hA⟩ := arcAt ho.ne ha
  have he' : es'[k]? = some e := hw.same k e hA.ed (by
    rcases hA.way with ⟨a1, _⟩ | ⟨a1, _⟩
    · left; rw [a1]; exact h.at_
    · right; rw [a1]; exact h.at_)
  -- the arc lies as it lay
  have hcnt : ∀ j y, cntE (es'.take j) y = cntE (es.take j) y := fun j y => cntE_shape (by rw [List.map_take, List.map_take, hw.shape]) y
  obtain ⟨k0, e0, q1, q2, q3⟩ := arc_edge ha
  simp only [List.nil_append] at q3
  have he0 : es'[k0]? = some e0 := hw.same k0 e0 q1 (by
    rcases piece_one q3 with ⟨a1, _⟩ | ⟨_, a1, _⟩
    · left; rw [a1]; exact h.at_
    · right; rw [a1]; exact h.at_)
  have ha' : (rowE es' x)[i]? = some a := by
    have hp : pieceE (es'.take k0) e0 x = [a] := by
      rw [← q3]; unfold pieceE; rw [hcnt, hcnt]
    have := rowE_at he0 hp
    rwa [show posE es' k0 x = i from by unfold posE; rw [hcnt]; exact q2] at this
  obtain ⟨k2, e2, sg2, hA2⟩ := arcAt ho'.ne ha'
  refine ⟨k2, e2, sg2, hA2, ha', ?_⟩
  have hm2 := List.mem_of_getElem? hA2.ed
  have hb2 := ho'.bd e2 hm2
  have hto := arc_lt ho ha
  have hbd := hw.bd
  refine ⟨fun y hy => hw.mono y (h.mono y hy), fun h0 => by omega, by omega, ?_, fun f hf => ?_, fun y => ?_, fun j f hj hu => ?_⟩
  · rw [List.map_set]
    show (es'.map Ed.shape).set k2 (e2.u, e2.v, e2.cap) = _
    rw [← hw.shape]
    obtain ⟨hk, hk2⟩ := List.getElem?_eq_some_iff.1 hA2.ed
    refine List.ext_getElem (by simp) (fun n h1 h2 => ?_)
    rw [List.getElem_set]
    split
    · rename_i e3; subst e3
      simp [hk2, Ed.shape]
    · rfl
  · obtain ⟨n, hn, e3⟩ := List.mem_iff_getElem.1 hf
    rw [List.getElem_set] at e3
    split at e3
    · subst e3
      simp only
      rcases hA2.way with ⟨_, _, a3, a4⟩ | ⟨_, _, a3, a4⟩ <;> subst a3 <;> omega
    · exact hw.cap f (by rw [← e3]; exact List.getElem_mem _)
  · rw [flows_set hA2.ed, hw.flow y]
    have : inn e2.u e2.v (sg2 * got) y = (if y = a.tgt then got else 0) - (if y = x then got else 0) := by
      unfold inn
      rcases hA2.way with ⟨a1, a2, a3, a4⟩ | ⟨a1, a2, a3, a4⟩ <;> rw [a1, a2, a3]
      · simp only [Int.one_mul, eq_comm]
      · rw [show (-1 : Int) * got = - got by omega]
        omega
    rw [this]; omega
  · have h1 : es'[j]? = some f := hw.same j f hj (by rcases hu with h' | h'; exact .inl (h.mono _ h'); exact .inr (h.mono _ h'))
    have hne : k2 ≠ j := fun e3 => by
      subst e3
      have := hA2.ed
      rw [h1] at this
      injection this with this
      subst this
      have hs2 : S a.tgt = false := by
        cases h3 : S a.tgt
        · rfl
        · rw [h.mono _ h3] at hto0; cases hto0
      rcases hA2.way with ⟨a1, a2, _⟩ | ⟨a1, a2, _⟩ <;> rw [a1, a2, hS, hs2] at hu <;> simp at hu
    rw [List.getElem?_set_ne hne]
    exact h1
end Go.Proofs.Ythihdiilokdidaa
end

section
namespace Go.Proofs.Ythihdiilokdidaa

/-- the net at work: so many grams are still lacking. -/
structure PushIs (M : Nat) (ps : List Pp) (es : List Ed) (left : Int) : Prop where
  shape : es.map Ed.shape = ps.map (fun p => (p.u, p.v, p.hi - p.lo)) ++ supplies M (needs ps) M
  cap : ∀ e ∈ es, 0 ≤ e.fl ∧ e.fl ≤ e.cap
  bal : ∀ x, x < M → flows es x = 0
  src : flows es M = left - total M (needs ps)
section
variable {M : Nat} {ps : List Pp} {es es' : List Ed} {left : Int}
theorem PushIs.ends (h : PushIs M ps es left) (hp : ∀ p ∈ ps, p.u < M ∧ p.v < M ∧ p.u ≠ p.v) : EdsOk (M + 2) es := by
  have key : ∀ e ∈ es, e.u < M + 2 ∧ e.v < M + 2 ∧ e.u ≠ e.v := fun e he => by
    have : e.shape ∈ ps.map (fun p => (p.u, p.v, p.hi - p.lo)) ++ supplies M (needs ps) M := by rw [← h.shape]; exact List.mem_map_of_mem he
    rcases List.mem_append.1 this with h1 | h1
    · obtain ⟨p, hpm, e2⟩ := List.mem_map.1 h1
      have := hp p hpm
      simp only [Ed.shape, Prod.mk.injEq] at e2
      omega
    · have := mem_supplies h1
      simp only [Ed.shape] at this
      omega
  exact ⟨fun e he => ⟨(key e he).1, (key e he).2.1⟩, fun e he => (key e he).2.2, h.cap⟩
theorem PushIs.bound (h : PushIs M ps es left) (hp : ∀ p ∈ ps, p.u < M ∧ p.v < M ∧ p.u ≠ p.v) : 0 ≤ left := by
  obtain ⟨ea, eb, rfl, ha, hbs⟩ := net_split h.shape
  have hea : ∀ e ∈ ea, e.u < M ∧ e.v < M := fun e he => by
    have : e.shape ∈ ps.map (fun p => (p.u, p.v, p.hi - p.lo)) := by rw [← ha]; exact List.mem_map_of_mem he
    obtain ⟨p, hpm, e2⟩ := List.mem_map.1 this
    have := hp p hpm
    simp only [Ed.shape, Prod.mk.injEq] at e2
    omega
  have heb : ∀ e ∈ eb, (e.u = M ∧ e.v < M) ∨ (e.u < M ∧ e.v = M + 1) := fun e he => by
    have : Ed.shape e ∈ supplies M (needs ps) M := by rw [← hbs]; exact List.mem_map_of_mem he
    exact mem_supplies this
  have hfa : flows ea M = 0 := by
    unfold flows
    rw [esum_congr (h := fun _ => 0), esum_zero]
    intro e he
    have := hea e he
    unfold inn; rw [if_neg (by omega), if_neg (by omega)]; rfl
  have hfb : flows eb M = - esum (fun e : Ed => if e.u = M then e.fl else 0) eb := by
    unfold flows
    rw [← esum_neg]
    refine esum_congr (fun e he => ?_)
    have := heb e he
    unfold inn; rw [if_neg (show ¬ e.v = M by omega)]; omega
  have hcs : esum (fun e : Ed => if e.u = M then e.cap else 0) eb = total M (needs ps) := by
    rw [esum_shape (fun u _ c => if u = M then c else 0) hbs]; exact supplies_src' M _
  have hle : esum (fun e : Ed => if e.u = M then e.fl else 0) eb ≤ esum (fun e : Ed => if e.u = M then e.cap else 0) eb := esum_le (fun e he => by
    have := h.cap e (by simp [he]); split <;> omega)
  have := h.src
  rw [flows_app, hfa, hfb] at this
  omega
theorem PushIs.full (h : PushIs M ps es left) (hp : ∀ p ∈ ps, p.u < M ∧ p.v < M ∧ p.u ≠ p.v) (hl : left ≤ 0) : CanGo M ps := by
  have h0 := h.bound hp
  exact can_of_full (fun p hpm => ⟨(hp p hpm).1, (hp p hpm).2.1⟩) h.shape h.cap h.bal (by rw [h.src]; omega)
theorem PushIs.step (h : PushIs M ps es left) {S S' : Nat → Bool} {g got : Int} (hw : WalkIs (M + 2) es es' S S' M (M + 1) g got) : PushIs M ps es' (left - got) :=
  ⟨hw.shape.trans h.shape, hw.cap, fun x hx => by rw [hw.flow, h.bal x hx, if_neg (by omega), if_neg (by omega)]; omega, by rw [hw.flow, h.src, if_pos rfl, if_neg (by omega)]; omega⟩
theorem PushIs.cut (h : PushIs M ps es left) (hp : ∀ p ∈ ps, p.u < M ∧ p.v < M ∧ p.u ≠ p.v) (hl : 0 < left) {S' : Nat → Bool} {g : Int} (hw : WalkIs (M + 2) es es' (fun _ => false) S' M (M + 1) g 0) : ¬ CanGo M ps := by
  obtain ⟨_, h2, h3, h4⟩ := hw.none rfl
  have ho := h.ends hp
  refine not_of_cut (fun p hpm => ⟨(hp p hpm).1, (hp p hpm).2.1⟩) h.shape h.cap h.bal (by rw [h.src]; omega) S' h2 h3 (fun e he => ?_)
  obtain ⟨k, hk, e2⟩ := List.mem_iff_getElem.1 he
  have hk2 : es[k]? = some e := by rw [List.getElem?_eq_getElem hk, e2]
  have hn := ho.ne e he
  refine ⟨fun hu hv => ?_, fun hv hu => ?_⟩
  · have ha := List.mem_of_getElem? (rowE_at hk2 (piece_u (pre := es.take k)))
    have := h4 e.u hu rfl _ ha
    simp only at this
    by_cases h5 : e.cap - e.fl = 0
    · omega
    · rw [this h5] at hv; cases hv
  · have ha := List.mem_of_getElem? (rowE_at hk2 (piece_v (pre := es.take k) hn))
    have := h4 e.v hv rfl _ ha
    simp only at this
    by_cases h5 : e.fl = 0
    · exact h5
    · rw [this h5] at hu; cases hu
end
/-- the edge of a pipe, as it is laid. -/
def edOf (u v : Nat) (c : Int) : Ed := ⟨u, v, c, 0⟩
theorem flows_zero {es : List Ed} (h : ∀ e ∈ es, e.fl = 0) (x : Nat) : flows es x = 0 := by
  unfold flows
  rw [esum_congr (h := fun _ => 0), esum_zero]
  intro e he
  rw [h e he, inn_zero]
/-- the edges of the supply, as they are laid. -/
def supEd (M : Nat) (nd : Nat → Int) (k : Nat) : List Ed := (supplies M nd k).map fun t => edOf t.1 t.2.1 t.2.2
theorem PushIs.start {M : Nat} {ps : List Pp} (hlh : ∀ p ∈ ps, p.lo ≤ p.hi) : PushIs M ps (ps.map (fun p => edOf p.u p.v (p.hi - p.lo)) ++ supEd M (needs ps) M) (total M (needs ps)) := by
  have h0 : ∀ e ∈ ps.map (fun p => edOf p.u p.v (p.hi - p.lo)) ++ supEd M (needs ps) M, e.fl = 0 ∧ 0 ≤ e.cap := fun e he => by
    rcases List.mem_append.1 he with h1 | h1
    · obtain ⟨p, hp, rfl⟩ := List.mem_map.1 h1
      have := hlh p hp
      exact ⟨rfl, show 0 ≤ p.hi - p.lo by omega⟩
    · obtain ⟨t, ht, rfl⟩ := List.mem_map.1 h1
      refine ⟨rfl, ?_⟩
      unfold supplies at ht
      obtain ⟨y, _, ht⟩ := List.mem_flatMap.1 ht
      unfold supply at ht
      show 0 ≤ t.2.2
      split at ht
      · rw [List.mem_singleton.1 ht]; simp only; omega
      · split at ht
        · rw [List.mem_singleton.1 ht]; simp only; omega
        · cases ht
  refine ⟨?_, fun e he => by have := h0 e he; omega, fun x _ => flows_zero (fun e he => (h0 e he).1) x, ?_⟩
  · rw [List.map_append, List.map_map]
    congr 1
    unfold supEd
    rw [List.map_map]
    exact (List.map_congr_left (fun t _ => rfl)).trans (List.map_id _)
  · rw [flows_zero (fun e he => (h0 e he).1)]; omega
theorem supEd_succ (M : Nat) (nd : Nat → Int) (k : Nat) : supEd M nd (k + 1) = supEd M nd k ++ (supply M nd k).map fun t => edOf t.1 t.2.1 t.2.2 := by
  unfold supEd supplies
  rw [List.range_succ, List.flatMap_append, List.map_append]
  simp
theorem total_succ (nd : Nat → Int) (k : Nat) : total (k + 1) nd = total k nd + (if nd k > 0 then nd k else 0) := by
  unfold total
  rw [List.range_succ, esum_app]
  simp [esum]

/-- the spots that have a number, in their order; what is laid between them. -/
def edL (w : Wo) (st : Sts) (sp : List Spot) (b : Lb) : Ed := edOf (sp.idxOf (Lb.U w b)) (sp.idxOf (Lb.V w b)) ((Lb.R w st b).hi - (Lb.R w st b).lo)
def ppL (w : Wo) (st : Sts) (sp : List Spot) (b : Lb) : Pp := ⟨sp.idxOf (Lb.U w b), sp.idxOf (Lb.V w b), (Lb.R w st b).lo, (Lb.R w st b).hi⟩
def ndL (w : Wo) (st : Sts) (sp : List Spot) (l : List Lb) (x : Nat) : Int := needs (l.map (ppL w st sp)) x
/-- so many pipes are laid. -/
structure LaidP (w : Wo) (st : Sts) (sp : List Spot) (l : List Lb) (es : List Ed) (nd : Nat → Int) : Prop where
  nodup : sp.Nodup
  used : ∀ s ∈ sp, UsedS w s
  has : ∀ b ∈ l, Lb.U w b ∈ sp ∧ Lb.V w b ∈ sp
  es : es = l.map (edL w st sp)
  nd : ∀ x, nd x = ndL w st sp l x
theorem idx_app {sp : List Spot} {s : Spot} (m : List Spot) (h : s ∈ sp) : (sp ++ m).idxOf s = sp.idxOf s := by
  rw [List.idxOf_append, if_pos h]
theorem LaidP.more {w : Wo} {st : Sts} {sp : List Spot} {l : List Lb} {es : List Ed} {nd : Nat → Int} (h : LaidP w st sp l es nd) {s : Spot} (hs : s ∉ sp) (hus : UsedS w s) : LaidP w st (sp ++ [s]) l es nd := by
  refine ⟨List.nodup_append.2 ⟨h.nodup, by simp, fun a ha b hb e => by rw [List.mem_singleton.1 hb] at e; exact hs (e ▸ ha)⟩, fun x hx => by
    rcases List.mem_append.1 hx with hx | hx
    · exact h.used x hx
    · rw [List.mem_singleton.1 hx]; exact hus, fun b hb => ⟨List.mem_append_left _ (h.has b hb).1, List.mem_append_left _ (h.has b hb).2⟩, ?_, fun x => ?_⟩
  · rw [h.es]
    refine List.map_congr_left (fun b hb => ?_)
    unfold edL
    rw [idx_app _ (h.has b hb).1, idx_app _ (h.has b hb).2]
  · rw [h.nd]
    unfold ndL
    congr 1
    refine List.map_congr_left (fun b hb => ?_)
    unfold ppL
    rw [idx_app _ (h.has b hb).1, idx_app _ (h.has b hb).2]
theorem LaidP.step {w : Wo} {st : Sts} {sp : List Spot} {l : List Lb} {es : List Ed} {nd : Nat → Int} (h : LaidP w st sp l es nd) {b : Lb} (hu : Lb.U w b ∈ sp) (hv : Lb.V w b ∈ sp) {nd' : Nat → Int} (hn : ∀ x, nd' x = nd x + inn (sp.idxOf (Lb.U w b)) (sp.idxOf (Lb.V w b)) (Lb.R w st b).lo x) :
    LaidP w st sp (l ++ [b]) (es ++ [edL w st sp b]) nd' := by
  refine ⟨h.nodup, h.used, fun c hc => ?_, by rw [h.es]; simp, fun x => ?_⟩
  · rcases List.mem_append.1 hc with hc | hc
    · exact h.has c hc
    · rw [List.mem_singleton.1 hc]; exact ⟨hu, hv⟩
  · rw [hn, h.nd]
    unfold ndL needs
    rw [List.map_append, esum_app]
    simp [esum, ppL]
/-- WHEN ALL IS LAID: grams can go just if some truth can be. -/
theorem LaidP.can {w : Wo} (hm : MovesOk w) (hr : 0 < w.rooms.length) {st : Sts} {sp : List Spot} {es : List Ed} {nd : Nat → Int} (h : LaidP w st sp (labels w) es nd) :
    (∀ p ∈ (labels w).map (ppL w st sp), p.u < sp.length ∧ p.v < sp.length ∧ p.u ≠ p.v) ∧ (CanGo sp.length ((labels w).map (ppL w st sp)) ↔ CanSt w st) ∧ es = ((labels w).map (ppL w st sp)).map (fun p => edOf p.u p.v (p.hi - p.lo)) ∧ ∀ x, nd x = needs ((labels w).map (ppL w st sp)) x := by
  have hall : ∀ s, UsedS w s → s ∈ sp := by
    rintro s (rfl | ⟨r, d, hr', hd, rfl⟩)
    · exact (h.has (.fst 0) (mem_labels.2 (.inl ⟨0, hr, .inl rfl⟩))).1
    · exact (h.has (.stk r d) (mem_labels.2 (.inl ⟨r, hr', .inr ⟨d, hd, .inl rfl⟩⟩))).1
  have hlt : ∀ s, s ∈ sp → sp.idxOf s < sp.length := fun s hs => List.idxOf_lt_length_of_mem hs
  have hinj : ∀ s t, s ∈ sp → t ∈ sp → sp.idxOf s = sp.idxOf t → s = t := fun s t hs ht e => by
    have h1 := List.getElem_idxOf (hlt s hs)
    have h2 := List.getElem_idxOf (hlt t ht)
    rw [← h1, ← h2]
    simp only [e]
  refine ⟨fun p hp => ?_, ?_, by rw [h.es, List.map_map]; rfl, h.nd⟩
  · obtain ⟨b, hb, rfl⟩ := List.mem_map.1 hp
    have := h.has b hb
    exact ⟨hlt _ this.1, hlt _ this.2, fun e => uv_ne hm hb (hinj _ _ this.1 this.2 e)⟩
  · -- each spot that has a number is used
    exact canGo_iff w hm st (num := sp.idxOf) (fun s hs => hlt s (hall s hs)) (fun x hx => ⟨sp[x], h.used _ (List.getElem_mem hx), h.nodup.idxOf_getElem x hx⟩) (fun s t hs ht e => hinj s t (hall s hs) (hall t ht) e)
end Go.Proofs.Ythihdiilokdidaa
end

section
namespace Go.Proofs.Ythihdiilokdidaa
/-- a stock's range is made narrower. -/
def narrowS (st : Sts) (r d : Nat) (g : Rg) : Sts := fun r' d' => if r' = r ∧ d' = d then ⟨max (st r d).lo g.lo, min (st r d).hi g.hi⟩ else st r' d'
/-- the ranges of the stocks by the first so many weighings, but some. -/
def stW (l : List Wg) (out : Nat → Bool) : Nat → Sts
  | 0 => fun _ _ => ⟨0, 1048576⟩
  | k + 1 => if out k then stW l out k else narrowS (stW l out k) (gWg l k).room.toNat (gWg l k).day.toNat (gWg l k).g
/-- a works as it may be. -/
structure WoOk (w : Wo) : Prop where
  len : 0 < w.rooms.length ∧ w.rooms.length ≤ 3 ∧ w.moves.length ≤ 12 ∧ w.wgs.length ≤ 8
  days : 1 ≤ w.days ∧ w.days ≤ 6
  rooms : ∀ r, r < w.rooms.length → 0 ≤ (gRm w.rooms r).fst.lo ∧ (gRm w.rooms r).fst.lo ≤ (gRm w.rooms r).fst.hi ∧ (gRm w.rooms r).fst.hi ≤ 2000 ∧ 0 ≤ (gRm w.rooms r).vap.lo ∧ (gRm w.rooms r).vap.lo ≤ (gRm w.rooms r).vap.hi ∧ (gRm w.rooms r).vap.hi ≤ 50
  moves : MovesOk w
  grams : ∀ i, i < w.moves.length → 0 ≤ (gMv w.moves i).g.lo ∧ (gMv w.moves i).g.lo ≤ (gMv w.moves i).g.hi ∧ (gMv w.moves i).g.hi ≤ 2000
  wgs : ∀ i, i < w.wgs.length → 0 ≤ (gWg w.wgs i).room ∧ (gWg w.wgs i).room < w.rooms.length ∧ 0 ≤ (gWg w.wgs i).day ∧ (gWg w.wgs i).day < w.days ∧ 0 ≤ (gWg w.wgs i).g.lo ∧ (gWg w.wgs i).g.lo ≤ (gWg w.wgs i).g.hi ∧ (gWg w.wgs i).g.hi ≤ 2000
/-- a truth that can be, and agrees with all weighings but some. -/
structure GoodF (w : Wo) (out : Nat → Bool) (F : Nat → Int) (V : Nat → Nat → Int) (G : Nat → Int) : Prop where
  tru : TruF w F V G
  can : ∀ r d, r < w.rooms.length → d < w.days → 0 ≤ stk w F V G r d
  agr : ∀ i, i < w.wgs.length → out i = false → inR (stk w F V G (gWg w.wgs i).room.toNat (gWg w.wgs i).day.toNat) (gWg w.wgs i).g
/-- what a stock can be. -/
def StkZ (w : Wo) (out : Nat → Bool) (r d : Nat) (z : Int) : Prop := ∃ F V G, GoodF w out F V G ∧ stk w F V G r d = z
section
variable {w : Wo} {out : Nat → Bool} {F : Nat → Int} {V : Nat → Nat → Int} {G : Nat → Int}
theorem comes_le (hw : WoOk w) (ht : TruF w F V G) (r d : Int) : ∀ k, k ≤ w.moves.length → comes w G r d k ≤ 2000 * k := by
  intro k
  induction k with
  | zero => intro _; simp [comes, esum]
  | succ k ih =>
    intro hk
    have h1 := ih (by omega)
    have h2 := ht.mov k (by omega)
    have h3 := hw.grams k (by omega)
    unfold comes at h1 ⊢
    rw [List.range_succ, esum_app]
    simp only [esum]
    unfold inR at h2
    split <;> (try split) <;> (try split) <;> omega
theorem stk_le (hw : WoOk w) (ht : TruF w F V G) {r : Nat} (hr : r < w.rooms.length) : ∀ d, d < w.days → stk w F V G r d ≤ 2000 + 24000 * ((d : Int) + 1) := by
  have h12 := hw.len
  intro d
  induction d with
  | zero =>
    intro hd
    have h1 := comes_le hw ht r 0 _ (Nat.le_refl _)
    have h2 := ht.fst r hr
    have h3 := ht.vap r 0 hr hd
    have h4 := hw.rooms r hr
    unfold inR at h2 h3
    simp only [stk]
    omega
  | succ d ih =>
    intro hd
    have h1 := comes_le hw ht r ((d : Int) + 1) _ (Nat.le_refl _)
    have h3 := ht.vap r (d + 1) hr hd
    have h4 := hw.rooms r hr
    have h5 := ih (by omega)
    unfold inR at h3
    simp only [stk]
    omega
theorem narrow_in (st : Sts) (r d : Nat) (g : Rg) (z : Nat → Nat → Int) : (∀ r' d', r' < w.rooms.length → d' < w.days → inR (z r' d') (narrowS st r d g r' d')) ↔ (∀ r' d', r' < w.rooms.length → d' < w.days → inR (z r' d') (st r' d')) ∧ (r < w.rooms.length → d < w.days → inR (z r d) g) := by
  constructor
  · intro h
    refine ⟨fun r' d' hr hd => ?_, fun hr hd => ?_⟩
    · have := h r' d' hr hd
      unfold narrowS at this
      split at this
      · rename_i e; obtain ⟨rfl, rfl⟩ := e; unfold inR at this ⊢; simp only at this; omega
      · exact this
    · have := h r d hr hd
      unfold narrowS at this
      rw [if_pos ⟨rfl, rfl⟩] at this
      unfold inR at this ⊢; simp only at this; omega
  · rintro ⟨h1, h2⟩ r' d' hr hd
    unfold narrowS
    split
    · rename_i e; obtain ⟨rfl, rfl⟩ := e
      have a := h1 r' d' hr hd
      have b := h2 hr hd
      unfold inR at a b ⊢; simp only; omega
    · exact h1 r' d' hr hd
theorem stW_in (hw : WoOk w) (z : Nat → Nat → Int) : ∀ k, k ≤ w.wgs.length → ((∀ r d, r < w.rooms.length → d < w.days → inR (z r d) (stW w.wgs out k r d)) ↔ (∀ r d, r < w.rooms.length → d < w.days → 0 ≤ z r d ∧ z r d ≤ 1048576) ∧ ∀ i, i < k → out i = false → inR (z (gWg w.wgs i).room.toNat (gWg w.wgs i).day.toNat) (gWg w.wgs i).g) := by
  intro k
  induction k with
  | zero =>
    intro _
    constructor
    · intro h; exact ⟨h, fun i hi => by omega⟩
    · intro h; exact h.1
  | succ k ih =>
    intro hk
    have h0 := ih (by omega)
    have hg := hw.wgs k (by omega)
    unfold stW
    by_cases ho : out k = true
    · rw [if_pos ho, h0]
      constructor
      · rintro ⟨h1, h2⟩
        refine ⟨h1, fun i hi hoi => ?_⟩
        rcases Nat.lt_succ_iff_lt_or_eq.1 hi with h | h
        · exact h2 i h hoi
        · subst h; rw [ho] at hoi; cases hoi
      · rintro ⟨h1, h2⟩
        exact ⟨h1, fun i hi => h2 i (by omega)⟩
    · rw [if_neg ho, narrow_in, h0]
      constructor
      · rintro ⟨⟨h1, h2⟩, h3⟩
        refine ⟨h1, fun i hi hoi => ?_⟩
        rcases Nat.lt_succ_iff_lt_or_eq.1 hi with h | h
        · exact h2 i h hoi
        · subst h; exact h3 (by omega) (by omega)
      · rintro ⟨h1, h2⟩
        exact ⟨⟨h1, fun i hi => h2 i (by omega)⟩, fun _ _ => h2 k (by omega) (by simpa using ho)⟩
/-- some truth can be, and agrees. -/
theorem canSt_good (hw : WoOk w) : CanSt w (stW w.wgs out w.wgs.length) ↔ ∃ F V G, GoodF w out F V G := by
  constructor
  · rintro ⟨F, V, G, ht, hs⟩
    have h := (stW_in (out := out) hw (stk w F V G) _ (Nat.le_refl _)).1 hs
    exact ⟨F, V, G, ht, fun r d hr hd => (h.1 r d hr hd).1, fun i hi => h.2 i hi⟩
  · rintro ⟨F, V, G, h⟩
    refine ⟨F, V, G, h.tru, (stW_in (out := out) hw (stk w F V G) _ (Nat.le_refl _)).2 ⟨fun r d hr hd => ⟨h.can r d hr hd, ?_⟩, h.agr⟩⟩
    have := stk_le hw h.tru hr d hd
    have := hw.days
    omega
/-- a stock may be in a range. -/
theorem canSt_narrow (hw : WoOk w) {r d : Nat} (hr : r < w.rooms.length) (hd : d < w.days) (g : Rg) : CanSt w (narrowS (stW w.wgs out w.wgs.length) r d g) ↔ ∃ z, StkZ w out r d z ∧ g.lo ≤ z ∧ z ≤ g.hi := by
  constructor
  · rintro ⟨F, V, G, ht, hs⟩
    obtain ⟨h1, h2⟩ := (narrow_in _ r d g (stk w F V G)).1 hs
    have h := (stW_in (out := out) hw (stk w F V G) _ (Nat.le_refl _)).1 h1
    exact ⟨_, ⟨F, V, G, ⟨ht, fun r d hr hd => (h.1 r d hr hd).1, fun i hi => h.2 i hi⟩, rfl⟩, h2 hr hd⟩
  · rintro ⟨z, ⟨F, V, G, h, rfl⟩, hz⟩
    refine ⟨F, V, G, h.tru, (narrow_in _ r d g (stk w F V G)).2 ⟨(stW_in (out := out) hw (stk w F V G) _ (Nat.le_refl _)).2 ⟨fun r d hr hd => ⟨h.can r d hr hd, ?_⟩, h.agr⟩, fun _ _ => hz⟩⟩
    have := stk_le hw h.tru hr d hd
    have := hw.days
    omega
theorem stk_in (hw : WoOk w) {r d : Nat} (hr : r < w.rooms.length) (hd : d < w.days) {z : Int} (h : StkZ w out r d z) : inR z (stW w.wgs out w.wgs.length r d) := by
  obtain ⟨F, V, G, h, rfl⟩ := h
  refine (stW_in (out := out) hw (stk w F V G) _ (Nat.le_refl _)).2 ⟨fun r d hr hd => ⟨h.can r d hr hd, ?_⟩, h.agr⟩ r d hr hd
  have := stk_le hw h.tru hr d hd
  have := hw.days
  omega
end
/-- a least one, and a greatest one. -/
theorem least_of {Z : Int → Prop} {a b : Int} (h : ∀ z, Z z → a ≤ z ∧ z ≤ b) (hz : ∃ z, Z z) : ∃ lo hi, EndsOf Z lo hi := by
  classical
  have lo : ∀ n : Nat, (∃ z, Z z ∧ z < a + n) → ∃ m, Z m ∧ ∀ z, Z z → m ≤ z := fun n => by
    induction n with
    | zero => rintro ⟨z, hz, hlt⟩; have := h z hz; omega
    | succ n ih =>
      rintro ⟨z, hz, hlt⟩
      by_cases hn : ∃ z, Z z ∧ z < a + n
      · exact ih hn
      · refine ⟨z, hz, fun y hy => ?_⟩
        rcases Int.lt_or_le y z with h' | h'
        · exact absurd ⟨y, hy, by omega⟩ hn
        · exact h'
  have hi : ∀ n : Nat, (∃ z, Z z ∧ b - n < z) → ∃ m, Z m ∧ ∀ z, Z z → z ≤ m := fun n => by
    induction n with
    | zero => rintro ⟨z, hz, hlt⟩; have := h z hz; omega
    | succ n ih =>
      rintro ⟨z, hz, hlt⟩
      by_cases hn : ∃ z, Z z ∧ b - n < z
      · exact ih hn
      · refine ⟨z, hz, fun y hy => ?_⟩
        rcases Int.lt_or_le z y with h' | h'
        · exact absurd ⟨y, hy, by omega⟩ hn
        · exact h'
  obtain ⟨z, hz⟩ := hz
  obtain ⟨m, m1, m2⟩ := lo (z - a + 1).toNat ⟨z, hz, by have := h z hz; omega⟩
  obtain ⟨n, n1, n2⟩ := hi (b - z + 1).toNat ⟨z, hz, by have := h z hz; omega⟩
  exact ⟨m, n, m1, n1, fun y hy => ⟨m2 y hy, n2 y hy⟩⟩
/-- looking for an end: it is in the range that is left. -/
structure FindIs (Z : Int → Prop) (up : Bool) (old r : Rg) : Prop where
  sub : old.lo ≤ r.lo ∧ r.hi ≤ old.hi
  has : ∃ lo hi, EndsOf Z lo hi ∧ (if up then r.lo ≤ hi ∧ hi ≤ r.hi else r.lo ≤ lo ∧ lo ≤ r.hi)
def halfA (up : Bool) (r : Rg) : Rg := if up then ⟨(r.lo + r.hi) / 2 + 1, r.hi⟩ else ⟨r.lo, (r.lo + r.hi) / 2⟩
def halfB (up : Bool) (r : Rg) : Rg := if up then ⟨r.lo, (r.lo + r.hi) / 2⟩ else ⟨(r.lo + r.hi) / 2 + 1, r.hi⟩
section
variable {Z : Int → Prop} {up : Bool} {old r : Rg}
theorem FindIs.le (h : FindIs Z up old r) : r.lo ≤ r.hi := by
  obtain ⟨lo, hi, _, h2⟩ := h.has
  split at h2 <;> omega
theorem FindIs.subA (h : FindIs Z up old r) (hlt : r.lo < r.hi) : old.lo ≤ (halfA up r).lo ∧ (halfA up r).hi ≤ old.hi := by
  have := h.sub
  unfold halfA
  cases up <;> simp <;> omega
theorem FindIs.step (h : FindIs Z up old r) (hlt : r.lo < r.hi) : FindIs Z up old (halfB up r) ∨ ∃ z, Z z ∧ (halfA up r).lo ≤ z ∧ z ≤ (halfA up r).hi := by
  obtain ⟨lo, hi, h1, h2⟩ := h.has
  have hs := h.sub
  unfold halfA halfB
  cases up
  · simp only [Bool.false_eq_true, if_false] at h2 ⊢
    by_cases hm : lo ≤ (r.lo + r.hi) / 2
    · exact .inr ⟨lo, h1.1, by omega, hm⟩
    · exact .inl ⟨by simp only; omega, lo, hi, h1, by simp; omega⟩
  · simp only [if_true] at h2 ⊢
    by_cases hm : (r.lo + r.hi) / 2 + 1 ≤ hi
    · exact .inr ⟨hi, h1.2.1, hm, by omega⟩
    · exact .inl ⟨by simp only; omega, lo, hi, h1, by simp; omega⟩
theorem FindIs.yes (h : FindIs Z up old r) (hlt : r.lo < r.hi) (hz : ∃ z, Z z ∧ (halfA up r).lo ≤ z ∧ z ≤ (halfA up r).hi) : FindIs Z up old (halfA up r) := by
  obtain ⟨lo, hi, h1, h2⟩ := h.has
  have hs := h.subA hlt
  obtain ⟨z, hz, z1, z2⟩ := hz
  have h3 := h1.2.2 z hz
  refine ⟨hs, lo, hi, h1, ?_⟩
  unfold halfA at z1 z2 ⊢
  cases up
  · simp only [Bool.false_eq_true, if_false] at h2 z1 z2 ⊢; omega
  · simp only [if_true] at h2 z1 z2 ⊢; omega
theorem FindIs.no (h : FindIs Z up old r) (hlt : r.lo < r.hi) (hz : ¬ ∃ z, Z z ∧ (halfA up r).lo ≤ z ∧ z ≤ (halfA up r).hi) : FindIs Z up old (halfB up r) := (h.step hlt).resolve_right hz
theorem FindIs.done (h : FindIs Z up old r) (hle : r.hi ≤ r.lo) {lo hi : Int} (he : EndsOf Z lo hi) : r.lo = if up then hi else lo := by
  obtain ⟨lo', hi', h1, h2⟩ := h.has
  have e1 := he.2.2 _ h1.1
  have e2 := he.2.2 _ h1.2.1
  have e3 := h1.2.2 _ he.1
  have e4 := h1.2.2 _ he.2.1
  cases up <;> simp at h2 ⊢ <;> omega
end
end Go.Proofs.Ythihdiilokdidaa
end

section
namespace Go.Proofs.Ythihdiilokdidaa
open Go.RowKit
attribute [local go_sem] Ex.cell? Ex.frozen?

/-- a works as it comes. -/
structure Ws where
  rooms : List Rm
  days : Int
  moves : List Mv
  wgs : List Wg
def Ws.wo (s : Ws) : Wo := ⟨s.rooms, s.days.toNat, s.moves, s.wgs⟩
def roomB (r : Rm) : Bool := toB r.fst.lo r.fst.hi 2000 && toB r.vap.lo r.vap.hi 50
def sideB (n : Nat) (k : Int) : Bool := decide (k = -1) || inB k 0 ((n : Int) - 1)
def moveB (n : Nat) (days : Int) (m : Mv) : Bool := inB m.day 0 (days - 1) && (sideB n m.src && (sideB n m.dst && (decide (m.src ≠ m.dst) && toB m.g.lo m.g.hi 2000)))
def wgB (n : Nat) (days : Int) (x : Wg) : Bool := inB x.room 0 ((n : Int) - 1) && (inB x.day 0 (days - 1) && toB x.g.lo x.g.hi 2000)
def bigWs (s : Ws) : Bool := decide (3 < s.rooms.length) || (decide (12 < s.moves.length) || decide (8 < s.wgs.length))
def goodWs (s : Ws) : Bool := decide (s.rooms.length ≠ 0) && (inB s.days 1 6 && (allTo (fun k => roomB (gRm s.rooms k)) s.rooms.length && (allTo (fun k => moveB s.rooms.length s.days (gMv s.moves k)) s.moves.length && allTo (fun k => wgB s.rooms.length s.days (gWg s.wgs k)) s.wgs.length)))
def ckWs (s : Ws) : Int := if bigWs s then 3 else if goodWs s then 0 else 1
theorem ckWs_iff {s : Ws} : ckWs s = 0 ↔ WoOk s.wo ∧ s.days = (s.wo.days : Int) := by
  unfold ckWs
  have hb : bigWs s = true ↔ 3 < s.rooms.length ∨ 12 < s.moves.length ∨ 8 < s.wgs.length := by simp [bigWs]
  constructor
  · intro h
    split at h
    · cases h
    · rename_i h1
      split at h
      · rename_i h2
        have h1 := mt hb.2 h1
        simp only [goodWs, Bool.and_eq_true, decide_eq_true_eq, allTo_iff, inB_iff] at h2
        obtain ⟨a, b, c, d, e⟩ := h2
        have hd : s.days = ((s.days.toNat : Nat) : Int) := by omega
        have dm : ∀ k, k < s.moves.length → _ := fun k hk => by
          have := d k hk
          simp only [moveB, sideB, Bool.and_eq_true, Bool.or_eq_true, decide_eq_true_eq, inB_iff, toB_iff] at this
          exact this
        refine ⟨⟨⟨by show 0 < s.rooms.length; omega, by show s.rooms.length ≤ 3; omega, by show s.moves.length ≤ 12; omega, by show s.wgs.length ≤ 8; omega⟩, ⟨by show 1 ≤ s.days.toNat; omega, by show s.days.toNat ≤ 6; omega⟩, fun r hr => ?_, ⟨fun i hi => ?_, fun i hi => ?_, fun i hi => ?_, fun i hi => ?_, by show 0 < s.days.toNat; omega⟩, fun i hi => ?_, fun i hi => ?_⟩, hd⟩
        · have := c r hr
          simp only [roomB, Bool.and_eq_true, toB_iff] at this
          show 0 ≤ (gRm s.rooms r).fst.lo ∧ _
          exact ⟨this.1.1, this.1.2.1, this.1.2.2, this.2⟩
        · have := dm i hi
          show 0 ≤ (gMv s.moves i).day ∧ (gMv s.moves i).day < ((s.days.toNat : Nat) : Int)
          omega
        · have := dm i hi
          show -1 ≤ (gMv s.moves i).src ∧ (gMv s.moves i).src < (s.rooms.length : Int)
          omega
        · have := dm i hi
          show -1 ≤ (gMv s.moves i).dst ∧ (gMv s.moves i).dst < (s.rooms.length : Int)
          omega
        · exact (dm i hi).2.2.2.1
        · exact (dm i hi).2.2.2.2
        · have := e i hi
          simp only [wgB, Bool.and_eq_true, inB_iff, toB_iff] at this
          show 0 ≤ (gWg s.wgs i).room ∧ (gWg s.wgs i).room < (s.rooms.length : Int) ∧ 0 ≤ (gWg s.wgs i).day ∧ (gWg s.wgs i).day < ((s.days.toNat : Nat) : Int) ∧ _
          exact ⟨this.1.1, by omega, this.2.1.1, by omega, this.2.2⟩
      · cases h
  · rintro ⟨h, hd⟩
    have l1 : s.rooms.length ≤ 3 := h.len.2.1
    have l2 : s.moves.length ≤ 12 := h.len.2.2.1
    have l3 : s.wgs.length ≤ 8 := h.len.2.2.2
    have d1 := h.days
    rw [if_neg (fun e => by have := hb.1 e; omega)]
    have : goodWs s = true := by
      simp only [goodWs, Bool.and_eq_true, decide_eq_true_eq, allTo_iff, inB_iff]
      refine ⟨by have : 0 < s.rooms.length := h.len.1; omega, by omega, fun k hk => ?_, fun k hk => ?_, fun k hk => ?_⟩
      · have := h.rooms k hk
        simp only [roomB, Bool.and_eq_true, toB_iff]
        exact ⟨⟨this.1, this.2.1, this.2.2.1⟩, this.2.2.2⟩
      · have a := h.moves.day k hk
        have b := h.moves.src k hk
        have c := h.moves.dst k hk
        have d := h.moves.ne k hk
        have e := h.grams k hk
        have b' : -1 ≤ (gMv s.moves k).src ∧ (gMv s.moves k).src < (s.rooms.length : Int) := b
        have c' : -1 ≤ (gMv s.moves k).dst ∧ (gMv s.moves k).dst < (s.rooms.length : Int) := c
        have a' : 0 ≤ (gMv s.moves k).day ∧ (gMv s.moves k).day < (s.wo.days : Int) := a
        simp only [moveB, sideB, Bool.and_eq_true, Bool.or_eq_true, decide_eq_true_eq, inB_iff, toB_iff]
        exact ⟨by omega, by omega, by omega, d, e⟩
      · have a : 0 ≤ (gWg s.wgs k).room ∧ (gWg s.wgs k).room < (s.rooms.length : Int) ∧ 0 ≤ (gWg s.wgs k).day ∧ (gWg s.wgs k).day < (s.wo.days : Int) ∧ 0 ≤ (gWg s.wgs k).g.lo ∧ (gWg s.wgs k).g.lo ≤ (gWg s.wgs k).g.hi ∧ (gWg s.wgs k).g.hi ≤ 2000 := h.wgs k hk
        simp only [wgB, Bool.and_eq_true, inB_iff, toB_iff]
        exact ⟨by omega, by omega, a.2.2.2.2⟩
    rw [if_pos this]
theorem ckWs_cases (s : Ws) : ckWs s = 0 ∨ ckWs s = 1 ∨ ckWs s = 3 := by unfold ckWs; split <;> (try split) <;> simp

/-- how they lie. -/
def fRm (l : List Rm) : Nat → Nat → Value := fun k j => match j with | 0 => .int .i64 (gRm l k).fst.lo | 1 => .int .i64 (gRm l k).fst.hi | 2 => .int .i64 (gRm l k).vap.lo | _ => .int .i64 (gRm l k).vap.hi
def fMv (l : List Mv) : Nat → Nat → Value := fun k j => match j with | 0 => .int .i64 (gMv l k).day | 1 => .int .i64 (gMv l k).src | 2 => .int .i64 (gMv l k).dst | 3 => .int .i64 (gMv l k).g.lo | _ => .int .i64 (gMv l k).g.hi
def fWg (l : List Wg) : Nat → Nat → Value := fun k j => match j with | 0 => .int .i64 (gWg l k).room | 1 => .int .i64 (gWg l k).day | 2 => .int .i64 (gWg l k).g.lo | _ => .int .i64 (gWg l k).g.hi
section
variable {w : World} {B n : Nat} {A : Option Addr} {k : Nat}
theorem IsRms.at_ {l : List Rm} (h : SlAt w B 4 A n (fRm l)) (hk : k < n) :
    ∃ b off, A = some ⟨b, off, none⟩ ∧ b < B ∧ w.cell? ⟨b, off + k * 4, none⟩ = some (.int .i64 (gRm l k).fst.lo) ∧ w.cell? ⟨b, off + k * 4 + 1, none⟩ = some (.int .i64 (gRm l k).fst.hi) ∧ w.cell? ⟨b, off + k * 4 + 2, none⟩ = some (.int .i64 (gRm l k).vap.lo) ∧ w.cell? ⟨b, off + k * 4 + 3, none⟩ = some (.int .i64 (gRm l k).vap.hi) := by
  obtain ⟨b, off, e, hb, hc⟩ := h (by omega)
  exact ⟨b, off, e, hb, hc k 0 hk (by omega), hc k 1 hk (by omega), hc k 2 hk (by omega), hc k 3 hk (by omega)⟩
theorem IsMvs.at_ {l : List Mv} (h : SlAt w B 5 A n (fMv l)) (hk : k < n) :
    ∃ b off, A = some ⟨b, off, none⟩ ∧ b < B ∧ w.cell? ⟨b, off + k * 5, none⟩ = some (.int .i64 (gMv l k).day) ∧ w.cell? ⟨b, off + k * 5 + 1, none⟩ = some (.int .i64 (gMv l k).src) ∧ w.cell? ⟨b, off + k * 5 + 2, none⟩ = some (.int .i64 (gMv l k).dst) ∧ w.cell? ⟨b, off + k * 5 + 3, none⟩ = some (.int .i64 (gMv l k).g.lo) ∧ w.cell? ⟨b, off + k * 5 + 4, none⟩ = some (.int .i64 (gMv l k).g.hi) := by
  obtain ⟨b, off, e, hb, hc⟩ := h (by omega)
  exact ⟨b, off, e, hb, hc k 0 hk (by omega), hc k 1 hk (by omega), hc k 2 hk (by omega), hc k 3 hk (by omega), hc k 4 hk (by omega)⟩
theorem IsWgs.at_ {l : List Wg} (h : SlAt w B 4 A n (fWg l)) (hk : k < n) :
    ∃ b off, A = some ⟨b, off, none⟩ ∧ b < B ∧ w.cell? ⟨b, off + k * 4, none⟩ = some (.int .i64 (gWg l k).room) ∧ w.cell? ⟨b, off + k * 4 + 1, none⟩ = some (.int .i64 (gWg l k).day) ∧ w.cell? ⟨b, off + k * 4 + 2, none⟩ = some (.int .i64 (gWg l k).g.lo) ∧ w.cell? ⟨b, off + k * 4 + 3, none⟩ = some (.int .i64 (gWg l k).g.hi) := by
  obtain ⟨b, off, e, hb, hc⟩ := h (by omega)
  exact ⟨b, off, e, hb, hc k 0 hk (by omega), hc k 1 hk (by omega), hc k 2 hk (by omega), hc k 3 hk (by omega)⟩
end
/-- a works that lies in memory. -/
structure WsIn (w : World) (B : Nat) (s : Ws) (Ar Am Aw : Option Addr) : Prop where
  rooms : SlAt w B 4 Ar s.rooms.length (fRm s.rooms)
  moves : SlAt w B 5 Am s.moves.length (fMv s.moves)
  wgs : SlAt w B 4 Aw s.wgs.length (fWg s.wgs)
theorem WsIn.below {w w' : World} {B : Nat} {s : Ws} {Ar Am Aw : Option Addr} (h : WsIn w B s Ar Am Aw) (hb : Below B w w') : WsIn w' B s Ar Am Aw := ⟨h.rooms.below hb, h.moves.below hb, h.wgs.below hb⟩
theorem WsIn.up {w : World} {B B' : Nat} {s : Ws} {Ar Am Aw : Option Addr} (h : WsIn w B s Ar Am Aw) (hB : B ≤ B') : WsIn w B' s Ar Am Aw := ⟨h.rooms.up hB, h.moves.up hB, h.wgs.up hB⟩
theorem WsIn.go {w w' : World} {s : Ws} {Ar Am Aw : Option Addr} (h : WsIn w w.heap.size s Ar Am Aw) (hb : Below w.heap.size w w') : WsIn w' w'.heap.size s Ar Am Aw := (h.below hb).up hb.size
/-- lists that are not too long for the walks. -/
structure SmW (s : Ws) : Prop where
  rooms : s.rooms.length ≤ 1000000
  moves : s.moves.length ≤ 1000000
  wgs : s.wgs.length ≤ 1000000
theorem WoOk.sm {s : Ws} (h : WoOk s.wo) : SmW s := ⟨by have : s.rooms.length ≤ 3 := h.len.2.1; omega, by have : s.moves.length ≤ 12 := h.len.2.2.1; omega, by have : s.wgs.length ≤ 8 := h.len.2.2.2; omega⟩
end Go.Proofs.Ythihdiilokdidaa
end

section
namespace Go.Proofs.Ythihdiilokdidaa
open Go.RowKit

/-- n elements of sz cells each in a block of its own; none needs no block. -/
def RowAt (W : World) (B : Nat) (T : TypeId) (sz : Nat) (A : Option Addr) (n : Nat) (f : Nat → Nat → Value) : Prop :=
  n = 0 ∨ ∃ g cur, A = some ⟨g, 0, none⟩ ∧ B ≤ g ∧ Blk W g T cur ∧ ∀ k j, k < n → j < sz → cur[k * sz + j]? = some (f k j)
section
variable {W W' : World} {B sz n : Nat} {T : TypeId} {A : Option Addr} {f : Nat → Nat → Value}
theorem RowAt.sl (h : RowAt W B T sz A n f) : SlAt W W.heap.size sz A n f := fun hn => by
  rcases h with h | ⟨g, cur, e, _, hb, hc⟩
  · omega
  · exact ⟨g, 0, e, hb.lt, fun k j hk hj => by rw [Nat.zero_add, hb.cell]; exact hc k j hk hj⟩
theorem RowAt.below (h : RowAt W B T sz A n f) (hb : Below W.heap.size W W') : RowAt W' B T sz A n f := by
  rcases h with h | ⟨g, cur, e, h1, h2, h3⟩
  · exact .inl h
  · exact .inr ⟨g, cur, e, h1, h2.below hb h2.lt, h3⟩
theorem RowAt.base {B' : Nat} (h : RowAt W B T sz A n f) (hB : B' ≤ B) : RowAt W B' T sz A n f := by
  rcases h with h | ⟨g, cur, e, h1, h2, h3⟩
  · exact .inl h
  · exact .inr ⟨g, cur, e, by omega, h2, h3⟩
theorem RowAt.fr {R : Nat → Prop} (h : RowAt W B T sz A n f) (hf : Fr R W W') (hn : ∀ g, B ≤ g → g < W.heap.size → ¬ R g) : RowAt W' B T sz A n f := by
  rcases h with h | ⟨g, cur, e, h1, h2, h3⟩
  · exact .inl h
  · exact .inr ⟨g, cur, e, h1, h2.fr hf (hn g h1 h2.lt), h3⟩
theorem RowAt.grown {base m s1 : Nat} {T1 : TypeId} {v : Value} {xs : List Value} (h : RowAt W B T sz A n f) (hg : W.grownBy W' v.ownBlock) (ho : W.ownsRow base T1 s1 v m xs) (ht : T1 ≠ T) : RowAt W' B T sz A n f := by
  rcases h with h | ⟨g, cur, e, h1, h2, h3⟩
  · exact .inl h
  · exact .inr ⟨g, cur, e, h1, h2.grown hg (fun e2 => own_blkne ho h2 ht e2.symm), h3⟩
theorem RowAt.ext {f' : Nat → Nat → Value} (h : RowAt W B T sz A n f) (he : ∀ k j, k < n → j < sz → f k j = f' k j) : RowAt W B T sz A n f' := by
  rcases h with h | ⟨g, cur, e, h1, h2, h3⟩
  · exact .inl h
  · exact .inr ⟨g, cur, e, h1, h2, fun k j hk hj => by rw [← he k j hk hj]; exact h3 k j hk hj⟩
end
theorem own_row {α : Type} {c : α → List Value} {sz : Nat} (hc : ∀ a, (c a).length = sz) {W : World} {B : Nat} {T : TypeId} {v : Value} {l : List α} {f : Nat → Nat → Value} (hf : ∀ (k : Nat) (hk : k < l.length) (j : Nat), j < sz → (c l[k])[j]? = some (f k j))
    (h : W.ownsRow B T sz v l.length (l.flatMap c)) : ∃ A k, v = .slice A l.length k ∧ l.length ≤ k ∧ k ≤ maxLen ∧ RowAt W B T sz A l.length f := by
  rcases h.2 with ⟨rfl, h0⟩ | ⟨g, cap, cur, rfl, hb, hh, hn, hm, hs, hcc⟩
  · exact ⟨none, 0, by rw [h0], by omega, by unfold maxLen; omega, .inl h0⟩
  · refine ⟨_, cap, rfl, hn, hm, .inr ⟨g, cur, rfl, hb, hh, fun k j hk hj => ?_⟩⟩
    have h1 := (flat_get (f := c) hc hk hj).trans (hf k hk j hj)
    rw [← hcc, List.getElem?_take] at h1
    rw [← Array.getElem?_toList]
    by_cases hx : k * sz + j < l.length * sz
    · rwa [if_pos hx] at h1
    · rw [if_neg hx] at h1; cases h1
/-- elements in a row of the call's own, each with a row of its own. -/
structure NOwn {α : Type} (T1 : TypeId) (s1 : Nat) (T2 : TypeId) (s2 : Nat) (c : α → List Value) (A : α → Option Addr) (n : α → Nat) (f : α → Nat → Nat → Value) (W : World) (B : Nat) (v : Value) (X : List α) : Prop where
  own : W.ownsRow B T1 s1 v X.length (X.flatMap c)
  ins : ∀ x ∈ X, RowAt W B T2 s2 (A x) (n x) (f x)
section
variable {α : Type} {T1 T2 : TypeId} {s1 s2 : Nat} {c : α → List Value} {A : α → Option Addr} {n : α → Nat} {f : α → Nat → Nat → Value} {W W' : World} {B : Nat} {v : Value} {X : List α}
theorem NOwn.nil : NOwn T1 s1 T2 s2 c A n f W B (.slice none 0 0) [] := ⟨⟨by simp, .inl ⟨rfl, rfl⟩⟩, fun x hx => by cases hx⟩
theorem NOwn.below (h : NOwn T1 s1 T2 s2 c A n f W B v X) (hb : Below W.heap.size W W') : NOwn T1 s1 T2 s2 c A n f W' B v X := ⟨own_below h.own hb, fun x hx => (h.ins x hx).below hb⟩
theorem NOwn.lt (h : NOwn T1 s1 T2 s2 c A n f W B v X) {g : Nat} (hg : v.ownBlock = some g) : g < W.heap.size := by
  rcases h.own.2 with ⟨rfl, _⟩ | ⟨g', cap, cur, rfl, _, hh, _⟩
  · simp [Value.ownBlock] at hg
  · simp only [Value.ownBlock] at hg
    injection hg with hg
    rw [← hg]; exact (Array.getElem?_eq_some_iff.1 hh).1
theorem NOwn.fr {R : Nat → Prop} (h : NOwn T1 s1 T2 s2 c A n f W B v X) (hf : Fr R W W') (hn : ∀ g, B ≤ g → g < W.heap.size → ¬ R g) : NOwn T1 s1 T2 s2 c A n f W' B v X :=
  ⟨own_fr h.own hf (fun b hb => hn b (own_ge h.own hb) (h.lt hb)), fun x hx => (h.ins x hx).fr hf hn⟩
/-- a store into a block of another type. -/
theorem NOwn.set (h : NOwn T1 s1 T2 s2 c A n f W B v X) {b : Nat} {T : TypeId} {cs : Array Value} (hq : Blk W b T cs) (h1 : T1 ≠ T) (h2 : T2 ≠ T) (i : Nat) (u : Value) : NOwn T1 s1 T2 s2 c A n f (W.setCell ⟨b, i, none⟩ u) B v X := by
  have hF := Fr.set (R := fun x => x = b) W b i u rfl
  refine ⟨own_fr h.own hF (fun g hg e => own_blkne h.own hq h1 (by rw [hg, show g = b from e])), fun x hx => ?_⟩
  rcases h.ins x hx with h3 | ⟨g, cur, e, k1, k2, k3⟩
  · exact .inl h3
  · exact .inr ⟨g, cur, e, k1, k2.fr hF (blk_ne k2 hq h2), k3⟩
/-- behind an append. -/
theorem NOwn.push {v' : Value} {X' Y : List α} (h : NOwn T1 s1 T2 s2 c A n f W B v X) (hg : W.grownBy W' v.ownBlock) (ht : T1 ≠ T2) (hX : X' = X ++ Y) (ho : W'.ownsRow B T1 s1 v' X'.length (X'.flatMap c)) (hY : ∀ y ∈ Y, RowAt W B T2 s2 (A y) (n y) (f y)) : NOwn T1 s1 T2 s2 c A n f W' B v' X' := by
  refine ⟨ho, fun x hx => ?_⟩
  rw [hX] at hx
  rcases List.mem_append.1 hx with h1 | h1
  · exact (h.ins x h1).grown hg h.own ht
  · exact (hY x h1).grown hg h.own ht
end
end Go.Proofs.Ythihdiilokdidaa
end

section
namespace Go.Proofs.Ythihdiilokdidaa
open Go.RowKit
attribute [local go_sem] Ex.cell? Ex.frozen? Gx.cell?

theorem within_any (n lo hi : Int) (w : World) :
    Calls Try.prog 66 #[.int .i64 n, .int .i64 lo, .int .i64 hi] w fun e w' => e = .returned (.bool (inB n lo hi)) ∧ w = w' := by
  by_cases h1 : lo ≤ n
  · by_cases h2 : n ≤ hi
    · go_enter Try.func66, Try.ntmps66
      go_wp2
      go_ret
      simp [inB, h1, h2]
    · have h2' : decide (n ≤ hi) = false := by simpa using h2
      go_enter Try.func66, Try.ntmps66
      go_wp2
      go_ret
      simp [inB, h1, h2]
  · have h1' : decide (lo ≤ n) = false := by simpa using h1
    go_enter Try.func66, Try.ntmps66
    go_wp2
    go_ret
    exact ⟨by rw [inB, h1']; rfl, rfl⟩
theorem has_any (lo hi n : Int) (w : World) :
    Calls Try.prog 96 #[.agg #[.int .i64 lo, .int .i64 hi], .int .i64 n] w fun e w' => e = .returned (.bool (inB n lo hi)) ∧ Below w.heap.size w w' := by
  go_enter Try.func96, Try.ntmps96
  go_wp2_with (go_at_call 66; refine (within_any _ _ _ _).mono ?_; rintro e w' ⟨rfl, rfl⟩)
  go_ret
  exact ⟨rfl, ex_alloc (Below.refl _ _) _⟩
/-- the least of the first so many numbers of a list. -/
def mnTo (xs : List Int) : Nat → Int
  | 0 => gI xs 0
  | n + 1 => min (mnTo xs n) (gI xs n)
set_option maxHeartbeats 400000 in
theorem min_any (A : Option Addr) (c B n : Nat) (xs : List Int) (w : World) (h1 : 1 ≤ n) (hl : n ≤ 1000000) (hA : SlAt w B 1 A n (fI xs)) :
    Calls Try.prog 132 #[.slice A n c] w fun e w' => e = .returned (.int .i64 (mnTo xs n)) ∧ w = w' := by
  obtain ⟨b, off, rfl, hb, hc⟩ := hA (by omega)
  have hc0 : w.cell? ⟨b, off, none⟩ = some (.int .i64 (gI xs 0)) := by simpa [fI] using hc 0 0 (by omega) (by omega)
  have hc : ∀ k, k < n → w.cell? ⟨b, off + k, none⟩ = some (.int .i64 (gI xs k)) := fun k hk => by simpa [fI] using hc k 0 hk (by omega)
  go_enter Try.func132, Try.ntmps132
  go_wp2
  go_loop [3, 4] (fun m i => ∃ k : Nat, 1 ≤ k ∧ k ≤ n ∧ i = .int .i64 k ∧ m = .int .i64 (mnTo xs k)) (fun _ i => n - (intOf i).toNat)
  case atStart => exact ⟨1, by omega, by omega, rfl, by simp [mnTo]⟩
  case round =>
    obtain ⟨k, hk1, hk, rfl, rfl⟩ := hrel
    by_cases hlt : k < n
    · have hcell := hc k hlt
      go_wp2
      go_round
      case rel => exact ⟨k + 1, by omega, by omega, by go_num, by simp only [mnTo]; congr 1; split <;> omega⟩
      case measure => simp [intOf]; omega
    · have : k = n := by omega
      subst this
      go_wp2
      go_ret
      exact ⟨rfl, rfl⟩
theorem least_any (A : Option Addr) (c B n : Nat) (xs : List Int) (w : World) (h1 : 1 ≤ n) (hl : n ≤ 1000000) (hA : SlAt w B 1 A n (fI xs)) :
    Calls Try.prog 121 #[.slice A n c] w fun e w' => e = .returned (.int .i64 (mnTo xs n)) ∧ w = w' := by
  go_enter Try.func121, Try.ntmps121
  go_wp2_with (go_at_call 132; refine (min_any _ _ _ _ _ _ h1 hl hA).mono ?_; rintro e w' ⟨rfl, rfl⟩)
  go_ret
  exact ⟨rfl, rfl⟩
theorem least2 (b c : Nat) (x y : Int) (w : World) (h0 : w.cell? ⟨b, 0, none⟩ = some (.int .i64 x)) (h1 : w.cell? ⟨b, 1, none⟩ = some (.int .i64 y)) :
    Calls Try.prog 121 #[.slice (some ⟨b, 0, none⟩) 2 c] w fun e w' => e = .returned (.int .i64 (min x y)) ∧ w = w' := by
  refine (least_any _ c (b + 1) 2 [x, y] w (by omega) (by omega) (fun _ => ⟨b, 0, rfl, by omega, fun k j hk hj => ?_⟩)).mono ?_
  · obtain rfl : j = 0 := by omega
    match k, hk with
    | 0, _ => simpa [fI, gI] using h0
    | 1, _ => simpa [fI, gI] using h1
  · rintro e w' ⟨rfl, rfl⟩
    refine ⟨?_, rfl⟩
    simp [mnTo, gI]
theorem toR_any (lo hi high : Int) (w : World) :
    Calls Try.prog 64 #[.agg #[.int .i64 lo, .int .i64 hi], .int .i64 high] w fun e w' => e = .returned (.bool (toB lo hi high)) ∧ Below w.heap.size w w' := by
  by_cases h1 : 0 ≤ lo
  · by_cases h2 : lo ≤ hi
    · by_cases h3 : hi ≤ high
      · rw [show toB lo hi high = true by simp [toB, h1, h2, h3]]
        go_enter Try.func64, Try.ntmps64
        go_wp2
        go_ret
        exact ⟨rfl, ex_alloc (Below.refl _ _) _⟩
      · rw [show toB lo hi high = false by simp [toB, h1, h2, h3]]
        have h3' : decide (hi ≤ high) = false := by simpa using h3
        go_enter Try.func64, Try.ntmps64
        go_wp2
        go_ret
        exact ⟨rfl, ex_alloc (Below.refl _ _) _⟩
    · rw [show toB lo hi high = false by simp [toB, h1, h2]]
      have h2' : decide (lo ≤ hi) = false := by simpa using h2
      go_enter Try.func64, Try.ntmps64
      go_wp2
      go_ret
      exact ⟨rfl, ex_alloc (Below.refl _ _) _⟩
  · rw [show toB lo hi high = false by simp [toB, h1]]
    have h1' : decide (0 ≤ lo) = false := by simpa using h1
    go_enter Try.func64, Try.ntmps64
    go_wp2
    go_ret
    exact ⟨rfl, ex_alloc (Below.refl _ _) _⟩
theorem roomV_any (r : Rm) (w : World) :
    Calls Try.prog 88 #[.agg #[.int .i64 r.fst.lo, .int .i64 r.fst.hi, .int .i64 r.vap.lo, .int .i64 r.vap.hi]] w fun e w' => e = .returned (.bool (roomB r)) ∧ Below w.heap.size w w' := by
  have hb1 := ex_alloc (Below.refl w.heap.size w) (.cells #[.int .i64 r.fst.lo, .int .i64 r.fst.hi, .int .i64 r.vap.lo, .int .i64 r.vap.hi] 126)
  have q1 : Blk (w.alloc (.cells #[.int .i64 r.fst.lo, .int .i64 r.fst.hi, .int .i64 r.vap.lo, .int .i64 r.vap.hi] 126)) w.heap.size 126 #[.int .i64 r.fst.lo, .int .i64 r.fst.hi, .int .i64 r.vap.lo, .int .i64 r.vap.hi] := Blk.new _ _ _
  unfold roomB
  go_enter Try.func88, Try.ntmps88
  go_wp2_with fail
  refine (toR_any _ _ _ _).mono ?_
  rintro e w2 ⟨rfl, hb2⟩
  have c2 := (q1.below hb2 q1.lt).cell 2
  have c3 := (q1.below hb2 q1.lt).cell 3
  have l2 := (q1.below hb2 q1.lt).lt
  cases h1 : toB r.fst.lo r.fst.hi 2000
  · go_wp2
    go_ret
    exact ⟨by rw [h1]; rfl, ex_trans hb1 hb2⟩
  · go_wp2_with fail
    refine (toR_any _ _ _ _).mono ?_
    rintro e w3 ⟨rfl, hb3⟩
    go_wp2
    go_ret
    exact ⟨by rw [h1]; rfl, ex_trans (ex_trans hb1 hb2) hb3⟩
set_option maxRecDepth 100000 in
theorem roomN_any (s : Ws) (Ar Am Aw : Option Addr) (cr cm cw : Nat) (n : Int) (w : World) (hr : s.rooms.length ≤ 1000000) :
    Calls Try.prog 83 #[.agg #[.slice Ar s.rooms.length cr, .int .i64 s.days, .slice Am s.moves.length cm, .slice Aw s.wgs.length cw], .int .i64 n] w fun e w' => e = .returned (.bool (inB n 0 ((s.rooms.length : Int) - 1))) ∧ Below w.heap.size w w' := by
  have w1 : IntKind.i64.wrap ((s.rooms.length : Int) - 1) = (s.rooms.length : Int) - 1 := IntWalk.i64_in _ (by omega)
  go_enter Try.func83, Try.ntmps83
  go_wp2_with (go_at_call 66; refine (within_any _ _ _ _).mono ?_; rintro e w' ⟨rfl, rfl⟩)
  go_ret
  exact ⟨rfl, ex_alloc (Below.refl _ _) _⟩
set_option maxRecDepth 100000 in
theorem dayN_any (s : Ws) (Ar Am Aw : Option Addr) (cr cm cw : Nat) (n : Int) (w : World) (hd : 1 ≤ s.days ∧ s.days ≤ 6) :
    Calls Try.prog 84 #[.agg #[.slice Ar s.rooms.length cr, .int .i64 s.days, .slice Am s.moves.length cm, .slice Aw s.wgs.length cw], .int .i64 n] w fun e w' => e = .returned (.bool (inB n 0 (s.days - 1))) ∧ Below w.heap.size w w' := by
  have w1 : IntKind.i64.wrap (s.days - 1) = s.days - 1 := IntWalk.i64_in _ (by omega)
  go_enter Try.func84, Try.ntmps84
  go_wp2_with (go_at_call 66; refine (within_any _ _ _ _).mono ?_; rintro e w' ⟨rfl, rfl⟩)
  go_ret
  exact ⟨rfl, ex_alloc (Below.refl _ _) _⟩
set_option maxRecDepth 100000 in
theorem outside_any (w : World) : Calls Try.prog 126 #[] w fun e w' => e = .returned (.agg #[.int .i64 (-1), .int .i64 0]) ∧ Below w.heap.size w w' := by
  go_enter Try.func126, Try.ntmps126
  go_wp2_with fail
  refine bodyPost_ret (results_cell_row rfl _ _ w.heap.size 169 #[.int .i64 (-1), .int .i64 0] (0, 0) _ rfl (Blk.new _ _ _) rfl rfl rfl) rfl ?_
  exact ⟨rfl, ex_alloc (Below.refl _ _) _⟩
def cSp (s : Spot) : Value := .agg #[.int .i64 s.1, .int .i64 s.2]
set_option maxRecDepth 100000 in
theorem at_any (r d : Int) (w : World) : Calls Try.prog 127 #[.int .i64 r, .int .i64 d] w fun e w' => e = .returned (cSp (atS r d)) ∧ Below w.heap.size w w' := by
  have hb1 := ex_alloc (Below.refl w.heap.size w) (.cells #[.int .i64 0, .int .i64 0] 169)
  have q1 : Blk (w.alloc (.cells #[.int .i64 0, .int .i64 0] 169)) w.heap.size 169 #[.int .i64 0, .int .i64 0] := Blk.new _ _ _
  unfold cSp atS
  by_cases h : r = -1
  · subst h
    rw [if_pos rfl]
    go_enter Try.func127, Try.ntmps127
    go_wp2_with fail
    generalize w.alloc (.cells #[.int .i64 0, .int .i64 0] 169) = V at *
    refine (outside_any V).mono ?_
    rintro e V2 ⟨rfl, hb2⟩
    have q2 := q1.below hb2 q1.lt
    have f2 := q2.frozen0
    have l2 := q2.lt
    have c0 := q2.cell 0
    have c1 := q2.cell 1
    have q3 := (q2.set_ 0 (.int .i64 (-1))).set_ 1 (.int .i64 0)
    simp only [List.setIfInBounds_toArray, List.set_cons_zero, List.set_cons_succ] at q3
    go_wp2_with fail
    refine bodyPost_ret (results_cell_row rfl _ _ w.heap.size 169 #[.int .i64 (-1), .int .i64 0] (0, 0) _ rfl q3 rfl rfl rfl) rfl ?_
    exact ⟨rfl, ex_set (p := ⟨w.heap.size, 1, none⟩) (ex_set (p := ⟨w.heap.size, 0, none⟩) (ex_trans hb1 hb2) (Nat.le_refl _) _) (Nat.le_refl _) _⟩
  · rw [if_neg h]
    go_enter Try.func127, Try.ntmps127
    go_wp2_with fail
    refine bodyPost_ret (results_cell_row rfl _ _ w.heap.size 169 #[.int .i64 r, .int .i64 d] (0, 0) _ rfl (Blk.new _ _ _) rfl rfl rfl) rfl ?_
    exact ⟨rfl, ex_alloc (Below.refl _ _) _⟩
theorem results_cc_row {P : Program} {fn : Func} {p q : Tmp} {ty tz : TypeId} (h : fn.results = #[.cell p ty, .cell q tz]) (tmps : Array Value) (w : World) (g g' : Nat) (ty' tz' : TypeId) (cs cs' : Array Value) (fr fr' : Nat × Nat) (d d' : TypeDesc)
    (hp : tmps.getD p undef = .pointer (some ⟨g, 0, none⟩)) (hg : w.heap[g]? = some (.cells cs ty' fr)) (hq : tmps.getD q undef = .pointer (some ⟨g', 0, none⟩)) (hg' : w.heap[g']? = some (.cells cs' tz' fr'))
    (hu : P.underlying ty = some d) (hd : (match d with | .struct _ | .array _ _ => true | _ => false) = true) (hi : (P.info? ty).map (·.size) = some cs.size)
    (hu' : P.underlying tz = some d') (hd' : (match d' with | .struct _ | .array _ _ => true | _ => false) = true) (hi' : (P.info? tz).map (·.size) = some cs'.size) :
    (results fn tmps).run P w = .ok (.tuple #[.agg cs, .agg cs']) w := by
  have hp' : tmps[p]?.getD undef = .pointer (some ⟨g, 0, none⟩) := by simpa using hp
  have hq' : tmps[q]?.getD undef = .pointer (some ⟨g', 0, none⟩) := by simpa using hq
  simp [results, h, hp', hq', asAddr, run_loadVar_row w g ty' ty cs fr d hg hu hd hi, run_loadVar_row w g' tz' tz cs' fr' d' hg' hu' hd' hi']
theorem grown_set2 (W : World) (b : Nat) (x y : Value) : W.grownBy ((W.setCell ⟨b, 0, none⟩ x).setCell ⟨b, 1, none⟩ y).drew (some b) := ⟨rfl, rfl, rfl, by show W.heap.size ≤ ((W.setCell ⟨b, 0, none⟩ x).setCell ⟨b, 1, none⟩ y).heap.size; simp, fun k _ hne => (Below.heap_setCell _ ⟨b, 1, none⟩ y k (fun e => hne (by rw [e]))).trans (Below.heap_setCell W ⟨b, 0, none⟩ x k (fun e => hne (by rw [e])))⟩
theorem half_n {lo hi : Int} (h0 : 0 ≤ lo + hi) : (lo + hi).tdiv 2 = (lo + hi) / 2 := Int.tdiv_eq_ediv_of_nonneg h0
set_option maxRecDepth 100000 in
theorem lower_any (lo hi : Int) (w : World) (h : 0 ≤ lo ∧ 0 ≤ hi ∧ lo ≤ 2000000 ∧ hi ≤ 2000000) :
    Calls Try.prog 98 #[.agg #[.int .i64 lo, .int .i64 hi]] w fun e w' => e = .returned (.tuple #[.agg #[.int .i64 (halfA false ⟨lo, hi⟩).lo, .int .i64 (halfA false ⟨lo, hi⟩).hi], .agg #[.int .i64 (halfB false ⟨lo, hi⟩).lo, .int .i64 (halfB false ⟨lo, hi⟩).hi]]) ∧ Below w.heap.size w w' := by
  have hb1 := ex_alloc (ex_alloc (ex_alloc (Below.refl w.heap.size w) (.cells #[.int .i64 lo, .int .i64 hi] 50)) (.cells #[.int .i64 0, .int .i64 0] 50)) (.cells #[.int .i64 0, .int .i64 0] 50)
  have w1 : IntKind.i64.wrap (lo + hi) = lo + hi := IntWalk.i64_in _ (by omega)
  have w2 : (lo + hi).tdiv 2 = (lo + hi) / 2 := half_n (by omega)
  have w3 : IntKind.i64.wrap ((lo + hi) / 2) = (lo + hi) / 2 := IntWalk.i64_in _ (by omega)
  have w4 : IntKind.i64.wrap ((lo + hi) / 2 + 1) = (lo + hi) / 2 + 1 := IntWalk.i64_in _ (by omega)
  have q1 : Blk (((w.alloc (.cells #[.int .i64 lo, .int .i64 hi] 50)).alloc (.cells #[.int .i64 0, .int .i64 0] 50)).alloc (.cells #[.int .i64 0, .int .i64 0] 50)) w.heap.size 50 #[.int .i64 lo, .int .i64 hi] := ((Blk.new _ _ _).alloc _).alloc _
  have q2 : Blk (((w.alloc (.cells #[.int .i64 lo, .int .i64 hi] 50)).alloc (.cells #[.int .i64 0, .int .i64 0] 50)).alloc (.cells #[.int .i64 0, .int .i64 0] 50)) (w.heap.size + 1) 50 #[.int .i64 0, .int .i64 0] := (Blk.new' _ _ _ (by simp)).alloc _
  have q3 : Blk (((w.alloc (.cells #[.int .i64 lo, .int .i64 hi] 50)).alloc (.cells #[.int .i64 0, .int .i64 0] 50)).alloc (.cells #[.int .i64 0, .int .i64 0] 50)) (w.heap.size + 1 + 1) 50 #[.int .i64 0, .int .i64 0] := Blk.new' _ _ _ (by simp)
  go_enter Try.func98, Try.ntmps98
  go_upto_region 2 with fail
  generalize ((w.alloc (.cells #[.int .i64 lo, .int .i64 hi] 50)).alloc (.cells #[.int .i64 0, .int .i64 0] 50)).alloc (.cells #[.int .i64 0, .int .i64 0] 50) = V at *
  obtain ⟨p1, hp1⟩ : ∃ p, w.heap.size = p := ⟨_, rfl⟩
  have hp : w.heap.size ≤ p1 := by omega
  rw [hp1] at q1 q2 q3 ⊢
  clear hp1
  have c0 : V.cell? ⟨p1, 0, none⟩ = some (.int .i64 lo) := q1.cell 0
  have c1 : V.cell? ⟨p1, 1, none⟩ = some (.int .i64 hi) := q1.cell 1
  have l1 := q1.lt
  have n1 : ¬ some p1 = some (p1 + 1) := by simp
  have l2 := q2.lt
  have d0 : V.cell? ⟨p1 + 1, 0, none⟩ = some (.int .i64 0) := q2.cell 0
  have d1 : V.cell? ⟨p1 + 1, 1, none⟩ = some (.int .i64 0) := q2.cell 1
  have f2 := q2.frozen0
  refine wp_region_gx_mix (some (p1 + 1)) 10 [(false, 0), (false, 1), (false, 2), (false, 3), (false, 4), (false, 5), (false, 6), (false, 7), (false, 8), (true, 9)] (by kernel_rfl) (by kernel_rfl) (by intro d _ _ _ _ h; cases d <;> exact h) ?_
  repeat (refine mix_quiet rfl ?_; go_big_quiet_step (fail); refine wpQuiet_nil ?_)
  refine mix_loud rfl ?_
  go_wp2_with fail
  refine ⟨inGx (grown_set2 V (p1 + 1) _ _), ?_⟩
  have r2 : Blk ((V.setCell ⟨p1 + 1, 0, none⟩ (.int .i64 lo)).setCell ⟨p1 + 1, 1, none⟩ (.int .i64 ((lo + hi) / 2))).drew (p1 + 1) 50 #[.int .i64 lo, .int .i64 ((lo + hi) / 2)] := by
    have z := ((q2.set_ 0 (.int .i64 lo)).set_ 1 (.int .i64 ((lo + hi) / 2))).drew
    simpa only [List.setIfInBounds_toArray, List.set_cons_zero, List.set_cons_succ] using z
  have r3 : Blk ((V.setCell ⟨p1 + 1, 0, none⟩ (.int .i64 lo)).setCell ⟨p1 + 1, 1, none⟩ (.int .i64 ((lo + hi) / 2))).drew (p1 + 1 + 1) 50 #[.int .i64 0, .int .i64 0] := (q3.far (p := ⟨p1 + 1, 0, none⟩) (by show p1 + 1 + 1 ≠ p1 + 1; omega) _).far (p := ⟨p1 + 1, 1, none⟩) (by show p1 + 1 + 1 ≠ p1 + 1; omega) _
  have hb2 : Below w.heap.size w ((V.setCell ⟨p1 + 1, 0, none⟩ (.int .i64 lo)).setCell ⟨p1 + 1, 1, none⟩ (.int .i64 ((lo + hi) / 2))).drew := (ex_set (p := ⟨p1 + 1, 1, none⟩) (ex_set (p := ⟨p1 + 1, 0, none⟩) hb1 (by show w.heap.size ≤ p1 + 1; omega) _) (by show w.heap.size ≤ p1 + 1; omega) _).drew
  clear q1 q2 q3 c0 c1 l1 d0 d1 f2 l2
  generalize ((V.setCell ⟨p1 + 1, 0, none⟩ (.int .i64 lo)).setCell ⟨p1 + 1, 1, none⟩ (.int .i64 ((lo + hi) / 2))).drew = V2 at *
  have l3 := r3.lt
  have d0 : V2.cell? ⟨p1 + 1 + 1, 0, none⟩ = some (.int .i64 0) := r3.cell 0
  have d1 : V2.cell? ⟨p1 + 1 + 1, 1, none⟩ = some (.int .i64 0) := r3.cell 1
  have f3 := r3.frozen0
  have s2 : Blk ((V2.setCell ⟨p1 + 1 + 1, 0, none⟩ (.int .i64 ((lo + hi) / 2 + 1))).setCell ⟨p1 + 1 + 1, 1, none⟩ (.int .i64 hi)) (p1 + 1) 50 #[.int .i64 lo, .int .i64 ((lo + hi) / 2)] := (r2.far (p := ⟨p1 + 1 + 1, 0, none⟩) (by show p1 + 1 ≠ p1 + 1 + 1; omega) _).far (p := ⟨p1 + 1 + 1, 1, none⟩) (by show p1 + 1 ≠ p1 + 1 + 1; omega) _
  have s3 := (r3.set_ 0 (.int .i64 ((lo + hi) / 2 + 1))).set_ 1 (.int .i64 hi)
  simp only [List.setIfInBounds_toArray, List.set_cons_zero, List.set_cons_succ] at s3
  have hb3 := ex_set (p := ⟨p1 + 1 + 1, 1, none⟩) (ex_set (p := ⟨p1 + 1 + 1, 0, none⟩) hb2 (by show w.heap.size ≤ p1 + 1 + 1; omega) (.int .i64 ((lo + hi) / 2 + 1))) (by show w.heap.size ≤ p1 + 1 + 1; omega) (.int .i64 hi)
  clear r2 r3
  refine mix_nil rfl ?_
  go_wp2_with fail
  refine bodyPost_ret (results_cc_row rfl _ _ (p1 + 1) (p1 + 1 + 1) 50 50 _ _ (0, 0) (0, 0) _ _ rfl s2 rfl s3 rfl rfl rfl rfl rfl rfl) rfl ?_
  exact ⟨rfl, hb3⟩
set_option maxRecDepth 100000 in
set_option maxHeartbeats 3200000 in
theorem upper_any (lo hi : Int) (w : World) (h : 0 ≤ lo ∧ 0 ≤ hi ∧ lo ≤ 2000000 ∧ hi ≤ 2000000) :
    Calls Try.prog 99 #[.agg #[.int .i64 lo, .int .i64 hi]] w fun e w' => e = .returned (.tuple #[.agg #[.int .i64 (halfA true ⟨lo, hi⟩).lo, .int .i64 (halfA true ⟨lo, hi⟩).hi], .agg #[.int .i64 (halfB true ⟨lo, hi⟩).lo, .int .i64 (halfB true ⟨lo, hi⟩).hi]]) ∧ Below w.heap.size w w' := by
  have hb1 := ex_alloc (ex_alloc (ex_alloc (Below.refl w.heap.size w) (.cells #[.int .i64 lo, .int .i64 hi] 50)) (.cells #[.int .i64 0, .int .i64 0] 50)) (.cells #[.int .i64 0, .int .i64 0] 50)
  have q2 : Blk (((w.alloc (.cells #[.int .i64 lo, .int .i64 hi] 50)).alloc (.cells #[.int .i64 0, .int .i64 0] 50)).alloc (.cells #[.int .i64 0, .int .i64 0] 50)) (w.heap.size + 1) 50 #[.int .i64 0, .int .i64 0] := (Blk.new' _ _ _ (by simp)).alloc _
  have q3 : Blk (((w.alloc (.cells #[.int .i64 lo, .int .i64 hi] 50)).alloc (.cells #[.int .i64 0, .int .i64 0] 50)).alloc (.cells #[.int .i64 0, .int .i64 0] 50)) (w.heap.size + 1 + 1) 50 #[.int .i64 0, .int .i64 0] := Blk.new' _ _ _ (by simp)
  go_enter Try.func99, Try.ntmps99
  go_wp2_with fail
  generalize ((w.alloc (.cells #[.int .i64 lo, .int .i64 hi] 50)).alloc (.cells #[.int .i64 0, .int .i64 0] 50)).alloc (.cells #[.int .i64 0, .int .i64 0] 50) = V at *
  have hq3 := q3.lt
  refine (lower_any lo hi V h).mono ?_
  rintro e U ⟨rfl, hX⟩
  replace q2 := q2.below hX q2.lt
  replace q3 := q3.below hX q3.lt
  have hb2 := ex_trans hb1 hX
  go_upto_region 2 with fail
  have u1 : Blk ((U.alloc (.cells #[.int .i64 lo, .int .i64 ((lo + hi) / 2)] 50)).alloc (.cells #[.int .i64 ((lo + hi) / 2 + 1), .int .i64 hi] 50)) U.heap.size 50 #[.int .i64 lo, .int .i64 ((lo + hi) / 2)] := (Blk.new _ _ _).alloc _
  have u2 : Blk ((U.alloc (.cells #[.int .i64 lo, .int .i64 ((lo + hi) / 2)] 50)).alloc (.cells #[.int .i64 ((lo + hi) / 2 + 1), .int .i64 hi] 50)) (U.heap.size + 1) 50 #[.int .i64 ((lo + hi) / 2 + 1), .int .i64 hi] := Blk.new' _ _ _ (by simp)
  have hX2 := ex_alloc (ex_alloc (Below.refl U.heap.size U) (.cells #[.int .i64 lo, .int .i64 ((lo + hi) / 2)] 50)) (.cells #[.int .i64 ((lo + hi) / 2 + 1), .int .i64 hi] 50)
  replace q2 := q2.below hX2 q2.lt
  replace q3 := q3.below hX2 q3.lt
  have hb3 := ex_trans hb2 hX2
  have hz : w.heap.size + 1 + 1 < U.heap.size := by have h2 := hX.size; have h1 : w.heap.size + 1 + 1 < V.heap.size := hq3; omega
  show Code.wp _ _ _ _ ((U.alloc (.cells #[.int .i64 lo, .int .i64 ((lo + hi) / 2)] 50)).alloc (.cells #[.int .i64 ((lo + hi) / 2 + 1), .int .i64 hi] 50))
  generalize (U.alloc (.cells #[.int .i64 lo, .int .i64 ((lo + hi) / 2)] 50)).alloc (.cells #[.int .i64 ((lo + hi) / 2 + 1), .int .i64 hi] 50) = V3 at *
  obtain ⟨p2, hp2⟩ : ∃ p, w.heap.size + 1 = p := ⟨_, rfl⟩
  have hp : w.heap.size ≤ p2 := by omega
  obtain ⟨pa, hpa⟩ : ∃ p, U.heap.size = p := ⟨_, rfl⟩
  rw [hp2] at q2 q3 hz ⊢
  rw [hpa] at u1 u2 hz ⊢
  clear hpa hp2
  have c0 : V3.cell? ⟨pa, 0, none⟩ = some (.int .i64 lo) := u1.cell 0
  have c1 : V3.cell? ⟨pa, 1, none⟩ = some (.int .i64 ((lo + hi) / 2)) := u1.cell 1
  have e0 : V3.cell? ⟨pa + 1, 0, none⟩ = some (.int .i64 ((lo + hi) / 2 + 1)) := u2.cell 0
  have e1 : V3.cell? ⟨pa + 1, 1, none⟩ = some (.int .i64 hi) := u2.cell 1
  have l1 := u1.lt
  have l2 := u2.lt
  have n1 : ¬ some pa = some p2 := by simp; omega
  have n2 : ¬ some (pa + 1) = some p2 := by simp; omega
  have d0 : V3.cell? ⟨p2, 0, none⟩ = some (.int .i64 0) := q2.cell 0
  have d1 : V3.cell? ⟨p2, 1, none⟩ = some (.int .i64 0) := q2.cell 1
  have f2 := q2.frozen0
  have l3 := q2.lt
  refine wp_region_gx_mix (some p2) 3 [(false, 0), (false, 1), (true, 2)] (by kernel_rfl) (by kernel_rfl) (by intro d _ _ _ _ h; cases d <;> exact h) ?_
  repeat (refine mix_quiet rfl ?_; go_big_quiet_step (fail); refine wpQuiet_nil ?_)
  refine mix_loud rfl ?_
  go_wp2_with fail
  refine ⟨inGx (grown_set2 V3 p2 _ _), ?_⟩
  have r2 : Blk (((V3.setCell ⟨p2, 0, none⟩ (.int .i64 ((lo + hi) / 2 + 1))).setCell ⟨p2, 1, none⟩ (.int .i64 hi)).drew) p2 50 #[.int .i64 ((lo + hi) / 2 + 1), .int .i64 hi] := by
    have z := ((q2.set_ 0 (.int .i64 ((lo + hi) / 2 + 1))).set_ 1 (.int .i64 hi)).drew
    simpa only [List.setIfInBounds_toArray, List.set_cons_zero, List.set_cons_succ] using z
  have r3 : Blk (((V3.setCell ⟨p2, 0, none⟩ (.int .i64 ((lo + hi) / 2 + 1))).setCell ⟨p2, 1, none⟩ (.int .i64 hi)).drew) (p2 + 1) 50 #[.int .i64 0, .int .i64 0] := (q3.far (p := ⟨p2, 0, none⟩) (by show p2 + 1 ≠ p2; omega) _).far (p := ⟨p2, 1, none⟩) (by show p2 + 1 ≠ p2; omega) _
  have hb4 : Below w.heap.size w (((V3.setCell ⟨p2, 0, none⟩ (.int .i64 ((lo + hi) / 2 + 1))).setCell ⟨p2, 1, none⟩ (.int .i64 hi)).drew) := (ex_set (p := ⟨p2, 1, none⟩) (ex_set (p := ⟨p2, 0, none⟩) hb3 hp _) hp _).drew
  clear q2 q3 c0 c1 e0 e1 d0 d1 f2 l1 l2 l3
  generalize ((V3.setCell ⟨p2, 0, none⟩ (.int .i64 ((lo + hi) / 2 + 1))).setCell ⟨p2, 1, none⟩ (.int .i64 hi)).drew = V4 at *
  have l3 := r3.lt
  have d0 : V4.cell? ⟨p2 + 1, 0, none⟩ = some (.int .i64 0) := r3.cell 0
  have d1 : V4.cell? ⟨p2 + 1, 1, none⟩ = some (.int .i64 0) := r3.cell 1
  have f3 := r3.frozen0
  have s2 : Blk ((V4.setCell ⟨p2 + 1, 0, none⟩ (.int .i64 lo)).setCell ⟨p2 + 1, 1, none⟩ (.int .i64 ((lo + hi) / 2))) p2 50 #[.int .i64 ((lo + hi) / 2 + 1), .int .i64 hi] := (r2.far (p := ⟨p2 + 1, 0, none⟩) (by show p2 ≠ p2 + 1; omega) _).far (p := ⟨p2 + 1, 1, none⟩) (by show p2 ≠ p2 + 1; omega) _
  have s3 := (r3.set_ 0 (.int .i64 lo)).set_ 1 (.int .i64 ((lo + hi) / 2))
  simp only [List.setIfInBounds_toArray, List.set_cons_zero, List.set_cons_succ] at s3
  have hb5 := ex_set (p := ⟨p2 + 1, 1, none⟩) (ex_set (p := ⟨p2 + 1, 0, none⟩) hb4 (by show w.heap.size ≤ p2 + 1; omega) (.int .i64 lo)) (by show w.heap.size ≤ p2 + 1; omega) (.int .i64 ((lo + hi) / 2))
  clear r2 r3
  refine mix_nil rfl ?_
  go_wp2_with fail
  refine bodyPost_ret (results_cc_row rfl _ _ p2 (p2 + 1) 50 50 _ _ (0, 0) (0, 0) _ _ rfl s2 rfl s3 rfl rfl rfl rfl rfl rfl) rfl ?_
  exact ⟨rfl, hb5⟩
end Go.Proofs.Ythihdiilokdidaa
end

section
namespace Go.Proofs.Ythihdiilokdidaa
open Go.RowKit
/-- a row of n values that one reads by their places. -/
def VArr (W : World) (q : Nat) (T : TypeId) (n : Nat) (g : Nat → Value) : Prop := ∃ cs, Blk W q T cs ∧ cs.size = n ∧ ∀ i, i < n → cs[i]? = some (g i)
section
variable {W W' : World} {q n : Nat} {T : TypeId} {g : Nat → Value}
theorem VArr.lt (h : VArr W q T n g) : q < W.heap.size := by obtain ⟨_, h1, _⟩ := h; exact h1.lt
theorem VArr.cell (h : VArr W q T n g) {i : Nat} (hi : i < n) : W.cell? ⟨q, i, none⟩ = some (g i) := by obtain ⟨cs, h1, _, h2⟩ := h; rw [h1.cell]; exact h2 i hi
theorem VArr.frozen (h : VArr W q T n g) (i : Nat) : W.frozen? ⟨q, i, none⟩ = false := by obtain ⟨_, h1, _⟩ := h; exact h1.frozen i
theorem VArr.below (h : VArr W q T n g) (hb : Below W.heap.size W W') : VArr W' q T n g := by obtain ⟨cs, h1, h2⟩ := h; exact ⟨cs, h1.below hb h1.lt, h2⟩
theorem VArr.fr {R : Nat → Prop} (h : VArr W q T n g) (hf : Fr R W W') (hn : ¬ R q) : VArr W' q T n g := by obtain ⟨cs, h1, h2⟩ := h; exact ⟨cs, h1.fr hf hn, h2⟩
theorem VArr.set (h : VArr W q T n g) {i : Nat} (v : Value) (hi : i < n) : VArr (W.setCell ⟨q, i, none⟩ v) q T n (fun j => if j = i then v else g j) := by
  obtain ⟨cs, h1, h2, h3⟩ := h
  refine ⟨cs.setIfInBounds i v, h1.set_ _ _, by simpa using h2, fun j hj => ?_⟩
  rw [Array.getElem?_setIfInBounds]
  by_cases he : i = j
  · subst he
    rw [if_pos rfl, if_pos (by omega)]
    show some v = some (if i = i then v else g i)
    rw [if_pos rfl]
  · rw [if_neg he, h3 j hj]
    show some (g j) = some (if j = i then v else g j)
    rw [if_neg (fun e => he e.symm)]
theorem VArr.ext {g' : Nat → Value} (h : VArr W q T n g) (he : ∀ i, i < n → g i = g' i) : VArr W q T n g' := by
  obtain ⟨cs, h1, h2, h3⟩ := h
  exact ⟨cs, h1, h2, fun i hi => by rw [← he i hi]; exact h3 i hi⟩
theorem VArr.of {cs : Array Value} (h : Blk W q T cs) (hs : cs.size = n) (hc : ∀ i, i < n → cs[i]? = some (g i)) : VArr W q T n g := ⟨cs, h, hs, hc⟩
end
end Go.Proofs.Ythihdiilokdidaa
end

section
namespace Go.Proofs.Ythihdiilokdidaa
open Go.RowKit
section
variable {P : Program} {ops : Array Oper} {md : Region.Mode} {S : World → Prop} {Q : Exit → Act → World → Prop}
/-- the tree's ways all end where just L is done. -/
def tqcB (md : Region.Mode) (ops : Array Oper) (n : Nat) (L : Array Bool) : Tq → Array Bool → Bool
  | .done, listed => decide (listed = L)
  | .quiet k t, listed => decide (k < n) && ((Region.ready md ops listed).contains k && Region.free md ops listed k && (match ops[k]? with | some o => mute o.op | none => false)) && tqcB md ops n L t (listed.setIfInBounds k true)
  | .loud k t, listed => decide (k < n) && decide (Region.ready md ops listed = [k]) && tqcB md ops n L t (listed.setIfInBounds k true)
  | .fork i t j u, listed => decide (Region.ready md ops listed = [i, j]) && decide (i < n) && decide (j < n) && decide (t.len = u.len) && tqcB md ops n L t (listed.setIfInBounds i true) && tqcB md ops n L u (listed.setIfInBounds j true)
  | .fork3 i t j u k v, listed => decide (Region.ready md ops listed = [i, j, k]) && decide (i < n) && decide (j < n) && decide (k < n) && decide (t.len = u.len) && decide (t.len = v.len) && tqcB md ops n L t (listed.setIfInBounds i true) && tqcB md ops n L u (listed.setIfInBounds j true) && tqcB md ops n L v (listed.setIfInBounds k true)

theorem tqc_head {n m : Nat} {L : Array Bool} {F : Array Bool → Act → World → Prop} {T : Act → World → Prop} (hsel : Region.noSelect ops = true) (hQ : ∀ d v c a w, Q (.panic c) (a.put d v) w → Q (.panic c) a w)
    (hs : Region.sinkB md ops n = true) (hc : Region.chainB md ops n = true) (hn : n < ops.size) (hF : ∀ listed a w, F listed a w → ∀ j ∈ Region.ready md ops listed, n ≤ j)
    (hT : ∀ a w, S w → HeadInv md ops n L → T a w → wpAnyLH P md ops Q S n F m L a w) :
    ∀ (t : Tq) (listed : Array Bool) (a : Act) (w : World), HeadInv md ops n listed → tqcB md ops n L t listed = true → S w →
      wqTr P ops Q S T t a w → wpAnyLH P md ops Q S n F (t.len + m) listed a w
  | .done, listed, a, w, inv, hB, hS, h => by
    have e : listed = L := of_decide_eq_true hB
    subst e
    rw [show Tq.done.len + m = m from by simp [Tq.len]]
    exact hT a w hS inv h
  | .fork i t j u, listed, a, w, inv, hB, hS, h => by
    simp only [tqcB, Bool.and_eq_true, decide_eq_true_eq] at hB
    obtain ⟨⟨⟨⟨⟨hr, hi⟩, hj⟩, hl⟩, hA⟩, hBB⟩ := hB
    rw [show (Tq.fork i t j u).len + m = (t.len + m) + 1 from by simp [Tq.len]; omega]
    refine ⟨by rw [hr]; simp, fun k hk => ?_⟩
    rw [hr] at hk
    rcases List.mem_cons.1 hk with rfl | hk
    · exact ⟨hi, wpOp_mono (fun a' w' h' => ⟨h'.1, tqc_head hsel hQ hs hc hn hF hT t _ a' w' (inv.set (by rw [hr]; simp) hi) hA h'.1 h'.2⟩) (wpOp_one hn hi h.1)⟩
    · obtain rfl := List.mem_singleton.1 hk
      refine ⟨hj, wpOp_mono (fun a' w' h' => ⟨h'.1, ?_⟩) (wpOp_one hn hj h.2)⟩
      rw [hl]
      exact tqc_head hsel hQ hs hc hn hF hT u _ a' w' (inv.set (by rw [hr]; simp) hj) hBB h'.1 h'.2
  | .fork3 i t j u l v, listed, a, w, inv, hB, hS, h => by
    simp only [tqcB, Bool.and_eq_true, decide_eq_true_eq] at hB
    obtain ⟨⟨⟨⟨⟨⟨⟨⟨hr, hi⟩, hj⟩, hl⟩, hl1⟩, hl2⟩, hA⟩, hBB⟩, hC⟩ := hB
    rw [show (Tq.fork3 i t j u l v).len + m = (t.len + m) + 1 from by simp [Tq.len]; omega]
    refine ⟨by rw [hr]; simp, fun k hk => ?_⟩
    rw [hr] at hk
    rcases List.mem_cons.1 hk with rfl | hk
    · exact ⟨hi, wpOp_mono (fun a' w' h' => ⟨h'.1, tqc_head hsel hQ hs hc hn hF hT t _ a' w' (inv.set (by rw [hr]; simp) hi) hA h'.1 h'.2⟩) (wpOp_one hn hi h.1)⟩
    · rcases List.mem_cons.1 hk with rfl | hk
      · refine ⟨hj, wpOp_mono (fun a' w' h' => ⟨h'.1, ?_⟩) (wpOp_one hn hj h.2.1)⟩
        rw [hl1]
        exact tqc_head hsel hQ hs hc hn hF hT u _ a' w' (inv.set (by rw [hr]; simp) hj) hBB h'.1 h'.2
      · obtain rfl := List.mem_singleton.1 hk
        refine ⟨hl, wpOp_mono (fun a' w' h' => ⟨h'.1, ?_⟩) (wpOp_one hn hl h.2.2)⟩
        rw [hl2]
        exact tqc_head hsel hQ hs hc hn hF hT v _ a' w' (inv.set (by rw [hr]; simp) hl) hC h'.1 h'.2
  | .loud k t, listed, a, w, inv, hB, hS, h => by
    simp only [tqcB, Bool.and_eq_true, decide_eq_true_eq] at hB
    obtain ⟨⟨hk, hr⟩, hB'⟩ := hB
    have h' : wpOne P ops Q k (fun a' w' => S w' ∧ wqTr P ops Q S T t a' w') a w := h
    rw [show (Tq.loud k t).len + m = (t.len + m) + 1 from by simp [Tq.len]; omega]
    refine ⟨by rw [hr]; simp, fun x hx => ?_⟩
    rw [hr] at hx
    have hik : x = k := by simpa using hx
    subst hik
    exact ⟨hk, wpOp_mono (fun a' w' h' => ⟨h'.1, tqc_head hsel hQ hs hc hn hF hT t _ a' w' (inv.set (by rw [hr]; simp) hk) hB' h'.1 h'.2⟩) (wpOp_one hn hk h')⟩
  | .quiet k t, listed, a, w, inv, hB, hS, h => by
    simp only [tqcB, Bool.and_eq_true, decide_eq_true_eq] at hB
    obtain ⟨⟨hk, ⟨hr, hf⟩, hm⟩, hB'⟩ := hB
    obtain ⟨o, hk0⟩ : ∃ o, ops[k]? = some o := ⟨ops[k]'(by omega), by simp [show k < ops.size by omega]⟩
    simp only [hk0] at hm
    have h' : wpQuiet P ops S (fun a' => wqTr P ops Q S T t a' w) [o] a := h o hk0
    have hr' : k ∈ Region.ready md ops listed := by simpa using hr
    have hst : qOp P ops S k (wpQuiet P ops S (fun a' => wqTr P ops Q S T t a' w) []) a := by unfold qOp; simp only [hk0]; exact h'
    obtain ⟨v, hy, hK⟩ := yieldsIn_of_qOp hk0 hst
    rw [show (Tq.quiet k t).len + m = (t.len + m) + 1 from by simp [Tq.len]; omega]
    exact wpAnyLH_first hk0 (Region.noSelect_spec hsel) (hQ _ _) hs hc hn hk hF (t.len + m) listed a w inv (Region.free_spec hk0 hf) hr' (mute_if hm hy) hS
      (tqc_head hsel hQ hs hc hn hF hT t _ _ w (inv.set hr' hk) hB' hS hK)

/-- the check of both parts, and what is left of the region in the first part. -/
def tq2B (md : Region.Mode) (ops : Array Oper) (n : Nat) (t1 : Tq) (L : Array Bool) (t2 : Tq) : Bool :=
  Region.noSelect ops && decide (n < ops.size) && Region.sinkB md ops n && Region.chainB md ops n && tqcB md ops n L t1 (Array.replicate ops.size false) && tqB md ops n (ops.size - n) t2 L
def wqTree2 (P : Program) (l : List Oper) (Q : Exit → Act → World → Prop) (S : World → Prop) (n : Nat) (t2 t1 : Tq) (a : Act) (w : World) : Prop :=
  wqTr P l.toArray Q S (fun a' w' => wqTree P l Q S n t2 a' w') t1 a w
theorem tw_done {l : List Oper} {n : Nat} {t2 : Tq} {a : Act} {w : World} (h : wqTree P l Q S n t2 a w) : wqTree2 P l Q S n t2 .done a w := h
theorem tw_loud {l : List Oper} {n k : Nat} {t2 t : Tq} {o : Oper} {a : Act} {w : World} (ho : l[k]? = some o)
    (h : wpList P l.toArray (fun e a' w' => match e with | .normal => S w' ∧ wqTree2 P l Q S n t2 t a' w' | e => Q e a' w') [o] a w) : wqTree2 P l Q S n t2 (.loud k t) a w := by
  show wpOne P l.toArray Q k _ a w
  intro o' ho'
  have : o' = o := by rw [List.getElem?_toArray, ho] at ho'; exact (Option.some.inj ho').symm
  subst this
  exact h
theorem tw_quiet {l : List Oper} {n k : Nat} {t2 t : Tq} {o : Oper} {a : Act} {w : World} (ho : l[k]? = some o)
    (h : wpQuiet P l.toArray S (fun a' => wqTree2 P l Q S n t2 t a' w) [o] a) : wqTree2 P l Q S n t2 (.quiet k t) a w := by
  intro o' ho'
  have : o' = o := by rw [List.getElem?_toArray, ho] at ho'; exact (Option.some.inj ho').symm
  subst this
  exact h
theorem tw_fork {l : List Oper} {n i j : Nat} {t2 t u : Tq} {oi oj : Oper} {a : Act} {w : World} (hi : l[i]? = some oi) (hj : l[j]? = some oj)
    (h1 : wpList P l.toArray (fun e a' w' => match e with | .normal => S w' ∧ wqTree2 P l Q S n t2 t a' w' | e => Q e a' w') [oi] a w)
    (h2 : wpList P l.toArray (fun e a' w' => match e with | .normal => S w' ∧ wqTree2 P l Q S n t2 u a' w' | e => Q e a' w') [oj] a w) : wqTree2 P l Q S n t2 (.fork i t j u) a w := by
  refine ⟨fun o' ho' => ?_, fun o' ho' => ?_⟩
  · have : o' = oi := by rw [List.getElem?_toArray, hi] at ho'; exact (Option.some.inj ho').symm
    subst this
    exact h1
  · have : o' = oj := by rw [List.getElem?_toArray, hj] at ho'; exact (Option.some.inj ho').symm
    subst this
    exact h2
theorem tw_fork3 {l : List Oper} {n i j k : Nat} {t2 t u v : Tq} {oi oj ok : Oper} {a : Act} {w : World} (hi : l[i]? = some oi) (hj : l[j]? = some oj) (hk : l[k]? = some ok)
    (h1 : wpList P l.toArray (fun e a' w' => match e with | .normal => S w' ∧ wqTree2 P l Q S n t2 t a' w' | e => Q e a' w') [oi] a w)
    (h2 : wpList P l.toArray (fun e a' w' => match e with | .normal => S w' ∧ wqTree2 P l Q S n t2 u a' w' | e => Q e a' w') [oj] a w)
    (h3 : wpList P l.toArray (fun e a' w' => match e with | .normal => S w' ∧ wqTree2 P l Q S n t2 v a' w' | e => Q e a' w') [ok] a w) : wqTree2 P l Q S n t2 (.fork3 i t j u k v) a w := by
  refine ⟨fun o' ho' => ?_, fun o' ho' => ?_, fun o' ho' => ?_⟩
  · have : o' = oi := by rw [List.getElem?_toArray, hi] at ho'; exact (Option.some.inj ho').symm
    subst this
    exact h1
  · have : o' = oj := by rw [List.getElem?_toArray, hj] at ho'; exact (Option.some.inj ho').symm
    subst this
    exact h2
  · have : o' = ok := by rw [List.getElem?_toArray, hk] at ho'; exact (Option.some.inj ho').symm
    subst this
    exact h3
theorem wp_region_tq2 {id : Nat} {a : Act} {w : World} {l : List Oper} (n : Nat) (t1 : Tq) (L : Array Bool) (t2 : Tq) (S : World → Prop) (hm : P.follows .mixedOrders = true)
    (hB : (tq2B .any l.toArray n t1 L t2 && decide (t1.len + t2.len = n)) = true) (hQ : ∀ d v c a w, Q (.panic c) (a.put d v) w → Q (.panic c) a w)
    (hS : S w.drew) (h : wqTree2 P l Q S n t2 t1 a w.drew) : (Code.region id l.toArray true).wp P Q a w := by
  simp only [tq2B, Bool.and_eq_true, decide_eq_true_eq] at hB
  obtain ⟨⟨⟨⟨⟨⟨hsel, hn⟩, hs⟩, hc⟩, hlex1⟩, hlex2⟩, hlen⟩ := hB
  have hdl : (l.drop n).length = l.toArray.size - n := by simp
  have inv0 : HeadInv .any l.toArray n (Array.replicate l.toArray.size false) :=
    ⟨by simp, fun j oj _ hl => (by rw [getD_replicate_false] at hl; cases hl), fun t _ ht => getD_in (by simpa using ht) (getD_replicate_false _ _)⟩
  have H := tqc_head (md := .any) (m := t2.len) (L := L) (F := fun listed' a' w' => Region.seqB .any l.toArray (l.toArray.size - n) n listed' = true ∧ wpList P l.toArray Q (l.drop n) a' w') (T := fun a' w' => wqTree P l Q S n t2 a' w') hsel hQ hs hc hn (fun listed' a' w' hL => seqB_ready hL.1)
    (fun a' w' hS' inv' h' => tq_head (md := .any) (g := l.toArray.size - n) (T := fun a'' w'' => wpList P l.toArray Q (l.drop n) a'' w'') hsel hQ hs hc hn t2 _ a' w' inv' hlex2 hS' h') t1 _ a _ inv0 hlex1 hS h
  refine wp_region_any hm ?_
  have := wpAny_of_headH (g := l.toArray.size - n) (fun listed' a' w' hL => by
    have := wpAny_of_seq (md := .any) (l.drop n) n listed' a' w' (fun j => by simp [List.getElem?_drop]) (by rw [hdl]; exact hL.1) hL.2
    rwa [hdl] at this) _ _ _ _ H
  rw [hlen, show n + (l.toArray.size - n) = l.toArray.size by omega] at this
  exact this
theorem wp_region_ext_tq2 {id : Nat} {a : Act} {w : World} {l : List Oper} (n : Nat) (t1 : Tq) (L : Array Bool) (t2 : Tq) (hm : P.follows .mixedOrders = true)
    (hB : (tq2B .any l.toArray n t1 L t2 && decide (t1.len + t2.len = n)) = true) (hQ : ∀ d v c a w, Q (.panic c) (a.put d v) w → Q (.panic c) a w)
    (h : wqTree2 P l Q (fun w' => ∃ x : Ex w, w' = x.W) n t2 t1 a w.drew) : (Code.region id l.toArray true).wp P Q a w :=
  wp_region_tq2 n t1 L t2 _ hm hB hQ (inEx (Below.refl w.heap.size w).drew) h
end
end Go.Proofs.Ythihdiilokdidaa
end
