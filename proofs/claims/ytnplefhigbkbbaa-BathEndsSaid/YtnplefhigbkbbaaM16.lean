/- Bath's laws: word, some; what Read tells (plain). · Bath's laws: Read (walk). · Bath's laws: Read in terms of what it tells; BathTogether (walk). -/
import Derived.Test.YtnplefhigbkbbaaM13
import Derived.Test.YtnplefhigbkbbaaM10
import Derived.Test.YtnplefhigbkbbaaM14
set_option linter.unusedVariables false
set_option linter.unusedSimpArgs false
set_option linter.unusedSectionVars false
section
namespace Go.Proofs.Ytnplefhigbkbbaa
open Go.RowKit
attribute [local go_sem] Ex.cell? Ex.frozen? Gx.cell?

set_option maxRecDepth 100000 in
set_option maxHeartbeats 1600000 in
theorem word_law (A : Option Addr) (c : Nat) (l : List Int) (at_ : Int) (w : World) (hA : SlAt w w.heap.size 1 A l.length (fU l)) (hw : ∀ k, k < l.length → 0 ≤ gI l k ∧ gI l k ≤ 65535) (h0 : 0 ≤ at_) (h1 : at_ ≤ 1000) (hl : l.length ≤ maxLen) :
    Calls Try.prog 93 #[.slice A l.length c, .int .i64 at_] w fun e w' => (∃ n : Int, e = .returned (.int .i64 n) ∧ 0 ≤ n ∧ n ≤ 65535) ∧ Below w.heap.size w w' := by
  unfold maxLen at hl
  by_cases h : l.length = 0
  · have HL := Lib.hid h
    clear h
    go_enter Try.func93, Try.ntmps93
    rw [HL.out]
    go_wp2
    go_ret
    exact ⟨⟨0, rfl, by omega, by omega⟩, Below.refl _ _⟩
  · have hk : (at_ % (l.length : Int)).toNat < l.length := by
      have := Int.emod_lt_of_pos at_ (show (0 : Int) < (l.length : Int) by omega)
      have := Int.emod_nonneg at_ (show (l.length : Int) ≠ 0 by omega)
      omega
    have hr0 := Int.emod_nonneg at_ (show (l.length : Int) ≠ 0 by omega)
    have hr1 := Int.emod_lt_of_pos at_ (show (0 : Int) < (l.length : Int) by omega)
    obtain ⟨m, hm⟩ : ∃ m : Nat, at_ % (l.length : Int) = (m : Int) := ⟨(at_ % (l.length : Int)).toNat, by omega⟩
    have hmk : m < l.length := by omega
    obtain ⟨b, off, rfl, hb, hc⟩ := IsWords.at_ hA hmk
    have hv := hw _ hmk
    have e0 : ((l.length : Int) == 0) = false := by simpa using h
    have e0' : (l.length == 0) = false := by simpa using h
    have h1l : (1 : Int) ≤ (l.length : Int) := by omega
    have e2 : IntKind.i64.wrap (gI l m) = gI l m := IntWalk.i64_in _ (by omega)
    clear hk hr0 hr1
    go_enter Try.func93, Try.ntmps93
    go_wp2
    go_ret
    exact ⟨⟨_, rfl, hv.1, hv.2⟩, Below.refl _ _⟩


set_option maxRecDepth 100000 in
set_option maxHeartbeats 3200000 in
theorem some_law (lo hi n : Int) (w : World) (h0 : 0 ≤ n) (h1 : n ≤ 65535) (hl : -100000 ≤ lo) (hlh : lo ≤ hi) (hh : hi ≤ 100000) :
    Calls Try.prog 92 #[.agg #[.int .i64 lo, .int .i64 hi], .int .i64 n] w fun e w' => (∃ x : Int, e = .returned (.int .i64 x) ∧ lo ≤ x ∧ x ≤ hi) ∧ Below w.heap.size w w' := by
  have hb := ex_alloc (Below.refl w.heap.size w) (.cells #[.int .i64 lo, .int .i64 hi] 46)
  have k0 : (hi - lo + 1 == 0) = false := by rw [beq_eq_false_iff_ne]; omega
  have k0' : ¬ hi - lo + 1 = 0 := by omega
  have k1 : IntKind.i64.wrap (hi - lo) = hi - lo := IntWalk.i64_in _ (by omega)
  have k2 : IntKind.i64.wrap (hi - lo + 1) = hi - lo + 1 := IntWalk.i64_in _ (by omega)
  obtain ⟨r, hr⟩ : ∃ r, n.tmod (hi - lo + 1) = r := ⟨_, rfl⟩
  have hr0 : 0 ≤ r := by rw [← hr]; exact Int.tmod_nonneg _ h0
  have hr1 : r < hi - lo + 1 := by rw [← hr]; exact Int.tmod_lt_of_pos _ (by omega)
  have k3 : IntKind.i64.wrap (n.tmod (hi - lo + 1)) = r := by rw [hr]; exact IntWalk.i64_in _ (by omega)
  have k4 : IntKind.i64.wrap (lo + r) = lo + r := IntWalk.i64_in _ (by omega)
  go_enter Try.func92, Try.ntmps92
  go_wp2_with fail
  refine wp_region_ext_mix 11 [(false, 0), (false, 1), (false, 2), (false, 3), (false, 4), (false, 5), (false, 6), (false, 7), (false, 8), (false, 9), (false, 10)] (by kernel_rfl) (by kernel_rfl) (by intro d _ _ _ _ h; cases d <;> exact h) ?_
  have hX0 := (Below.refl (w.alloc (.cells #[.int .i64 lo, .int .i64 hi] 46)).heap.size (w.alloc (.cells #[.int .i64 lo, .int .i64 hi] 46))).drew
  repeat (refine mix_quiet rfl ?_; go_big_quiet_step (fail); refine wpQuiet_nil ?_)
  refine mix_nil rfl ?_
  go_wp2
  go_ret
  exact ⟨⟨lo + r, rfl, by omega, by omega⟩, ex_trans hb hX0⟩

theorem results_ttc_row {P : Program} {fn : Func} {t u p : Tmp} {ty : TypeId} (h : fn.results = #[.tmp t, .tmp u, .cell p ty]) (tmps : Array Value) (w : World) (g : Nat) (ty' : TypeId) (cs : Array Value) (fr : Nat × Nat) (d : TypeDesc)
    (hp : tmps.getD p undef = .pointer (some ⟨g, 0, none⟩)) (hg : w.heap[g]? = some (.cells cs ty' fr))
    (hu : P.underlying ty = some d) (hd : (match d with | .struct _ | .array _ _ => true | _ => false) = true) (hi : (P.info? ty).map (·.size) = some cs.size) :
    (results fn tmps).run P w = .ok (.tuple #[tmps.getD t undef, tmps.getD u undef, .agg cs]) w := by
  have hp' : tmps[p]?.getD undef = .pointer (some ⟨g, 0, none⟩) := by simpa using hp
  simp [results, h, hp', asAddr, run_loadVar_row w g ty' ty cs fr d hg hu hd hi]

/-- offsets so far, by words. -/
structure OffR (s : Se) (k : Nat) (o : List Int) : Prop where
  len : o.length = k
  at_ : ∀ j, j < k → (gR s.offs j).lo ≤ gI o j ∧ gI o j ≤ (gR s.offs j).hi
theorem OffR.nil {s : Se} : OffR s 0 [] := ⟨rfl, fun j hj => by omega⟩
theorem OffR.snoc {s : Se} {k : Nat} {o : List Int} {x : Int} (h : OffR s k o) (h1 : (gR s.offs k).lo ≤ x) (h2 : x ≤ (gR s.offs k).hi) : OffR s (k + 1) (o ++ [x]) := by
  refine ⟨by rw [List.length_append, h.len]; rfl, fun j hj => ?_⟩
  rcases Nat.lt_succ_iff_lt_or_eq.1 hj with h3 | h3
  · rw [gI_snoc (by rw [h.len]; exact h3)]; exact h.at_ j h3
  · subst h3
    have : gI (o ++ [x]) j = x := by have := gI_last (l := o) (x := x); rwa [h.len] at this
    rw [this]; exact ⟨h1, h2⟩
/-- a bath whose first so many readings have been made anew. -/
structure BathR (s : Se) (o : List Int) (hv : Int) (a : Bt) (rd : List Rd) (i : Nat) : Prop where
  len : rd.length = i
  at_ : ∀ j, j < i → (gRd rd j).inst = (gRd a.reads j).inst ∧ hv + gI o (gRd a.reads j).inst.toNat - s.err ≤ (gRd rd j).val ∧ (gRd rd j).val ≤ hv + gI o (gRd a.reads j).inst.toNat + s.err
theorem BathR.nil {s : Se} {o : List Int} {hv : Int} {a : Bt} : BathR s o hv a [] 0 := ⟨rfl, fun j hj => by omega⟩
theorem gRd_snoc {l : List Rd} {x : Rd} {j : Nat} (h : j < l.length) : gRd (l ++ [x]) j = gRd l j := by simp [gRd, List.getElem?_append, h]
theorem gRd_last {l : List Rd} {x : Rd} : gRd (l ++ [x]) l.length = x := by simp [gRd]
theorem BathR.snoc {s : Se} {o : List Int} {hv : Int} {a : Bt} {rd : List Rd} {i : Nat} {iv v : Int} (h : BathR s o hv a rd i) (h1 : iv = (gRd a.reads i).inst) (h2 : hv + gI o iv.toNat - s.err ≤ v) (h3 : v ≤ hv + gI o iv.toNat + s.err) : BathR s o hv a (rd ++ [⟨iv, v⟩]) (i + 1) := by
  refine ⟨by rw [List.length_append, h.len]; rfl, fun j hj => ?_⟩
  rcases Nat.lt_succ_iff_lt_or_eq.1 hj with h4 | h4
  · rw [gRd_snoc (by rw [h.len]; exact h4)]; exact h.at_ j h4
  · subst h4
    have : gRd (rd ++ [⟨iv, v⟩]) j = ⟨iv, v⟩ := by have := gRd_last (l := rd) (x := ⟨iv, v⟩); rwa [h.len] at this
    rw [this, ← h1]
    exact ⟨rfl, h2, h3⟩
/-- heats and baths so far. -/
structure BathsR (s : Se) (o : List Int) (b : Nat) (h : List Int) (X : List Bt) : Prop where
  lh : h.length = b
  lx : X.length = b
  heat : ∀ j, j < b → (gBt s.baths j).heat.lo ≤ gI h j ∧ gI h j ≤ (gBt s.baths j).heat.hi ∧ (gBt X j).heat = (gBt s.baths j).heat
  rd : ∀ j, j < b → BathR s o (gI h j) (gBt s.baths j) (gBt X j).reads (gBt s.baths j).reads.length
theorem BathsR.nil {s : Se} {o : List Int} : BathsR s o 0 [] [] := ⟨rfl, rfl, fun j hj => by omega, fun j hj => by omega⟩
theorem gBt_snoc {l : List Bt} {x : Bt} {j : Nat} (h : j < l.length) : gBt (l ++ [x]) j = gBt l j := by simp [gBt, List.getElem?_append, h]
theorem gBt_last {l : List Bt} {x : Bt} : gBt (l ++ [x]) l.length = x := by simp [gBt]
theorem BathsR.snoc {s : Se} {o : List Int} {b : Nat} {h : List Int} {X : List Bt} {hv : Int} {rd : List Rd} (H : BathsR s o b h X) (h1 : (gBt s.baths b).heat.lo ≤ hv) (h2 : hv ≤ (gBt s.baths b).heat.hi) (h3 : BathR s o hv (gBt s.baths b) rd (gBt s.baths b).reads.length) :
    BathsR s o (b + 1) (h ++ [hv]) (X ++ [⟨(gBt s.baths b).heat, rd⟩]) := by
  have e1 : gI (h ++ [hv]) b = hv := by have := gI_last (l := h) (x := hv); rwa [H.lh] at this
  have e2 : gBt (X ++ [⟨(gBt s.baths b).heat, rd⟩]) b = ⟨(gBt s.baths b).heat, rd⟩ := by have := gBt_last (l := X) (x := ⟨(gBt s.baths b).heat, rd⟩); rwa [H.lx] at this
  refine ⟨by rw [List.length_append, H.lh]; rfl, by rw [List.length_append, H.lx]; rfl, fun j hj => ?_, fun j hj => ?_⟩
  · rcases Nat.lt_succ_iff_lt_or_eq.1 hj with h4 | h4
    · rw [gI_snoc (by rw [H.lh]; exact h4), gBt_snoc (by rw [H.lx]; exact h4)]; exact H.heat j h4
    · subst h4; rw [e1, e2]; exact ⟨h1, h2, rfl⟩
  · rcases Nat.lt_succ_iff_lt_or_eq.1 hj with h4 | h4
    · rw [gI_snoc (by rw [H.lh]; exact h4), gBt_snoc (by rw [H.lx]; exact h4)]; exact H.rd j h4
    · subst h4; rw [e1, e2]; exact h3
/-- what Read tells: offsets and heats that are a truth of the series with its Values made anew. -/
structure ReadV (s : Se) (o h : List Int) (x : Se) : Prop where
  lo : o.length = s.offs.length
  lh : h.length = s.baths.length
  offs : x.offs = s.offs
  err : x.err = s.err
  lb : x.baths.length = s.baths.length
  heat : ∀ b, b < s.baths.length → (gBt x.baths b).heat = (gBt s.baths b).heat
  lr : ∀ b, b < s.baths.length → (gBt x.baths b).reads.length = (gBt s.baths b).reads.length
  inst : ∀ b, b < s.baths.length → ∀ i, i < (gBt s.baths b).reads.length → (gRd (gBt x.baths b).reads i).inst = (gRd (gBt s.baths b).reads i).inst
  ok : SeOk x
  tru : Tru x (fun _ => false) (fun n => gI o n) (fun b => gI h b)
theorem ReadV.of {s : Se} {o h : List Int} {X : List Bt} (hok : SeOk s) (ho : OffR s s.offs.length o) (H : BathsR s o s.baths.length h X) : ReadV s o h ⟨s.offs, s.err, X⟩ := by
  have hlr : ∀ b, b < s.baths.length → (gBt X b).reads.length = (gBt s.baths b).reads.length := fun b hb => (H.rd b hb).len
  have hin : ∀ b, b < s.baths.length → ∀ i, i < (gBt s.baths b).reads.length → (gRd (gBt X b).reads i).inst = (gRd (gBt s.baths b).reads i).inst := fun b hb i hi => ((H.rd b hb).at_ i hi).1
  refine ⟨ho.len, H.lh, rfl, rfl, H.lx, fun b hb => (H.heat b hb).2.2, hlr, hin, ⟨hok.no, ?_, hok.err, hok.offs, ?_, ?_, ?_, ?_⟩, Tru.of_reads ho.at_ ?_ ?_⟩
  · show X.length ≤ 6
    rw [H.lx]; exact hok.nb
  · intro b hb
    have hb : b < s.baths.length := by rw [← H.lx]; exact hb
    show 0 ≤ (gBt X b).heat.lo ∧ (gBt X b).heat.lo ≤ (gBt X b).heat.hi ∧ (gBt X b).heat.hi ≤ 1000
    rw [(H.heat b hb).2.2]; exact hok.heats b hb
  · intro b hb k hk
    have hb : b < s.baths.length := by rw [← H.lx]; exact hb
    have hk : k < (gBt s.baths b).reads.length := by rw [← hlr b hb]; exact hk
    show 0 ≤ (gRd (gBt X b).reads k).inst ∧ (gRd (gBt X b).reads k).inst ≤ (s.offs.length : Int) - 1
    rw [hin b hb k hk]; exact hok.inst b hb k hk
  · intro b hb k hk j hj
    have hb : b < s.baths.length := by rw [← H.lx]; exact hb
    have hk : k < (gBt s.baths b).reads.length := by rw [← hlr b hb]; exact hk
    show (gRd (gBt X b).reads j).inst ≠ (gRd (gBt X b).reads k).inst
    rw [hin b hb k hk, hin b hb j (by omega)]; exact hok.once b hb k hk j hj
  · intro b hb k hk
    have hb : b < s.baths.length := by rw [← H.lx]; exact hb
    have hk : k < (gBt s.baths b).reads.length := by rw [← hlr b hb]; exact hk
    show -1000 ≤ (gRd (gBt X b).reads k).val ∧ (gRd (gBt X b).reads k).val ≤ 2000
    have h1 := (H.rd b hb).at_ k hk
    have h2 := hok.inst b hb k hk
    have h3 := ho.at_ (gRd (gBt s.baths b).reads k).inst.toNat (by omega)
    have h4 := hok.offs (gRd (gBt s.baths b).reads k).inst.toNat (by omega)
    have h5 := H.heat b hb
    have h6 := hok.heats b hb
    have h7 := hok.err
    omega
  · intro b hb
    have hb : b < s.baths.length := by rw [← H.lx]; exact hb
    show (gBt X b).heat.lo ≤ gI h b ∧ gI h b ≤ (gBt X b).heat.hi
    have := H.heat b hb
    rw [this.2.2]; exact ⟨this.1, this.2.1⟩
  · intro b hb i hi
    have hb : b < s.baths.length := by rw [← H.lx]; exact hb
    have hi : i < (gBt s.baths b).reads.length := by rw [← hlr b hb]; exact hi
    show (gRd (gBt X b).reads i).val - s.err ≤ gI h b + gI o (gRd (gBt X b).reads i).inst.toNat ∧ gI h b + gI o (gRd (gBt X b).reads i).inst.toNat ≤ (gRd (gBt X b).reads i).val + s.err
    have h1 := (H.rd b hb).at_ i hi
    rw [h1.1]
    omega
theorem ReadV.thn {s x : Se} {o h : List Int} (H : ReadV s o h x) (ht : Thn s) : Thn x := ⟨by rw [H.offs]; exact ht.no, by rw [H.lb]; exact ht.nb, fun b hb => by
  have hb : b < s.baths.length := by rw [← H.lb]; exact hb
  rw [H.lr b hb]; exact ht.nr b hb⟩
theorem ReadV.can {s x : Se} {o h : List Int} (H : ReadV s o h x) : Can x := ⟨_, _, H.tru⟩
end Go.Proofs.Ytnplefhigbkbbaa
end

section
namespace Go.Proofs.Ytnplefhigbkbbaa
open Go.RowKit
attribute [local go_sem] Ex.cell? Ex.frozen? Gx.cell? Fx.cell?

/-- an append to a row of another type. -/
theorem NOwn.grown {α : Type} {T1 T2 : TypeId} {s1 s2 : Nat} {c : α → List Value} {A : α → Option Addr} {n : α → Nat} {f : α → Nat → Nat → Value} {W W' : World} {B : Nat} {v : Value} {X : List α} (h : NOwn T1 s1 T2 s2 c A n f W B v X) {base m s3 : Nat} {T3 : TypeId} {v3 : Value} {xs : List Value} (hg : W.grownBy W' v3.ownBlock) (ho : W.ownsRow base T3 s3 v3 m xs) (h1 : T3 ≠ T1) (h2 : T3 ≠ T2) : NOwn T1 s1 T2 s2 c A n f W' B v X :=
  ⟨own_fr h.own (Fr.grown (R := fun y => v3.ownBlock = some y) hg (fun y hy => .inl hy)) (fun b hb hc => own_ownne ho h.own h1 hc hb), fun x hx => (h.ins x hx).grown hg ho h2⟩
/-- two rows of the call's own, and a third that is to go into the second. -/
structure RE (b : Nat) (W0 : World) (R : Nat → Prop) (u1 : Value) (l : List Int) (u2 : Value) (X : List Xb) (A3 : Option Addr) (L3 : List Rd) (W : World) : Prop where
  fr : Fr R W0 W
  o1 : W.ownsRow b 3 1 u1 l.length (l.map (Value.int .i64))
  o2 : ROwn W b u2 X
  o3 : RowAt W b 89 2 A3 L3.length (fRd L3)
  r1 : ∀ x, u1.ownBlock = some x → R x ∨ W0.heap.size ≤ x
  r2 : ∀ x, u2.ownBlock = some x → R x ∨ W0.heap.size ≤ x
section
variable {b : Nat} {W0 W W' : World} {R : Nat → Prop} {u1 u2 : Value} {l : List Int} {X : List Xb} {A3 : Option Addr} {L3 : List Rd}
theorem RE.alloc (h : RE b W0 R u1 l u2 X A3 L3 W) (o : Obj) : RE b W0 R u1 l u2 X A3 L3 (W.alloc o) := by
  have hb : Below W.heap.size W (W.alloc o) := (Below.refl _ _).alloc (Nat.le_refl _) o
  exact ⟨h.fr.trans (Fr.below (R := fun _ => False) hb) (fun _ _ hx => hx.elim), own_below h.o1 hb, h.o2.below hb, h.o3.below hb, h.r1, h.r2⟩
theorem RE.app1 (h : RE b W0 R u1 l u2 X A3 L3 W) {gg cap : Nat} {x : Int} (hg : W.grownBy W' u1.ownBlock) (ho : W'.ownsRow b 3 1 (.slice (some ⟨gg, 0, none⟩) (l.length + 1) cap) (l.length + 1) (l.map (Value.int .i64) ++ [.int .i64 x])) (hat : u1.ownBlock = some gg ∨ W.heap.size ≤ gg) :
    RE b W0 R (.slice (some ⟨gg, 0, none⟩) (l.length + 1) cap) (l ++ [x]) u2 X A3 L3 W' := by
  have hf : Fr (fun y => u1.ownBlock = some y) W W' := Fr.grown hg (fun y hy => .inl hy)
  have hs := h.fr.size
  refine ⟨h.fr.trans hf (fun y hy hr => (h.r1 y hr).resolve_right (by omega)), own_snoc rfl ho, h.o2.grown hg h.o1 (by decide) (by decide), h.o3.grown hg h.o1 (by decide), fun y hy => ?_, h.r2⟩
  have hy' : gg = y := by simpa [Value.ownBlock] using hy
  subst hy'
  rcases hat with hat | hat
  · exact h.r1 gg hat
  · exact .inr (by omega)
theorem RE.app2 (h : RE b W0 R u1 l u2 X A3 L3 W) {gg cap c3 : Nat} {lo hi : Int} (hg : W.grownBy W' u2.ownBlock) (ho : W'.ownsRow b 82 3 (.slice (some ⟨gg, 0, none⟩) (X.length + 1) cap) (X.length + 1) (X.flatMap cB ++ [.int .i64 lo, .int .i64 hi, .slice A3 L3.length c3])) (hat : u2.ownBlock = some gg ∨ W.heap.size ≤ gg) :
    RE b W0 R u1 l (.slice (some ⟨gg, 0, none⟩) (X.length + 1) cap) (X ++ [((⟨⟨lo, hi⟩, L3⟩ : Bt), A3, c3)]) A3 L3 W' := by
  have hf : Fr (fun y => u2.ownBlock = some y) W W' := Fr.grown hg (fun y hy => .inl hy)
  have hs := h.fr.size
  refine ⟨h.fr.trans hf (fun y hy hr => (h.r2 y hr).resolve_right (by omega)), own_fr h.o1 hf (fun y hy hr => own_ownne h.o1 h.o2.own (by decide) hy hr), ?_, h.o3.grown hg h.o2.own (by decide), h.r1, fun y hy => ?_⟩
  · exact NOwn.push h.o2 hg (by decide) rfl (own_push (f := cB) (x := ((⟨⟨lo, hi⟩, L3⟩ : Bt), A3, c3)) rfl ho) (fun y hy => by
      obtain rfl := List.mem_singleton.1 hy
      exact h.o3)
  have hy' : gg = y := by simpa [Value.ownBlock] using hy
  subst hy'
  rcases hat with hat | hat
  · exact h.r2 gg hat
  · exact .inr (by omega)
end

set_option maxRecDepth 100000 in
set_option maxHeartbeats 25600000 in
theorem Read_law (s : Se) (Ao Ab : Option Addr) (co cb : Nat) (rA : Nat → Option Addr) (rc : Nat → Nat) (w : World) (hs : SeIn w w.heap.size s Ao Ab rA rc) (ht : Thn s) (hok : SeOk s) (Aw : Option Addr) (cw : Nat) (ws : List Int) (hws : SlAt w w.heap.size 1 Aw ws.length (fU ws)) (hwl : ws.length ≤ maxLen) (hwv : ∀ k, k < ws.length → 0 ≤ gI ws k ∧ gI ws k ≤ 65535) :
    Calls Try.prog 49 #[.agg #[.slice Ao s.offs.length co, .int .i64 s.err, .slice Ab s.baths.length cb], .slice Aw ws.length cw] w fun e w' => (∃ A1 c1 A2 c2 Ab' cb' rA' rc', ∃ o h x, Hid (ReadV s o h x) ∧ e = .returned (.tuple #[.slice A1 s.offs.length c1, .slice A2 s.baths.length c2, .agg #[.slice Ao s.offs.length co, .int .i64 s.err, .slice Ab' s.baths.length cb']]) ∧ SlAt w' w'.heap.size 1 A1 s.offs.length (fI o) ∧ SlAt w' w'.heap.size 1 A2 s.baths.length (fI h) ∧ SeIn w' w'.heap.size x Ao Ab' rA' rc') ∧ Below w.heap.size w w' := by
  obtain ⟨i0, hi0, hz0, hz1, hz2⟩ := info_parts int_info
  have HI := Lib.hid hi0
  obtain ⟨i1, hi1, hy0, hy1, hy2⟩ := info_parts rrd_info
  have HJ := Lib.hid hi1
  obtain ⟨i2, hi2, hu0, hu1, hu2⟩ := info_parts rbath_info
  have HK := Lib.hid hi2
  clear hi0 hi1 hi2
  have hno := ht.no
  have hnb := ht.nb
  have her := hok.err
  have HT := Lib.hid ht
  have HOK := Lib.hid hok
  clear ht hok
  have hb1 := ex_alloc (ex_alloc (Below.refl w.heap.size w) (.cells #[.slice Ao s.offs.length co, .int .i64 s.err, .slice Ab s.baths.length cb] 25)) (.cells #[.slice none 0 0, .int .i64 0, .slice none 0 0] 25)
  have q0 : Blk ((w.alloc (.cells #[.slice Ao s.offs.length co, .int .i64 s.err, .slice Ab s.baths.length cb] 25)).alloc (.cells #[.slice none 0 0, .int .i64 0, .slice none 0 0] 25)) w.heap.size 25 #[.slice Ao s.offs.length co, .int .i64 s.err, .slice Ab s.baths.length cb] := (Blk.new _ _ _).alloc _
  have q1 : Blk ((w.alloc (.cells #[.slice Ao s.offs.length co, .int .i64 s.err, .slice Ab s.baths.length cb] 25)).alloc (.cells #[.slice none 0 0, .int .i64 0, .slice none 0 0] 25)) (w.heap.size + 1) 25 #[.slice none 0 0, .int .i64 0, .slice none 0 0] := Blk.new' _ _ _ (by simp)
  go_enter Try.func49, Try.ntmps49
  go_wp2_with fail
  have hVs : w.heap.size + 1 + 1 ≤ ((w.alloc (.cells #[.slice Ao s.offs.length co, .int .i64 s.err, .slice Ab s.baths.length cb] 25)).alloc (.cells #[.slice none 0 0, .int .i64 0, .slice none 0 0] 25)).heap.size := by simp
  generalize (w.alloc (.cells #[.slice Ao s.offs.length co, .int .i64 s.err, .slice Ab s.baths.length cb] 25)).alloc (.cells #[.slice none 0 0, .int .i64 0, .slice none 0 0] 25) = V at *
  refine wp_loop (fun a W => Rel (fun a W => ∃ k : Nat, k ≤ s.offs.length ∧ Below w.heap.size w W ∧ w.heap.size + 1 + 1 ≤ W.heap.size ∧ Blk W w.heap.size 25 #[.slice Ao s.offs.length co, .int .i64 s.err, .slice Ab s.baths.length cb] ∧ Blk W (w.heap.size + 1) 25 #[.slice none 0 0, .int .i64 0, .slice none 0 0] ∧ ∃ v, ∃ o : List Int, Hid (OffR s k o) ∧ W.ownsRow (w.heap.size + 1 + 1) 3 1 v o.length (o.map (Value.int .i64)) ∧ ∃ u : Nat → Value, a = ⟨List.toArray (u 0 :: .slice Aw ws.length cw :: .pointer (some ⟨w.heap.size, 0, none⟩) :: u 3 :: u 4 :: u 5 :: .pointer (some ⟨w.heap.size + 1, 0, none⟩) :: v :: .slice none 0 0 :: .int .i64 (k : Int) :: u 10 :: u 11 :: u 12 :: u 13 :: u 14 :: u 15 :: u 16 :: u 17 :: u 18 :: u 19 :: u 20 :: u 21 :: u 22 :: u 23 :: u 24 :: u 25 :: u 26 :: u 27 :: u 28 :: u 29 :: u 30 :: u 31 :: u 32 :: u 33 :: u 34 :: u 35 :: u 36 :: u 37 :: u 38 :: u 39 :: u 40 :: u 41 :: u 42 :: u 43 :: u 44 :: u 45 :: u 46 :: u 47 :: u 48 :: u 49 :: u 50 :: u 51 :: u 52 :: u 53 :: u 54 :: u 55 :: u 56 :: u 57 :: u 58 :: u 59 :: u 60 :: u 61 :: u 62 :: u 63 :: u 64 :: u 65 :: u 66 :: u 67 :: u 68 :: u 69 :: u 70 :: u 71 :: u 72 :: u 73 :: u 74 :: u 75 :: u 76 :: u 77 :: u 78 :: u 79 :: u 80 :: u 81 :: u 82 :: u 83 :: u 84 :: u 85 :: u 86 :: u 87 :: u 88 :: u 89 :: u 90 :: u 91 :: u 92 :: u 93 :: u 94 :: u 95 :: u 96 :: u 97 :: u 98 :: u 99 :: u 100 :: u 101 :: u 102 :: u 103 :: u 104 :: u 105 :: u 106 :: u 107 :: u 108 :: u 109 :: u 110 :: u 111 :: u 112 :: u 113 :: u 114 :: u 115 :: u 116 :: u 117 :: u 118 :: u 119 :: u 120 :: u 121 :: u 122 :: u 123 :: u 124 :: u 125 :: u 126 :: u 127 :: u 128 :: []), []⟩) a W)
    (fun a _ => s.offs.length - (intOf (a.tmps.getD 9 undef)).toNat) ⟨⟨0, by omega, hb1, hVs, q0, q1, .slice none 0 0, [], Lib.hid .nil, ⟨rfl, .inl ⟨rfl, rfl⟩⟩, exFrame (by kernel_rfl)⟩⟩ ?_
  clear hb1 hVs q0 q1 V
  rintro a W ⟨⟨k, hk, hbl, hsz, q0, q1, v, o, HO, hown, u, rfl⟩⟩
  have l0 := q0.lt
  have l1 := q1.lt
  have a0 : W.cell? ⟨w.heap.size, 0, none⟩ = some (.slice Ao s.offs.length co) := q0.cell 0
  by_cases hlt : k < s.offs.length
  · --BEGIN o1
    obtain ⟨br, orr, rfl, hbr, r0, r1⟩ := IsRgs.at_ (hs.offs.below hbl) hlt
    have lbr : br < W.heap.size := by omega
    have hol : o.length ≤ 1000 := by rw [HO.out.len]; omega
    have hbd := HOK.out.offs k hlt
    obtain ⟨lo, hlo⟩ : ∃ lo, (gR s.offs k).lo = lo := ⟨_, rfl⟩
    obtain ⟨hi, hhi⟩ : ∃ hi, (gR s.offs k).hi = hi := ⟨_, rfl⟩
    have HN : Hid (∀ ov, lo ≤ ov → ov ≤ hi → OffR s (k + 1) (o ++ [ov])) := Lib.hid (fun ov h1 h2 => HO.out.snoc (by rw [hlo]; exact h1) (by rw [hhi]; exact h2))
    rw [hlo] at r0
    rw [hhi] at r1
    rw [hlo, hhi] at hbd
    clear hlo hhi
    obtain ⟨row, hrow⟩ : ∃ row, v.ownBlock = row := ⟨_, rfl⟩
    have hge := fun (j : Nat) (hj : v.ownBlock = some j) => own_ge hown hj
    have hn0 : ¬ some w.heap.size = row := fun e => by have := hge _ (hrow.trans e.symm); omega
    have hn1 : ¬ some (w.heap.size + 1) = row := fun e => by have := hge _ (hrow.trans e.symm); omega
    have hnr : ¬ some br = row := fun e => by have := hge _ (hrow.trans e.symm); omega
    have hrw : ∀ j, row = some j → w.heap.size ≤ j := fun j hj => by have := hge _ (hrow.trans hj); omega
    have HROW := Lib.hid hrow
    clear hrow hge
    go_wp2_with fail
    refine wp_region_gx_mix row 12 [(false, 0), (false, 1), (false, 2), (false, 3), (false, 4), (false, 5), (false, 6), (false, 7), (true, 8), (true, 9), (true, 10), (true, 11)] (by kernel_rfl) (by kernel_rfl) (by intro d _ _ _ _ h; cases d <;> exact h) ?_
    repeat (refine mix_quiet rfl ?_; go_big_quiet_step (fail); refine wpQuiet_nil ?_)
    have hX0 := (Below.refl W.heap.size W).drew
    refine mix_loud rfl ?_
    go_wp2_with fail
    refine (word_law Aw cw ws (k : Int) W.drew ((hws.below hbl).up hbl.size) hwv (by omega) (by omega) hwl).mono ?_
    rintro e x1 ⟨⟨nv, rfl, hv0, hv1⟩, hx1⟩
    have hX_x1 := ex_trans hX0 hx1
    go_wp2_with fail
    refine ⟨inGx (grown_row hX_x1), ?_⟩
    repeat (refine mix_quiet rfl ?_; go_big_quiet_step (fail); refine wpQuiet_nil ?_)
    refine mix_loud rfl ?_
    go_wp2_with fail
    refine (some_law lo hi nv x1 hv0 hv1 (by omega) (by omega) (by omega)).mono ?_
    rintro e x2 ⟨⟨ov, rfl, ho0, ho1⟩, hx2⟩
    have hX_x2 := ex_trans hX_x1 hx2
    go_wp2_with fail
    refine ⟨inGx (grown_row hX_x2), ?_⟩
    repeat (refine mix_quiet rfl ?_; go_big_quiet_step (fail); refine wpQuiet_nil ?_)
    refine mix_loud rfl ?_
    go_wp2_with fail
    have hX3 := ex_alloc hX_x2 (.cells #[.int .i64 ov] 3)
    refine ⟨inGx (grown_row hX3), ?_⟩
    repeat (refine mix_quiet rfl ?_; go_big_quiet_step (fail); refine wpQuiet_nil ?_)
    have y4 := own_below hown hX3
    have c63 : o.length + 1 ≤ maxLen := by unfold maxLen; omega
    have cby : (o.length + 1) * 8 ≤ 140737488355328 := by omega
    have hbase : w.heap.size + 1 + 1 ≤ (x2.alloc (.cells #[.int .i64 ov] 3)).heap.size := by have := hX3.size; omega
    refine mix_loud rfl ?_
    go_wp2_with (at_builtin; refine wpList_append_lies _ rfl _ _ _ rfl (w.heap.size + 1 + 1) 3 i0 _ 1 8 Try.underlying52 HI.out hz0 hz1 hz2 rfl (by omega) v _ _ rfl y4 ⟨x2.heap.size, 0, none⟩ 1 1 [.int .i64 ov] rfl rfl (World.news_of_block (heap_alloc_new x2 _)) (by simp [Value.oneCell']) (by omega) c63 cby hbase (x2.heap.size + 1) (by simp) ?_; intro gg cap w1 hown' hgrow hat hlt')
    rw [HROW.out] at hgrow
    have hgB := (grown_row (r := row) hX3).andThen hgrow (fun j hj => .inr hj)
    refine ⟨inGx hgB, ?_⟩
    repeat (refine mix_quiet rfl ?_; go_big_quiet_step (fail); refine wpQuiet_nil ?_)
    refine mix_nil rfl ?_
    have B5 := hbl.grown hgB hbl.size hrw
    have p0 := q0.grown hgB hn0
    have p1 := q1.grown hgB hn1
    have hs7 : w.heap.size + 1 + 1 ≤ w1.heap.size := by have := hgB.size; omega
    have own7 := own_snoc rfl hown'
    have HN2 := Lib.hid (HN.out ov ho0 ho1)
    clear hown' hgB hgrow y4 hX3 hX_x1 hX_x2 hX0 hx1 hx2 a0 q0 q1 hown hnr hn0 hn1 r0 r1 HN
    go_wp2_with fail
    refine ⟨⟨⟨k + 1, by omega, B5, hs7, p0, p1, _, _, HN2, own7, exFrame (by kernel_rfl)⟩⟩, ?_⟩
    show s.offs.length - (intOf (.int .i64 ((k : Int) + 1))).toNat < s.offs.length - (intOf (.int .i64 (k : Int))).toNat
    simp [intOf]
    omega
  obtain rfl : k = s.offs.length := by omega
  have hol := HO.out.len
  obtain ⟨A1, c1, e1, k1, k2, ro⟩ := own_row (α := Int) (c := fun n => [.int .i64 n]) (sz := 1) (fun _ => rfl) (l := o) (f := fI o) (fun k hk j hj => by have hj0 : j = 0 := (by omega); subst hj0; simp [fI, gI, hk]) (by rw [List.map_eq_flatMap] at hown; exact hown)
  rw [hol] at e1 ro
  subst e1
  clear hown hol k1 k2
  have a1 : W.cell? ⟨w.heap.size, 1, none⟩ = some (.int .i64 s.err) := q0.cell 1
  have HX0 := Blk.new W 25 #[.slice Ao s.offs.length co, .int .i64 s.err, .slice none 0 0]
  have hX2 := ex_alloc (Below.refl W.heap.size W) (.cells #[.slice Ao s.offs.length co, .int .i64 s.err, .slice none 0 0] 25)
  have hX2s : W.heap.size + 1 ≤ (W.alloc (.cells #[.slice Ao s.offs.length co, .int .i64 s.err, .slice none 0 0] 25)).heap.size := by simp
  go_wp2_with fail
  obtain ⟨bx, hbx⟩ : ∃ bx, W.heap.size = bx := ⟨_, rfl⟩
  have HBX := Lib.hid hbx
  generalize W.alloc (.cells #[.slice Ao s.offs.length co, .int .i64 s.err, .slice none 0 0] 25) = X2 at *
  rw [hbx] at HX0 hX2s ⊢
  clear hbx a0 a1 l0 l1
  generalize W = V at *
  refine wp_loop (fun a W2 => Rel (fun a W2 => ∃ k : Nat, k ≤ s.baths.length ∧ Below V.heap.size V W2 ∧ bx + 1 ≤ W2.heap.size ∧ ∃ m : Int, 0 ≤ m ∧ m ≤ 9 + 10 * (k : Int) ∧ ∃ v X, ∃ h : List Int, ∃ vh, Hid (BathsR s o k h (X.map (·.1))) ∧ Blk W2 bx 25 #[.slice Ao s.offs.length co, .int .i64 s.err, v] ∧ ROwn W2 (bx + 1) v X ∧ W2.ownsRow (bx + 1) 3 1 vh h.length (h.map (Value.int .i64)) ∧ ∃ u : Nat → Value, a = ⟨List.toArray (u 0 :: .slice Aw ws.length cw :: .pointer (some ⟨w.heap.size, 0, none⟩) :: u 3 :: u 4 :: u 5 :: .pointer (some ⟨w.heap.size + 1, 0, none⟩) :: .slice A1 s.offs.length c1 :: vh :: u 9 :: .pointer (some ⟨bx, 0, none⟩) :: .int .i64 m :: .int .i64 (k : Int) :: u 13 :: u 14 :: u 15 :: u 16 :: u 17 :: u 18 :: u 19 :: u 20 :: u 21 :: u 22 :: u 23 :: u 24 :: u 25 :: u 26 :: u 27 :: u 28 :: u 29 :: u 30 :: u 31 :: u 32 :: u 33 :: u 34 :: u 35 :: u 36 :: u 37 :: u 38 :: u 39 :: u 40 :: u 41 :: u 42 :: u 43 :: u 44 :: u 45 :: u 46 :: u 47 :: u 48 :: u 49 :: u 50 :: u 51 :: u 52 :: u 53 :: u 54 :: u 55 :: u 56 :: u 57 :: u 58 :: u 59 :: u 60 :: u 61 :: u 62 :: u 63 :: u 64 :: u 65 :: u 66 :: u 67 :: u 68 :: u 69 :: u 70 :: u 71 :: u 72 :: u 73 :: u 74 :: u 75 :: u 76 :: u 77 :: u 78 :: u 79 :: u 80 :: u 81 :: u 82 :: u 83 :: u 84 :: u 85 :: u 86 :: u 87 :: u 88 :: u 89 :: u 90 :: u 91 :: u 92 :: u 93 :: u 94 :: u 95 :: u 96 :: u 97 :: u 98 :: u 99 :: u 100 :: u 101 :: u 102 :: u 103 :: u 104 :: u 105 :: u 106 :: u 107 :: u 108 :: u 109 :: u 110 :: u 111 :: u 112 :: u 113 :: u 114 :: u 115 :: u 116 :: u 117 :: u 118 :: u 119 :: u 120 :: u 121 :: u 122 :: u 123 :: u 124 :: u 125 :: u 126 :: u 127 :: u 128 :: []), []⟩) a W2)
    (fun a _ => s.baths.length - (intOf (a.tmps.getD 12 undef)).toNat) ⟨⟨0, by omega, hX2, hX2s, (s.offs.length : Int), by omega, by omega, .slice none 0 0, [], [], .slice none 0 0, Lib.hid .nil, HX0, NOwn.nil, ⟨rfl, .inl ⟨rfl, rfl⟩⟩, exFrame (by kernel_rfl)⟩⟩ ?_
  clear HX0 hX2 hX2s X2
  rintro a W2 ⟨⟨k, hk, hb2, hsz2, m, hm0, hm1, v, X, h, vh, HB, qx, hN, hown, u, rfl⟩⟩
  have BW2 := ex_trans hbl hb2
  have q02 := q0.below hb2 q0.lt
  have l0 := q02.lt
  have lbx := qx.lt
  have hbX := HBX.out
  have a2 : W2.cell? ⟨w.heap.size, 2, none⟩ = some (.slice Ab s.baths.length cb) := q02.cell 2
  by_cases hlt2 : k < s.baths.length
  rotate_left
  · --BEGIN o2
    obtain rfl : k = s.baths.length := by omega
    have q12 := q1.below hb2 q1.lt
    have ro2 := ro.below hb2
    have hhl := HB.out.lh
    have hxl := HB.out.lx
    rw [List.length_map] at hxl
    obtain ⟨A2, c2, e2, k1, k2, rh⟩ := own_row (α := Int) (c := fun n => [.int .i64 n]) (sz := 1) (fun _ => rfl) (l := h) (f := fI h) (fun k hk j hj => by have hj0 : j = 0 := (by omega); subst hj0; simp [fI, gI, hk]) (by rw [List.map_eq_flatMap] at hown; exact hown)
    obtain ⟨A', c', e, k3, k4, k5⟩ := own_row (c := cB) (sz := 3) (fun _ => rfl) (cB_at X) hN.own
    rw [hhl] at e2 rh
    rw [hxl] at e
    subst e e2
    clear hhl hxl hown k1 k2 k3 k4 k5
    have HRV := Lib.hid (ReadV.of HOK.out HO.out HB.out)
    clear HO HB
    have z0 : W2.cell? ⟨w.heap.size + 1, 0, none⟩ = some (.slice none 0 0) := q12.cell 0
    have z1 : W2.cell? ⟨w.heap.size + 1, 1, none⟩ = some (.int .i64 0) := q12.cell 1
    have z2 : W2.cell? ⟨w.heap.size + 1, 2, none⟩ = some (.slice none 0 0) := q12.cell 2
    have b0 : W2.cell? ⟨bx, 0, none⟩ = some (.slice Ao s.offs.length co) := qx.cell 0
    have b1 : W2.cell? ⟨bx, 1, none⟩ = some (.int .i64 s.err) := qx.cell 1
    have b2 : W2.cell? ⟨bx, 2, none⟩ = some (.slice A' s.baths.length c') := qx.cell 2
    have ff := q12.frozen0
    have lq1 := q12.lt
    have hw1 : w.heap.size ≤ w.heap.size + 1 := by omega
    have B9 := ex_set (ex_set (ex_set BW2.drew (p := ⟨w.heap.size + 1, 0, none⟩) hw1 (.slice Ao s.offs.length co)) (p := ⟨w.heap.size + 1, 1, none⟩) hw1 (.int .i64 s.err)) (p := ⟨w.heap.size + 1, 2, none⟩) hw1 (.slice A' s.baths.length c')
    have qd := q12.drew
    have q8a := qd.set_ 0 (.slice Ao s.offs.length co)
    have q8b := q8a.set_ 1 (.int .i64 s.err)
    have q8 := q8b.set_ 2 (.slice A' s.baths.length c')
    have hN9 := (((hN.below (Below.refl W2.heap.size W2).drew).set qd (by decide) (by decide) 0 (.slice Ao s.offs.length co)).set q8a (by decide) (by decide) 1 (.int .i64 s.err)).set q8b (by decide) (by decide) 2 (.slice A' s.baths.length c')
    have ro9 := (((ro2.below (Below.refl W2.heap.size W2).drew).set qd (by decide) 0 (.slice Ao s.offs.length co)).set q8a (by decide) 1 (.int .i64 s.err)).set q8b (by decide) 2 (.slice A' s.baths.length c')
    have rh9 := (((rh.below (Below.refl W2.heap.size W2).drew).set qd (by decide) 0 (.slice Ao s.offs.length co)).set q8a (by decide) 1 (.int .i64 s.err)).set q8b (by decide) 2 (.slice A' s.baths.length c')
    have HB9 := Lib.hid B9
    clear B9
    simp only [List.setIfInBounds_toArray, List.set_cons_zero, List.set_cons_succ] at q8
    clear q8a q8b qd
    obtain ⟨Ab9, cb9, rA9, rc9, e9, hse⟩ := nown_se (s := ⟨s.offs, s.err, X.map (·.1)⟩) hN9 rfl ((hs.offs.below HB9.out).up HB9.out.size)
    rw [show (⟨s.offs, s.err, X.map (·.1)⟩ : Se).baths.length = s.baths.length from HRV.out.lb] at e9
    injection e9 with e9 e90 e92
    subst e9 e92
    clear e90 hN hN9 ro ro2 rh
    have HSE := Lib.hid hse
    have HRO := Lib.hid ro9.sl
    have HRH := Lib.hid rh9.sl
    clear hse ro9 rh9
    go_wp2_with fail
    refine wp_region_ext_mix 5 [(false, 0), (false, 1), (false, 2), (false, 3), (false, 4)] (by kernel_rfl) (by kernel_rfl) (by intro d _ _ _ _ h; cases d <;> exact h) ?_
    repeat (refine mix_quiet rfl ?_; go_big_quiet_step (fail); refine wpQuiet_nil ?_)
    refine mix_nil rfl ?_
    go_wp2
    refine bodyPost_ret (results_ttc_row rfl _ _ (w.heap.size + 1) 25 #[.slice Ao s.offs.length co, .int .i64 s.err, .slice A' s.baths.length c'] (0, 0) _ rfl q8 rfl rfl rfl) rfl ?_
    exact ⟨⟨_, _, _, _, _, _, _, _, o, h, _, HRV, rfl, HRO.out, HRH.out, HSE.out⟩, HB9.out⟩
  obtain ⟨bb, ob, rfl, hbb, g0, g1, g2⟩ := IsBts.at_ (hs.baths.below BW2) hlt2
  have hrd := hs.reads k hlt2
  have hrl := HT.out.nr k hlt2
  have hhb := HOK.out.heats k hlt2
  have hin := HOK.out.inst k hlt2
  obtain ⟨bt, hbt⟩ : ∃ bt, gBt s.baths k = bt := ⟨_, rfl⟩
  obtain ⟨lo, hlo⟩ : ∃ lo, bt.heat.lo = lo := ⟨_, rfl⟩
  obtain ⟨hi, hhi⟩ : ∃ hi, bt.heat.hi = hi := ⟨_, rfl⟩
  obtain ⟨rd, hrdE⟩ : ∃ rd, bt.reads = rd := ⟨_, rfl⟩
  obtain ⟨Ar, hAr⟩ : ∃ Ar, rA k = Ar := ⟨_, rfl⟩
  obtain ⟨cr, hcr⟩ : ∃ cr, rc k = cr := ⟨_, rfl⟩
  have HGB : Hid (∀ Y, Below w.heap.size w Y → Y.cell? ⟨bb, ob + k * 3, none⟩ = some (.int .i64 lo) ∧ Y.cell? ⟨bb, ob + k * 3 + 1, none⟩ = some (.int .i64 hi) ∧ Y.cell? ⟨bb, ob + k * 3 + 2, none⟩ = some (.slice Ar rd.length cr)) := Lib.hid (fun Y hY => by
    obtain ⟨b', o', e, _, h3, h4, h5⟩ := IsBts.at_ (hs.baths.below hY) hlt2
    injection e with e
    injection e with e1 e2
    subst e1 e2
    rw [h3, h4, h5, hAr, hcr, hbt, hlo, hhi, hrdE]
    exact ⟨rfl, rfl, rfl⟩)
  have HBK : Hid (∀ hv rd', lo ≤ hv → hv ≤ hi → BathR s o hv bt rd' rd.length → BathsR s o (k + 1) (h ++ [hv]) (X.map (·.1) ++ [(⟨⟨lo, hi⟩, rd'⟩ : Bt)])) := Lib.hid (fun hv rd' h1 h2 h3 => by
    have := HB.out.snoc (hv := hv) (rd := rd') (by rw [hbt, hlo]; exact h1) (by rw [hbt, hhi]; exact h2) (by rw [hbt, hrdE]; exact h3)
    rw [hbt, ← show bt.heat = ⟨lo, hi⟩ from by rw [← hlo, ← hhi]] at *
    exact this)
  have HBT := Lib.hid hrdE
  rw [hbt] at g0 g1 g2 hrd hrl hhb hin
  rw [hlo] at g0 hhb
  rw [hhi] at g1 hhb
  rw [hrdE] at g2 hrd hrl hin
  rw [hAr] at g2 hrd
  rw [hcr] at g2
  have hxl : X.length ≤ 1000 := by have := HB.out.lx; rw [List.length_map] at this; omega
  have hhl : h.length ≤ 1000 := by have := HB.out.lh; omega
  have HIN := Lib.hid hin
  clear hlo hhi hrdE hAr hcr hbt hin HB
  have lbb : bb < W2.heap.size := by have := BW2.size; omega
  go_wp2_with fail
  refine wp_region_ext_mix 10 [(false, 0), (false, 1), (false, 2), (false, 3), (false, 4), (false, 5), (false, 6), (false, 7), (true, 8), (true, 9)] (by kernel_rfl) (by kernel_rfl) (by intro d _ _ _ _ h; cases d <;> exact h) ?_
  repeat (refine mix_quiet rfl ?_; go_big_quiet_step (fail); refine wpQuiet_nil ?_)
  have hX0 := (Below.refl W2.heap.size W2).drew
  refine mix_loud rfl ?_
  go_wp2_with fail
  refine (word_law Aw cw ws m W2.drew ((hws.below BW2).up BW2.size) hwv (by omega) (by omega) hwl).mono ?_
  rintro e x1 ⟨⟨nv, rfl, hv0, hv1⟩, hx1⟩
  have hX_x1 := ex_trans hX0 hx1
  go_wp2_with fail
  refine ⟨inEx hX_x1, ?_⟩
  repeat (refine mix_quiet rfl ?_; go_big_quiet_step (fail); refine wpQuiet_nil ?_)
  refine mix_loud rfl ?_
  go_wp2_with fail
  refine (some_law lo hi nv x1 hv0 hv1 (by omega) (by omega) (by omega)).mono ?_
  rintro e x2 ⟨⟨hv, rfl, hh0, hh1⟩, hx2⟩
  have hX_x2 := ex_trans hX_x1 hx2
  go_wp2_with fail
  refine ⟨inEx hX_x2, ?_⟩
  repeat (refine mix_quiet rfl ?_; go_big_quiet_step (fail); refine wpQuiet_nil ?_)
  refine mix_nil rfl ?_
  have BX2 := ex_trans BW2 hX_x2
  have q0x := q02.below hX_x2 l0
  have qxx := qx.below hX_x2 lbx
  have l0x := q0x.lt
  have a2x : x2.cell? ⟨w.heap.size, 2, none⟩ = some (.slice (some ⟨bb, ob, none⟩) s.baths.length cb) := q0x.cell 2
  obtain ⟨g0x, g1x, g2x⟩ := HGB.out x2 BX2
  have lbbx : bb < x2.heap.size := by have := hX_x2.size; omega
  have HX0 := Blk.new x2 82 #[.int .i64 lo, .int .i64 hi, .slice none 0 0]
  have hX4 := ex_alloc (Below.refl x2.heap.size x2) (.cells #[.int .i64 lo, .int .i64 hi, .slice none 0 0] 82)
  have hX4s : x2.heap.size + 1 ≤ (x2.alloc (.cells #[.int .i64 lo, .int .i64 hi, .slice none 0 0] 82)).heap.size := by simp
  clear a2 g0 g1 g2 l0 q02 lbb lbx
  go_wp2_with fail
  obtain ⟨px, hpx⟩ : ∃ px, x2.heap.size = px := ⟨_, rfl⟩
  have HPX := Lib.hid hpx
  generalize x2.alloc (.cells #[.int .i64 lo, .int .i64 hi, .slice none 0 0] 82) = X4 at *
  rw [hpx] at HX0 hX4s ⊢
  have hown2 := own_below hown hX_x2
  have hN2 := hN.below hX_x2
  have hsx := hX_x2.size
  clear hpx hX0 hX_x1 hx1 hx2 hown hN a2x g0x g1x g2x l0x qx
  generalize x2 = V2 at *
  refine wp_loop (fun a Y => Rel (fun a Y => ∃ i : Nat, i ≤ rd.length ∧ Below V2.heap.size V2 Y ∧ px + 1 ≤ Y.heap.size ∧ ∃ m3 : Int, 0 ≤ m3 ∧ m3 ≤ 9 + 10 * (k : Int) + 1 + (i : Int) ∧ ∃ A3 c3, ∃ L3 : List Rd, Hid (BathR s o hv bt L3 i) ∧ Blk Y px 82 #[.int .i64 lo, .int .i64 hi, .slice A3 L3.length c3] ∧ Y.ownsRow (px + 1) 89 2 (.slice A3 L3.length c3) L3.length (L3.flatMap cRd) ∧ ∃ u : Nat → Value, a = ⟨List.toArray (u 0 :: .slice Aw ws.length cw :: .pointer (some ⟨w.heap.size, 0, none⟩) :: u 3 :: u 4 :: u 5 :: .pointer (some ⟨w.heap.size + 1, 0, none⟩) :: .slice A1 s.offs.length c1 :: vh :: u 9 :: .pointer (some ⟨bx, 0, none⟩) :: .int .i64 m3 :: .int .i64 (k : Int) :: .int .i64 hv :: .pointer (some ⟨px, 0, none⟩) :: .int .i64 (i : Int) :: u 16 :: u 17 :: u 18 :: u 19 :: u 20 :: u 21 :: u 22 :: u 23 :: u 24 :: u 25 :: u 26 :: u 27 :: u 28 :: u 29 :: u 30 :: u 31 :: u 32 :: u 33 :: u 34 :: u 35 :: u 36 :: u 37 :: u 38 :: u 39 :: u 40 :: u 41 :: u 42 :: u 43 :: u 44 :: u 45 :: u 46 :: u 47 :: u 48 :: u 49 :: u 50 :: u 51 :: u 52 :: u 53 :: u 54 :: u 55 :: u 56 :: u 57 :: u 58 :: u 59 :: u 60 :: u 61 :: u 62 :: u 63 :: u 64 :: u 65 :: u 66 :: u 67 :: u 68 :: u 69 :: u 70 :: u 71 :: u 72 :: u 73 :: u 74 :: u 75 :: u 76 :: u 77 :: u 78 :: u 79 :: u 80 :: u 81 :: u 82 :: u 83 :: u 84 :: u 85 :: u 86 :: u 87 :: u 88 :: u 89 :: u 90 :: u 91 :: u 92 :: u 93 :: u 94 :: u 95 :: u 96 :: u 97 :: u 98 :: u 99 :: u 100 :: u 101 :: u 102 :: u 103 :: u 104 :: u 105 :: u 106 :: u 107 :: u 108 :: u 109 :: u 110 :: u 111 :: u 112 :: u 113 :: u 114 :: u 115 :: u 116 :: u 117 :: u 118 :: u 119 :: u 120 :: u 121 :: u 122 :: u 123 :: u 124 :: u 125 :: u 126 :: u 127 :: u 128 :: []), []⟩) a Y)
    (fun a _ => rd.length - (intOf (a.tmps.getD 15 undef)).toNat) ⟨⟨0, by omega, hX4, hX4s, m + 1, by omega, by omega, none, 0, [], Lib.hid .nil, HX0, ⟨rfl, .inl ⟨rfl, rfl⟩⟩, exFrame (by kernel_rfl)⟩⟩ ?_
  clear HX0 hX4 hX4s X4
  rintro a Y ⟨⟨i, hi', hbY, hsY, m3, hm30, hm31, A3, c3, L3, HL3, qp, own3, u, rfl⟩⟩
  have BY := ex_trans BX2 hbY
  have hYs := hbY.size
  have hpX := HPX.out
  have q0Y := q0x.below hbY q0x.lt
  have l0 := q0Y.lt
  have lx := qp.lt
  have a2 : Y.cell? ⟨w.heap.size, 2, none⟩ = some (.slice (some ⟨bb, ob, none⟩) s.baths.length cb) := q0Y.cell 2
  have g2 := (HGB.out Y BY).2.2
  have lbY : bb < Y.heap.size := by omega
  by_cases hli : i < rd.length
  · --BEGIN o4
    obtain ⟨br, orr, rfl, hbr, r0, r1⟩ := IsRds.at_ (hrd.below BY) hli
    have lbr : br < Y.heap.size := by omega
    have hlen3 : L3.length ≤ 1000 := by rw [HL3.out.len]; omega
    obtain ⟨hi0, hi1⟩ := HIN.out i hli
    obtain ⟨iv, hiv⟩ : ∃ iv, (gRd rd i).inst = iv := ⟨_, rfl⟩
    rw [hiv] at hi0 hi1 r0
    obtain ⟨n, rfl⟩ : ∃ n : Nat, iv = (n : Int) := ⟨iv.toNat, by omega⟩
    have hn : n < s.offs.length := by omega
    obtain ⟨ba, oa, rfl, hba, s0⟩ := IsInts.at_ (ro.sl.below (ex_trans (ex_trans hb2 hX_x2) hbY)) hn
    have lba : ba < Y.heap.size := by omega
    have hob := HOK.out.offs n hn
    have hoo := HO.out.at_ n hn
    obtain ⟨ov, hov⟩ : ∃ ov, gI o n = ov := ⟨_, rfl⟩
    rw [hov] at s0 hoo
    have HN3 : Hid (∀ xv, -s.err ≤ xv → xv ≤ s.err → BathR s o hv bt (L3 ++ [⟨(n : Int), hv + ov + xv⟩]) (i + 1)) := Lib.hid (fun xv h1 h2 => HL3.out.snoc (by rw [HBT.out, hiv]) (by rw [Int.toNat_natCast, hov]; omega) (by rw [Int.toNat_natCast, hov]; omega))
    have hob2 : -100 ≤ ov ∧ ov ≤ 100 := by omega
    clear hiv hov hob hoo hi0 hi1
    have kw1 : IntKind.i64.wrap (hv + ov) = hv + ov := IntWalk.i64_in _ (by omega)
    have kneg : IntKind.i64.wrap (-s.err) = -s.err := IntWalk.i64_in _ (by omega)
    have a1 : Y.cell? ⟨w.heap.size, 1, none⟩ = some (.int .i64 s.err) := q0Y.cell 1
    have x2 : Y.cell? ⟨px, 2, none⟩ = some (.slice A3 L3.length c3) := qp.cell 2
    obtain ⟨row, hrow⟩ : ∃ row, (Value.slice A3 L3.length c3).ownBlock = row := ⟨_, rfl⟩
    have hge := fun (j : Nat) (hj : (Value.slice A3 L3.length c3).ownBlock = some j) => own_ge own3 hj
    have hn0 : ¬ some w.heap.size = row := fun e => by have := hge _ (hrow.trans e.symm); omega
    have hnx : ¬ some px = row := fun e => by have := hge _ (hrow.trans e.symm); omega
    have hnb' : ¬ some bb = row := fun e => by have := hge _ (hrow.trans e.symm); omega
    have hnr : ¬ some br = row := fun e => by have := hge _ (hrow.trans e.symm); omega
    have hna : ¬ some ba = row := fun e => by have := hge _ (hrow.trans e.symm); omega
    have hrw : ∀ j, row = some j → px + 1 ≤ j := fun j hj => hge _ (hrow.trans hj)
    have HROW := Lib.hid hrow
    clear hrow hge
    go_wp2_with fail
    refine wp_region_gx_mix row 24 [(false, 0), (false, 1), (false, 2), (false, 3), (false, 4), (false, 5), (false, 6), (false, 7), (false, 8), (false, 9), (false, 10), (false, 11), (false, 12), (false, 13), (false, 14), (false, 15), (false, 16), (true, 17), (true, 18), (false, 19), (false, 20), (true, 21), (true, 22), (false, 23)] (by kernel_rfl) (by kernel_rfl) (by intro d _ _ _ _ h; cases d <;> exact h) ?_
    repeat (refine mix_quiet rfl ?_; go_big_quiet_step (fail); refine wpQuiet_nil ?_)
    have hX0 := (Below.refl Y.heap.size Y).drew
    refine mix_loud rfl ?_
    go_wp2_with fail
    refine (word_law Aw cw ws m3 Y.drew ((hws.below BY).up BY.size) hwv (by omega) (by omega) hwl).mono ?_
    rintro e z1 ⟨⟨nv, rfl, hv0, hv1⟩, hz1⟩
    have hX_z1 := ex_trans hX0 hz1
    go_wp2_with fail
    refine ⟨inGx (grown_row hX_z1), ?_⟩
    repeat (refine mix_quiet rfl ?_; go_big_quiet_step (fail); refine wpQuiet_nil ?_)
    refine mix_loud rfl ?_
    go_wp2_with fail
    refine (some_law (-s.err) s.err nv z1 hv0 hv1 (by omega) (by omega) (by omega)).mono ?_
    rintro e z2 ⟨⟨xv, rfl, he0, he1⟩, hz2⟩
    have kw2 : IntKind.i64.wrap (hv + ov + xv) = hv + ov + xv := IntWalk.i64_in _ (by omega)
    have hX_z2 := ex_trans hX_z1 hz2
    go_wp2_with fail
    refine ⟨inGx (grown_row hX_z2), ?_⟩
    repeat (refine mix_quiet rfl ?_; go_big_quiet_step (fail); refine wpQuiet_nil ?_)
    refine mix_loud rfl ?_
    go_wp2_with fail
    have hX3 := ex_alloc hX_z2 (.cells #[.int .i64 (n : Int), .int .i64 (hv + ov + xv)] 89)
    refine ⟨inGx (grown_row hX3), ?_⟩
    repeat (refine mix_quiet rfl ?_; go_big_quiet_step (fail); refine wpQuiet_nil ?_)
    have y4 := own_below own3 hX3
    have c63 : L3.length + 1 ≤ maxLen := by unfold maxLen; omega
    have cby : (L3.length + 1) * 16 ≤ 140737488355328 := by omega
    have hbase : px + 1 ≤ (z2.alloc (.cells #[.int .i64 (n : Int), .int .i64 (hv + ov + xv)] 89)).heap.size := by have := hX3.size; omega
    refine mix_loud rfl ?_
    go_wp2_with (at_builtin; refine wpList_append_lies _ rfl _ _ _ rfl (px + 1) 89 i1 _ 2 16 Try.underlying80 HJ.out hy0 hy1 hy2 rfl (by omega) (.slice A3 L3.length c3) _ _ rfl y4 ⟨z2.heap.size, 0, none⟩ 1 1 [.int .i64 (n : Int), .int .i64 (hv + ov + xv)] rfl rfl (World.news_of_block (heap_alloc_new z2 _)) (by simp [Value.oneCell']) (by omega) c63 cby hbase (z2.heap.size + 1) (by simp) ?_; intro gg cap w1 hown' hgrow hat hlt')
    rw [HROW.out] at hgrow
    have hgB := (grown_row (r := row) hX3).andThen hgrow (fun j hj => .inr hj)
    refine ⟨inGx hgB, ?_⟩
    repeat (refine mix_quiet rfl ?_; go_big_quiet_step (fail); refine wpQuiet_nil ?_)
    refine mix_nil rfl ?_
    have hX1 := hbY.grown hgB hbY.size (fun j hj => by have := hrw j hj; omega)
    have qx3 := qp.grown hgB hnx
    have x13 : w1.cell? ⟨px, 2, none⟩ = some (.slice A3 L3.length c3) := qx3.cell 2
    have lx3 := qx3.lt
    have fx3 := qx3.frozen0
    have qx4 := qx3.set_ 2 (.slice (some ⟨gg, 0, none⟩) (L3.length + 1) cap)
    simp only [List.setIfInBounds_toArray, List.set_cons_zero, List.set_cons_succ] at qx4
    have own4 := own_far (own_push (f := cRd) (x := ⟨(n : Int), hv + ov + xv⟩) rfl hown') (p := ⟨px, 2, none⟩) (by show px < px + 1; omega) (.slice (some ⟨gg, 0, none⟩) (L3.length + 1) cap)
    have hB5 := ex_set hX1 (p := ⟨px, 2, none⟩) (by show V2.heap.size ≤ px; omega) (.slice (some ⟨gg, 0, none⟩) (L3.length + 1) cap)
    have hs5 : px + 1 ≤ (w1.setCell ⟨px, 2, none⟩ (.slice (some ⟨gg, 0, none⟩) (L3.length + 1) cap)).heap.size := by have := hgB.size; simp; omega
    have HL4 := Lib.hid (HN3.out xv he0 he1)
    generalize hL4 : L3 ++ [(⟨(n : Int), hv + ov + xv⟩ : Rd)] = L4 at *
    have hl4 : L3.length + 1 = L4.length := by rw [← hL4]; simp
    have HL5 := Lib.hid hl4
    clear hL4 hl4
    rw [HL5.out] at qx4 own4 hB5 hs5
    clear hown' hgB hgrow y4 hX3 hX_z1 hX_z2 hX0 hX1 own3 x2 a1 a2 g2 r0 r1 s0 hn0 hnx hnb' hnr hna qp
    go_wp2_with fail
    rw [HL5.out]
    refine ⟨⟨⟨i + 1, by omega, hB5, hs5, m3 + 1, by omega, by push_cast; omega, _, _, L4, HL4, qx4, own4, exFrame (by kernel_rfl)⟩⟩, ?_⟩
    show rd.length - (intOf (.int .i64 ((i : Int) + 1))).toNat < rd.length - (intOf (.int .i64 (i : Int))).toNat
    simp [intOf]
    omega
  obtain rfl : i = rd.length := by omega
  obtain ⟨A5, c5, e5, k1, k2, hr5⟩ := own_row (c := cRd) (sz := 2) (fun _ => rfl) (f := fRd L3) (fun k hk j hj => by
    have e := gRd_at hk
    match j, hj with
    | 0, _ => simp [cRd, fRd, e]
    | 1, _ => simp [cRd, fRd, e]) own3
  injection e5 with e5 e50 e52
  subst e5 e52
  clear e50 k1 k2
  have hNY := hN2.below hbY
  have hoY := own_below hown2 hbY
  have qxY := qxx.below hbY qxx.lt
  have lbx := qxY.lt
  have x0 : Y.cell? ⟨px, 0, none⟩ = some (.int .i64 lo) := qp.cell 0
  have x1 : Y.cell? ⟨px, 1, none⟩ = some (.int .i64 hi) := qp.cell 1
  have x2 : Y.cell? ⟨px, 2, none⟩ = some (.slice A3 L3.length c3) := qp.cell 2
  have b2 : Y.cell? ⟨bx, 2, none⟩ = some v := qxY.cell 2
  obtain ⟨R, hR⟩ : ∃ R : Nat → Prop, R = fun y => vh.ownBlock = some y ∨ v.ownBlock = some y := ⟨_, rfl⟩
  have EN0 : RE (bx + 1) Y R vh h v X A3 L3 Y.drew := ⟨(Fr.refl _ Y).drew, hoY, hNY.below (Below.refl Y.heap.size Y).drew, (hr5.base (by omega)).below (Below.refl Y.heap.size Y).drew, fun y hy => .inl (by rw [hR]; exact .inl hy), fun y hy => .inl (by rw [hR]; exact .inr hy)⟩
  have z1 : ∀ y, vh.ownBlock = some y → y < Y.heap.size := fun y hy => (own_lt hoY hy).2
  have z2 : ∀ y, v.ownBlock = some y → y < Y.heap.size := fun y hy => (own_lt hNY.own hy).2
  have hRge : ∀ y, R y → bx + 1 ≤ y := fun y hy => by
    rw [hR] at hy
    rcases hy with hy | hy
    · exact own_ge hoY hy
    · exact own_ge hNY.own hy
  have nbx : ¬ R bx := fun hy => by have := hRge _ hy; omega
  have npx : ¬ R px := fun hy => by
    rw [hR] at hy
    rcases hy with hy | hy
    · exact own_blkne hoY qp (by decide) hy
    · have := (own_lt hN2.own hy).2; omega
  have hbYV : Below V.heap.size V Y := ex_trans (ex_trans hb2 hX_x2) hbY
  have HQX := Lib.hid qxY
  have HEND : Hid (∀ (W9 : World) (u1 u2 : Value), RE (bx + 1) Y R u1 (h ++ [hv]) u2 (X ++ [((⟨⟨lo, hi⟩, L3⟩ : Bt), A3, c3)]) A3 L3 W9 → Below V.heap.size V (W9.setCell ⟨bx, 2, none⟩ u2) ∧ bx + 1 ≤ (W9.setCell ⟨bx, 2, none⟩ u2).heap.size ∧ Blk (W9.setCell ⟨bx, 2, none⟩ u2) bx 25 #[.slice Ao s.offs.length co, .int .i64 s.err, u2] ∧ ROwn (W9.setCell ⟨bx, 2, none⟩ u2) (bx + 1) u2 (X ++ [((⟨⟨lo, hi⟩, L3⟩ : Bt), A3, c3)]) ∧ (W9.setCell ⟨bx, 2, none⟩ u2).ownsRow (bx + 1) 3 1 u1 (h ++ [hv]).length ((h ++ [hv]).map (Value.int .i64))) := Lib.hid (fun W9 u1 u2 E => by
    have b3 := HQX.out.fr E.fr nbx
    have q := b3.set_ 2 u2
    simp only [List.setIfInBounds_toArray, List.set_cons_zero, List.set_cons_succ] at q
    have hB : Below V.heap.size V W9 := E.fr.toBelow hbYV hbYV.size (fun x hx => by have := hRge x hx; omega)
    exact ⟨ex_set hB (p := ⟨bx, 2, none⟩) (by show V.heap.size ≤ bx; omega) u2, by have := b3.lt; simp; omega, q, E.o2.set b3 (by decide) (by decide) 2 u2, own_far E.o1 (p := ⟨bx, 2, none⟩) (by show bx < bx + 1; omega) u2⟩)
  have HB5 : Hid (BathsR s o (k + 1) (h ++ [hv]) ((X ++ [((⟨⟨lo, hi⟩, L3⟩ : Bt), A3, c3)]).map (·.1))) := Lib.hid (by
    rw [List.map_append]
    exact HBK.out hv L3 hh0 hh1 HL3.out)
  clear own3 hr5 hNY hoY hN2 hown2 qxY qxx hR
  go_wp2_with fail
  refine wp_region_fx_tq R 9 (.quiet 0 (.quiet 1 (.quiet 4 (.quiet 5 (.quiet 6 (.fork 2 (.fork 3 (.loud 7 (.loud 8 .done)) 7 (.loud 3 (.loud 8 .done))) 7 (.loud 2 (.loud 3 (.loud 8 .done))))))))) (by kernel_rfl) (by kernel_rfl) (by intro d _ _ _ _ h; cases d <;> exact h) ?_
  repeat (refine tq_quiet rfl ?_; go_big_quiet_step (fail); refine wpQuiet_nil ?_)
  have hV0 : Y.heap.size = Y.drew.heap.size := rfl
  generalize Y.drew = D at *
  clear x0 x1 x2 lx b2 lbx a2 g2 l0
  refine tq_fork rfl rfl ?_ ?_
  · have E1 := EN0.alloc (.cells #[.int .i64 hv] 3)
    have q1_2 : Blk (D.alloc (.cells #[.int .i64 hv] 3)) D.heap.size 3 #[.int .i64 hv] := Blk.new _ _ _
    have g1 : Y.heap.size ≤ D.heap.size := EN0.fr.size
    go_wp2_with fail
    refine ⟨inFx E1.fr, ?_⟩
    generalize D.alloc (.cells #[.int .i64 hv] 3) = D1 at *
    refine tq_fork rfl rfl ?_ ?_
    · go_wp2_with (at_builtin; refine wpList_append_lies _ rfl _ _ _ rfl (bx + 1) 3 i0 _ 1 8 Try.underlying52 HI.out hz0 hz1 hz2 rfl (by omega) vh _ _ rfl E1.o1 ⟨D.heap.size, 0, none⟩ 1 1 [.int .i64 hv] rfl rfl (World.news_of_block q1_2) (by simp [Value.oneCell']) (by omega) (by unfold maxLen; omega) (by omega) (by have := E1.fr.size; omega) D1.heap.size rfl ?_; intro gg2 cap2 D2 ho2 hg2 hat2 _)
      have E2 := E1.app1 hg2 ho2 (hat2.imp id (fun e => by omega))
      refine ⟨inFx E2.fr, ?_⟩
      refine tq_loud rfl ?_
      have E3 := E2.alloc (.cells #[.int .i64 lo, .int .i64 hi, .slice A3 L3.length c3] 82)
      have q3_7 : Blk (D2.alloc (.cells #[.int .i64 lo, .int .i64 hi, .slice A3 L3.length c3] 82)) D2.heap.size 82 #[.int .i64 lo, .int .i64 hi, .slice A3 L3.length c3] := Blk.new _ _ _
      have g3 : Y.heap.size ≤ D2.heap.size := E2.fr.size
      go_wp2_with fail
      refine ⟨inFx E3.fr, ?_⟩
      generalize D2.alloc (.cells #[.int .i64 lo, .int .i64 hi, .slice A3 L3.length c3] 82) = D3 at *
      refine tq_loud rfl ?_
      go_wp2_with (at_builtin; refine wpList_append_lies _ rfl _ _ _ rfl (bx + 1) 82 i2 _ 3 40 Try.underlying23 HK.out hu0 hu1 hu2 rfl (by omega) v _ _ rfl E3.o2.own ⟨D2.heap.size, 0, none⟩ 1 1 [.int .i64 lo, .int .i64 hi, .slice A3 L3.length c3] rfl rfl (World.news_of_block q3_7) (by simp [Value.oneCell']) (by omega) (by unfold maxLen; omega) (by omega) (by have := E3.fr.size; omega) D3.heap.size rfl ?_; intro gg4 cap4 D4 ho4 hg4 hat4 _)
      have E4 := E3.app2 hg4 ho4 (hat4.imp id (fun e => by omega))
      refine ⟨inFx E4.fr, ?_⟩
      refine tq_done (r := [_, _, _]) rfl ?_
      have y0 := HQX.out.fr E4.fr nbx
      have y2 : D4.cell? ⟨bx, 2, none⟩ = some v := y0.cell 2
      have f0 := y0.frozen0
      have lq := y0.lt
      obtain ⟨t1, t2, t3, t4, t5⟩ := HEND.out _ _ _ E4
      clear y0
      go_wp2_with fail
      refine ⟨⟨⟨k + 1, by omega, t1, t2, m3, hm30, by push_cast; omega, _, _, _, _, HB5, t3, t4, t5, exFrame (by kernel_rfl)⟩⟩, ?_⟩
      show s.baths.length - (intOf (.int .i64 ((k : Int) + 1))).toNat < s.baths.length - (intOf (.int .i64 (k : Int))).toNat
      simp [intOf]
      omega
    · have E5 := E1.alloc (.cells #[.int .i64 lo, .int .i64 hi, .slice A3 L3.length c3] 82)
      have q5_2 := q1_2.alloc (.cells #[.int .i64 lo, .int .i64 hi, .slice A3 L3.length c3] 82)
      have q5_7 : Blk (D1.alloc (.cells #[.int .i64 lo, .int .i64 hi, .slice A3 L3.length c3] 82)) D1.heap.size 82 #[.int .i64 lo, .int .i64 hi, .slice A3 L3.length c3] := Blk.new _ _ _
      have g5 : Y.heap.size ≤ D1.heap.size := E1.fr.size
      go_wp2_with fail
      refine ⟨inFx E5.fr, ?_⟩
      generalize D1.alloc (.cells #[.int .i64 lo, .int .i64 hi, .slice A3 L3.length c3] 82) = D5 at *
      refine tq_loud rfl ?_
      go_wp2_with (at_builtin; refine wpList_append_lies _ rfl _ _ _ rfl (bx + 1) 3 i0 _ 1 8 Try.underlying52 HI.out hz0 hz1 hz2 rfl (by omega) vh _ _ rfl E5.o1 ⟨D.heap.size, 0, none⟩ 1 1 [.int .i64 hv] rfl rfl (World.news_of_block q5_2) (by simp [Value.oneCell']) (by omega) (by unfold maxLen; omega) (by omega) (by have := E5.fr.size; omega) D5.heap.size rfl ?_; intro gg6 cap6 D6 ho6 hg6 hat6 _)
      have E6 := E5.app1 hg6 ho6 (hat6.imp id (fun e => by omega))
      have q6_7 := q5_7.grown hg6 (fun e => by have := z1 _ e.symm; omega)
      refine ⟨inFx E6.fr, ?_⟩
      refine tq_loud rfl ?_
      go_wp2_with (at_builtin; refine wpList_append_lies _ rfl _ _ _ rfl (bx + 1) 82 i2 _ 3 40 Try.underlying23 HK.out hu0 hu1 hu2 rfl (by omega) v _ _ rfl E6.o2.own ⟨D1.heap.size, 0, none⟩ 1 1 [.int .i64 lo, .int .i64 hi, .slice A3 L3.length c3] rfl rfl (World.news_of_block q6_7) (by simp [Value.oneCell']) (by omega) (by unfold maxLen; omega) (by omega) (by have := E6.fr.size; omega) D6.heap.size rfl ?_; intro gg7 cap7 D7 ho7 hg7 hat7 _)
      have E7 := E6.app2 hg7 ho7 (hat7.imp id (fun e => by omega))
      refine ⟨inFx E7.fr, ?_⟩
      refine tq_done (r := [_, _, _]) rfl ?_
      have y0 := HQX.out.fr E7.fr nbx
      have y2 : D7.cell? ⟨bx, 2, none⟩ = some v := y0.cell 2
      have f0 := y0.frozen0
      have lq := y0.lt
      obtain ⟨t1, t2, t3, t4, t5⟩ := HEND.out _ _ _ E7
      clear y0
      go_wp2_with fail
      refine ⟨⟨⟨k + 1, by omega, t1, t2, m3, hm30, by push_cast; omega, _, _, _, _, HB5, t3, t4, t5, exFrame (by kernel_rfl)⟩⟩, ?_⟩
      show s.baths.length - (intOf (.int .i64 ((k : Int) + 1))).toNat < s.baths.length - (intOf (.int .i64 (k : Int))).toNat
      simp [intOf]
      omega
  · have E8 := EN0.alloc (.cells #[.int .i64 lo, .int .i64 hi, .slice A3 L3.length c3] 82)
    have q8_7 : Blk (D.alloc (.cells #[.int .i64 lo, .int .i64 hi, .slice A3 L3.length c3] 82)) D.heap.size 82 #[.int .i64 lo, .int .i64 hi, .slice A3 L3.length c3] := Blk.new _ _ _
    have g8 : Y.heap.size ≤ D.heap.size := EN0.fr.size
    go_wp2_with fail
    refine ⟨inFx E8.fr, ?_⟩
    generalize D.alloc (.cells #[.int .i64 lo, .int .i64 hi, .slice A3 L3.length c3] 82) = D8 at *
    refine tq_loud rfl ?_
    have E9 := E8.alloc (.cells #[.int .i64 hv] 3)
    have q9_7 := q8_7.alloc (.cells #[.int .i64 hv] 3)
    have q9_2 : Blk (D8.alloc (.cells #[.int .i64 hv] 3)) D8.heap.size 3 #[.int .i64 hv] := Blk.new _ _ _
    have g9 : Y.heap.size ≤ D8.heap.size := E8.fr.size
    go_wp2_with fail
    refine ⟨inFx E9.fr, ?_⟩
    generalize D8.alloc (.cells #[.int .i64 hv] 3) = D9 at *
    refine tq_loud rfl ?_
    go_wp2_with (at_builtin; refine wpList_append_lies _ rfl _ _ _ rfl (bx + 1) 3 i0 _ 1 8 Try.underlying52 HI.out hz0 hz1 hz2 rfl (by omega) vh _ _ rfl E9.o1 ⟨D8.heap.size, 0, none⟩ 1 1 [.int .i64 hv] rfl rfl (World.news_of_block q9_2) (by simp [Value.oneCell']) (by omega) (by unfold maxLen; omega) (by omega) (by have := E9.fr.size; omega) D9.heap.size rfl ?_; intro gg10 cap10 D10 ho10 hg10 hat10 _)
    have E10 := E9.app1 hg10 ho10 (hat10.imp id (fun e => by omega))
    have q10_7 := q9_7.grown hg10 (fun e => by have := z1 _ e.symm; omega)
    refine ⟨inFx E10.fr, ?_⟩
    refine tq_loud rfl ?_
    go_wp2_with (at_builtin; refine wpList_append_lies _ rfl _ _ _ rfl (bx + 1) 82 i2 _ 3 40 Try.underlying23 HK.out hu0 hu1 hu2 rfl (by omega) v _ _ rfl E10.o2.own ⟨D.heap.size, 0, none⟩ 1 1 [.int .i64 lo, .int .i64 hi, .slice A3 L3.length c3] rfl rfl (World.news_of_block q10_7) (by simp [Value.oneCell']) (by omega) (by unfold maxLen; omega) (by omega) (by have := E10.fr.size; omega) D10.heap.size rfl ?_; intro gg11 cap11 D11 ho11 hg11 hat11 _)
    have E11 := E10.app2 hg11 ho11 (hat11.imp id (fun e => by omega))
    refine ⟨inFx E11.fr, ?_⟩
    refine tq_done (r := [_, _, _]) rfl ?_
    have y0 := HQX.out.fr E11.fr nbx
    have y2 : D11.cell? ⟨bx, 2, none⟩ = some v := y0.cell 2
    have f0 := y0.frozen0
    have lq := y0.lt
    obtain ⟨t1, t2, t3, t4, t5⟩ := HEND.out _ _ _ E11
    clear y0
    go_wp2_with fail
    refine ⟨⟨⟨k + 1, by omega, t1, t2, m3, hm30, by push_cast; omega, _, _, _, _, HB5, t3, t4, t5, exFrame (by kernel_rfl)⟩⟩, ?_⟩
    show s.baths.length - (intOf (.int .i64 ((k : Int) + 1))).toNat < s.baths.length - (intOf (.int .i64 (k : Int))).toNat
    simp [intOf]
    omega
end Go.Proofs.Ytnplefhigbkbbaa
end

section
namespace Go.Proofs.Ytnplefhigbkbbaa
open Go.RowKit
attribute [local go_sem] Ex.cell? Ex.frozen? Gx.cell?

theorem Read_v (s : Se) (Ao Ab : Option Addr) (co cb : Nat) (rA : Nat → Option Addr) (rc : Nat → Nat) (w : World) (hs : SeIn w w.heap.size s Ao Ab rA rc) (ht : Thn s) (hok : SeOk s) (Aw : Option Addr) (cw : Nat) (ws : List Int) (hws : SlAt w w.heap.size 1 Aw ws.length (fU ws)) (hwl : ws.length ≤ maxLen) (hwv : ∀ k, k < ws.length → 0 ≤ gI ws k ∧ gI ws k ≤ 65535) :
    Calls Try.prog 49 #[.agg #[.slice Ao s.offs.length co, .int .i64 s.err, .slice Ab s.baths.length cb], .slice Aw ws.length cw] w fun e w' => (∃ A1 c1 A2 c2 Abx cbx rAx rcx, ∃ o h x, Hid (ReadV s o h x) ∧ e = .returned (.tuple #[.slice A1 o.length c1, .slice A2 h.length c2, .agg #[.slice Ao x.offs.length co, .int .i64 x.err, .slice Abx x.baths.length cbx]]) ∧ SlAt w' w'.heap.size 1 A1 o.length (fI o) ∧ SlAt w' w'.heap.size 1 A2 h.length (fI h) ∧ SeIn w' w'.heap.size x Ao Abx rAx rcx) ∧ Below w.heap.size w w' :=
  (Read_law s Ao Ab co cb rA rc w hs ht hok Aw cw ws hws hwl hwv).mono fun _ w' ⟨⟨A1, c1, A2, c2, Ab', cb', rA', rc', o, h, x, HRV, h1, h2, h3, h4⟩, h5⟩ => by
    refine ⟨⟨A1, c1, A2, c2, Ab', cb', rA', rc', o, h, x, HRV, ?_, ?_, ?_, h4⟩, h5⟩
    · rw [HRV.out.lo, HRV.out.lh, HRV.out.offs, HRV.out.err, HRV.out.lb]; exact h1
    · rw [HRV.out.lo]; exact h2
    · rw [HRV.out.lh]; exact h3
theorem diff_ok {x : Se} (hok : SeOk x) (hc : Can x) {a b lo hi ev : Int} (h : DiffV x a b lo hi ev) (ha : 0 ≤ a ∧ a ≤ (x.offs.length : Int) - 1) (hb : 0 ≤ b ∧ b ≤ (x.offs.length : Int) - 1) : ev = 0 ∧ EndsOf (DiffZ x a.toNat b.toNat) lo hi := by
  have h0 := seOk_iff.2 hok
  have e1 : inB a 0 ((x.offs.length : Int) - 1) = true := inB_iff.2 ha
  have e2 : inB b 0 ((x.offs.length : Int) - 1) = true := inB_iff.2 hb
  rcases h with ⟨h1, _⟩ | ⟨_, h1, _⟩ | ⟨_, _, _, h1, _⟩ | ⟨_, _, _, _, h1, h2⟩
  · exact absurd h0 h1
  · rw [e1, e2] at h1; cases h1
  · exact absurd hc h1
  · exact ⟨h1, h2⟩
theorem together {x : Se} {b i j : Nat} (hb : b < x.baths.length) (hi : i < (gBt x.baths b).reads.length) (hj : j < (gBt x.baths b).reads.length) {lo hh : Int} (h : EndsOf (DiffZ x (gRd (gBt x.baths b).reads i).inst.toNat (gRd (gBt x.baths b).reads j).inst.toNat) lo hh) :
    (gRd (gBt x.baths b).reads i).val - (gRd (gBt x.baths b).reads j).val - 2 * x.err ≤ lo ∧ hh ≤ (gRd (gBt x.baths b).reads i).val - (gRd (gBt x.baths b).reads j).val + 2 * x.err := by
  obtain ⟨⟨o1, h1, t1, e1⟩, ⟨o2, h2, t2, e2⟩, _⟩ := h
  have a1 := t1.read (fun _ => rfl) hb hi
  have a2 := t1.read (fun _ => rfl) hb hj
  have a3 := t2.read (fun _ => rfl) hb hi
  have a4 := t2.read (fun _ => rfl) hb hj
  omega

set_option maxRecDepth 100000 in
set_option maxHeartbeats 25600000 in
theorem TogetherLaw_any (s : Se) (Ao Ab : Option Addr) (co cb : Nat) (rA : Nat → Option Addr) (rc : Nat → Nat) (w : World) (hs : SeIn w w.heap.size s Ao Ab rA rc) (hol : s.offs.length ≤ maxLen) (hbl : s.baths.length ≤ maxLen) (Aw : Option Addr) (cw : Nat) (ws : List Int) (hws : SlAt w w.heap.size 1 Aw ws.length (fU ws)) (hwl : ws.length ≤ maxLen) (hwv : ∀ k, k < ws.length → 0 ≤ gI ws k ∧ gI ws k ≤ 65535) :
    Calls Try.prog 10 #[.agg #[.slice Ao s.offs.length co, .int .i64 s.err, .slice Ab s.baths.length cb], .slice Aw ws.length cw] w fun e w' => e = .returned (.bool true) ∧ Below w.heap.size w w' := by
  have B_V := ex_alloc (Below.refl w.heap.size w) (.cells #[.slice Ao s.offs.length co, .int .i64 s.err, .slice Ab s.baths.length cb] 25)
  have q0 : Blk (w.alloc (.cells #[.slice Ao s.offs.length co, .int .i64 s.err, .slice Ab s.baths.length cb] 25)) w.heap.size 25 #[.slice Ao s.offs.length co, .int .i64 s.err, .slice Ab s.baths.length cb] := Blk.new _ _ _
  have hm : maxLen = 9223372036854775807 := rfl
  go_enter Try.func10, Try.ntmps10
  go_wp2_with fail
  generalize w.alloc (.cells #[.slice Ao s.offs.length co, .int .i64 s.err, .slice Ab s.baths.length cb] 25) = V at *
  have q0_0 : V.cell? ⟨w.heap.size, 0, none⟩ = some (.slice Ao s.offs.length co) := q0.cell 0
  have q0_1 : V.cell? ⟨w.heap.size, 1, none⟩ = some (.int .i64 s.err) := q0.cell 1
  have q0_2 : V.cell? ⟨w.heap.size, 2, none⟩ = some (.slice Ab s.baths.length cb) := q0.cell 2
  have q0_l := q0.lt
  refine (ready_law s Ao Ab co cb rA rc V ((hs.below B_V).up B_V.size) hol hbl).mono ?_
  rintro e W1 ⟨⟨x, rfl, hx⟩, hW1⟩
  replace q0 := q0.below hW1 q0.lt
  have B_W1 := ex_trans B_V hW1
  clear q0_0 q0_1 q0_2 q0_l
  have q0_0 : W1.cell? ⟨w.heap.size, 0, none⟩ = some (.slice Ao s.offs.length co) := q0.cell 0
  have q0_1 : W1.cell? ⟨w.heap.size, 1, none⟩ = some (.int .i64 s.err) := q0.cell 1
  have q0_2 : W1.cell? ⟨w.heap.size, 2, none⟩ = some (.slice Ab s.baths.length cb) := q0.cell 2
  have q0_l := q0.lt
  cases x
  · go_wp2_with fail
    refine (wakes_any _).mono ?_
    rintro e Wz ⟨rfl, hz⟩
    go_wp2
    go_ret
    exact ⟨rfl, ex_trans B_W1 hz⟩
  have HT := Lib.hid (hx.out rfl).1
  have HOK := Lib.hid (hx.out rfl).2
  clear hx
  have hno := HT.out.no
  have hnb := HT.out.nb
  go_wp2_with fail
  refine (Read_v s Ao Ab co cb rA rc W1 ((hs.below B_W1).up B_W1.size) HT.out HOK.out Aw cw ws ((hws.below B_W1).up B_W1.size) hwl hwv).mono ?_
  rintro e W2 ⟨⟨A1, c1, A2, c2, Abx, cbx, rAx, rcx, o, h, x, HRV, rfl, so, sh, hsx⟩, hW2⟩
  replace q0 := q0.below hW2 q0.lt
  have B_W2 := ex_trans B_W1 hW2
  clear q0_0 q0_1 q0_2 q0_l
  have q0_0 : W2.cell? ⟨w.heap.size, 0, none⟩ = some (.slice Ao s.offs.length co) := q0.cell 0
  have q0_1 : W2.cell? ⟨w.heap.size, 1, none⟩ = some (.int .i64 s.err) := q0.cell 1
  have q0_2 : W2.cell? ⟨w.heap.size, 2, none⟩ = some (.slice Ab s.baths.length cb) := q0.cell 2
  have q0_l := q0.lt
  have HTX : Hid (Thn x) := Lib.hid (HRV.out.thn HT.out)
  have HOX : Hid (SeOk x) := Lib.hid HRV.out.ok
  have HCX : Hid (Can x) := Lib.hid HRV.out.can
  have hnox := HTX.out.no
  have hnbx := HTX.out.nb
  go_wp2_with fail
  have HQ0 := q0.lt
  have N_W3 := ex_alloc (Below.refl W2.heap.size W2) (.cells #[.slice Ao x.offs.length co, .int .i64 x.err, .slice Abx x.baths.length cbx] 25)
  have qx : Blk (W2.alloc (.cells #[.slice Ao x.offs.length co, .int .i64 x.err, .slice Abx x.baths.length cbx] 25)) W2.heap.size 25 #[.slice Ao x.offs.length co, .int .i64 x.err, .slice Abx x.baths.length cbx] := Blk.new _ _ _
  replace q0 := q0.below N_W3 q0.lt
  replace so := (so.below N_W3).up N_W3.size
  replace sh := (sh.below N_W3).up N_W3.size
  replace hsx := hsx.go N_W3
  have B_W3 := ex_trans B_W2 N_W3
  clear N_W3
  generalize W2.alloc (.cells #[.slice Ao x.offs.length co, .int .i64 x.err, .slice Abx x.baths.length cbx] 25) = W3 at *
  obtain ⟨px, hpx⟩ : ∃ px, W2.heap.size = px := ⟨_, rfl⟩
  have hpx0 : w.heap.size < px := by have := B_W2.size; omega
  rw [hpx] at qx ⊢
  clear hpx HQ0
  clear q0_0 q0_1 q0_2 q0_l
  have q0_0 : W3.cell? ⟨w.heap.size, 0, none⟩ = some (.slice Ao s.offs.length co) := q0.cell 0
  have q0_1 : W3.cell? ⟨w.heap.size, 1, none⟩ = some (.int .i64 s.err) := q0.cell 1
  have q0_2 : W3.cell? ⟨w.heap.size, 2, none⟩ = some (.slice Ab s.baths.length cb) := q0.cell 2
  have q0_l := q0.lt
  have qx_0 : W3.cell? ⟨px, 0, none⟩ = some (.slice Ao x.offs.length co) := qx.cell 0
  have qx_1 : W3.cell? ⟨px, 1, none⟩ = some (.int .i64 x.err) := qx.cell 1
  have qx_2 : W3.cell? ⟨px, 2, none⟩ = some (.slice Abx x.baths.length cbx) := qx.cell 2
  have qx_l := qx.lt
  go_wp2_with fail
  clear q0_0 q0_1 q0_2 q0_l qx_0 qx_1 qx_2 qx_l
  refine wp_loop (fun a W => Rel (fun a W => ∃ k : Nat, k ≤ x.baths.length ∧ Below W3.heap.size W3 W ∧ ∃ u : Nat → Value, a = ⟨List.toArray (u 0 :: .slice Aw ws.length cw :: .pointer (some ⟨w.heap.size, 0, none⟩) :: u 3 :: .bool false :: .slice A1 o.length c1 :: .slice A2 h.length c2 :: .pointer (some ⟨px, 0, none⟩) :: .int .i64 (k : Int) :: u 9 :: u 10 :: u 11 :: u 12 :: u 13 :: u 14 :: u 15 :: u 16 :: u 17 :: u 18 :: u 19 :: u 20 :: u 21 :: u 22 :: u 23 :: u 24 :: u 25 :: u 26 :: u 27 :: u 28 :: u 29 :: u 30 :: u 31 :: u 32 :: u 33 :: u 34 :: u 35 :: u 36 :: u 37 :: u 38 :: u 39 :: u 40 :: u 41 :: u 42 :: u 43 :: u 44 :: u 45 :: u 46 :: u 47 :: u 48 :: u 49 :: u 50 :: u 51 :: u 52 :: u 53 :: u 54 :: u 55 :: u 56 :: u 57 :: u 58 :: u 59 :: u 60 :: u 61 :: u 62 :: u 63 :: u 64 :: u 65 :: u 66 :: u 67 :: u 68 :: u 69 :: u 70 :: u 71 :: u 72 :: u 73 :: u 74 :: u 75 :: u 76 :: u 77 :: u 78 :: u 79 :: u 80 :: u 81 :: u 82 :: u 83 :: u 84 :: u 85 :: u 86 :: u 87 :: u 88 :: u 89 :: u 90 :: u 91 :: u 92 :: u 93 :: u 94 :: u 95 :: []), []⟩) a W)
    (fun a _ => x.baths.length - (intOf (a.tmps.getD 8 undef)).toNat) ⟨⟨0, by omega, Below.refl _ _, exFrame (by kernel_rfl)⟩⟩ ?_
  rintro a W ⟨⟨k, hk, hbw, u, rfl⟩⟩
  have B_W := ex_trans B_W3 hbw
  have p0 := q0.below hbw q0.lt
  have p1 := qx.below hbw qx.lt
  have p0_0 : W.cell? ⟨w.heap.size, 0, none⟩ = some (.slice Ao s.offs.length co) := p0.cell 0
  have p0_1 : W.cell? ⟨w.heap.size, 1, none⟩ = some (.int .i64 s.err) := p0.cell 1
  have p0_2 : W.cell? ⟨w.heap.size, 2, none⟩ = some (.slice Ab s.baths.length cb) := p0.cell 2
  have p0_l := p0.lt
  have p1_0 : W.cell? ⟨px, 0, none⟩ = some (.slice Ao x.offs.length co) := p1.cell 0
  have p1_1 : W.cell? ⟨px, 1, none⟩ = some (.int .i64 x.err) := p1.cell 1
  have p1_2 : W.cell? ⟨px, 2, none⟩ = some (.slice Abx x.baths.length cbx) := p1.cell 2
  have p1_l := p1.lt
  by_cases hlt : k < x.baths.length
  rotate_left
  · obtain rfl : k = x.baths.length := by omega
    go_wp2_with fail
    refine (wakes_any _).mono ?_
    rintro e Wz ⟨rfl, hz⟩
    go_wp2
    go_ret
    exact ⟨rfl, ex_trans B_W hz⟩
  obtain ⟨bb, ob, rfl, hbb, g0, g1, g2⟩ := IsBts.at_ (hsx.baths.below hbw) hlt
  have hrd := hsx.reads k hlt
  have hrl := HTX.out.nr k hlt
  have hin := HOX.out.inst k hlt
  have hvl := HOX.out.val k hlt
  have HTG : Hid (∀ i j, i < (gBt x.baths k).reads.length → j < (gBt x.baths k).reads.length → ∀ lo hh, EndsOf (DiffZ x (gRd (gBt x.baths k).reads i).inst.toNat (gRd (gBt x.baths k).reads j).inst.toNat) lo hh → (gRd (gBt x.baths k).reads i).val - (gRd (gBt x.baths k).reads j).val - 2 * x.err ≤ lo ∧ hh ≤ (gRd (gBt x.baths k).reads i).val - (gRd (gBt x.baths k).reads j).val + 2 * x.err) := Lib.hid (fun i j hi hj lo hh h => together hlt hi hj h)
  generalize (gBt x.baths k).reads = rd at *
  generalize rAx k = Ar at *
  generalize rcx k = cr at *
  have lbb : bb < W.heap.size := by have := hbw.size; omega
  have HIN := Lib.hid hin
  have HVL := Lib.hid hvl
  clear hin hvl g0 g1
  go_wp2_with fail
  clear p0_0 p0_1 p0_2 p0_l p1_0 p1_1 p1_2 p1_l
  clear g2 p0 p1
  refine wp_loop (fun a Y => Rel (fun a Y => ∃ i : Nat, 1 ≤ i ∧ i ≤ 10 ∧ Below W3.heap.size W3 Y ∧ ∃ u : Nat → Value, a = ⟨List.toArray (u 0 :: .slice Aw ws.length cw :: .pointer (some ⟨w.heap.size, 0, none⟩) :: u 3 :: .bool false :: .slice A1 o.length c1 :: .slice A2 h.length c2 :: .pointer (some ⟨px, 0, none⟩) :: .int .i64 (k : Int) :: .slice Ar rd.length cr :: .int .i64 (i : Int) :: u 11 :: u 12 :: u 13 :: u 14 :: u 15 :: u 16 :: u 17 :: u 18 :: u 19 :: u 20 :: u 21 :: u 22 :: u 23 :: u 24 :: u 25 :: u 26 :: u 27 :: u 28 :: u 29 :: u 30 :: u 31 :: u 32 :: u 33 :: u 34 :: u 35 :: u 36 :: u 37 :: u 38 :: u 39 :: u 40 :: u 41 :: u 42 :: u 43 :: u 44 :: u 45 :: u 46 :: u 47 :: u 48 :: u 49 :: u 50 :: u 51 :: u 52 :: u 53 :: u 54 :: u 55 :: u 56 :: u 57 :: u 58 :: u 59 :: u 60 :: u 61 :: u 62 :: u 63 :: u 64 :: u 65 :: u 66 :: u 67 :: u 68 :: u 69 :: u 70 :: u 71 :: u 72 :: u 73 :: u 74 :: u 75 :: u 76 :: u 77 :: u 78 :: u 79 :: u 80 :: u 81 :: u 82 :: u 83 :: u 84 :: u 85 :: u 86 :: u 87 :: u 88 :: u 89 :: u 90 :: u 91 :: u 92 :: u 93 :: u 94 :: u 95 :: []), []⟩) a Y)
    (fun a _ => rd.length - (intOf (a.tmps.getD 10 undef)).toNat) ⟨⟨1, by omega, by omega, hbw, exFrame (by kernel_rfl)⟩⟩ ?_
  clear hbw lbb B_W
  rintro a Y ⟨⟨i, hi1, hi2, hbY, u, rfl⟩⟩
  have B_Y := ex_trans B_W3 hbY
  have p0 := q0.below hbY q0.lt
  have p1 := qx.below hbY qx.lt
  have p0_0 : Y.cell? ⟨w.heap.size, 0, none⟩ = some (.slice Ao s.offs.length co) := p0.cell 0
  have p0_1 : Y.cell? ⟨w.heap.size, 1, none⟩ = some (.int .i64 s.err) := p0.cell 1
  have p0_2 : Y.cell? ⟨w.heap.size, 2, none⟩ = some (.slice Ab s.baths.length cb) := p0.cell 2
  have p0_l := p0.lt
  have p1_0 : Y.cell? ⟨px, 0, none⟩ = some (.slice Ao x.offs.length co) := p1.cell 0
  have p1_1 : Y.cell? ⟨px, 1, none⟩ = some (.int .i64 x.err) := p1.cell 1
  have p1_2 : Y.cell? ⟨px, 2, none⟩ = some (.slice (some ⟨bb, ob, none⟩) x.baths.length cbx) := p1.cell 2
  have p1_l := p1.lt
  by_cases hli : i < rd.length
  rotate_left
  · go_wp2_with fail
    refine ⟨⟨k + 1, by omega, hbY, exFrame (by kernel_rfl)⟩, ?_⟩
    show x.baths.length - (intOf (.int .i64 ((k : Int) + 1))).toNat < x.baths.length - (intOf (.int .i64 (k : Int))).toNat
    simp [intOf]
    omega
  obtain ⟨j, hij⟩ : ∃ j, i = j + 1 := ⟨i - 1, by omega⟩
  have hjl : j < rd.length := by omega
  have kj : IntKind.i64.wrap ((i : Int) - 1) = (j : Int) := by rw [hij]; exact (congrArg IntKind.i64.wrap (by omega)).trans (IntWalk.i64_in _ (by omega))
  have kj0 : (i : Int) - 1 = (j : Int) := by omega
  have HIJ := Lib.hid hij
  clear hij
  obtain ⟨br, orr, rfl, hbr, r0, r1⟩ := IsRds.at_ (hrd.below hbY) hli
  obtain ⟨br', orr', e9, _, s0, s1⟩ := IsRds.at_ (hrd.below hbY) hjl
  injection e9 with e9
  injection e9 with e90 e91 e92
  subst e90 e91
  clear e92
  have lbr : br < Y.heap.size := by have := hbY.size; omega
  have hI := HIN.out i hli
  have hJ := HIN.out j hjl
  have vI := HVL.out i hli
  have vJ := HVL.out j hjl
  have HT2 := Lib.hid (HTG.out i j hli hjl)
  obtain ⟨a1, ha0⟩ : ∃ n, (gRd rd i).inst = n := ⟨_, rfl⟩
  have HA1 := Lib.hid ha0
  rw [ha0] at r0 hI HT2
  clear ha0
  obtain ⟨v1, ha1⟩ : ∃ n, (gRd rd i).val = n := ⟨_, rfl⟩
  have HV1 := Lib.hid ha1
  rw [ha1] at r1 vI HT2
  clear ha1
  obtain ⟨a2, ha2⟩ : ∃ n, (gRd rd j).inst = n := ⟨_, rfl⟩
  have HA2 := Lib.hid ha2
  rw [ha2] at s0 hJ HT2
  clear ha2
  obtain ⟨v2, ha3⟩ : ∃ n, (gRd rd j).val = n := ⟨_, rfl⟩
  have HV2 := Lib.hid ha3
  rw [ha3] at s1 vJ HT2
  clear ha3
  have her := HOK.out.err
  have hxe : Hid (x.err = s.err) := Lib.hid HRV.out.err
  have k1 : IntKind.i64.wrap (v1 - v2) = v1 - v2 := IntWalk.i64_in _ (by omega)
  have k2 : IntKind.i64.wrap (2 * s.err) = 2 * s.err := IntWalk.i64_in _ (by omega)
  have k3 : IntKind.i64.wrap (v1 - v2 - 2 * s.err) = v1 - v2 - 2 * s.err := IntWalk.i64_in _ (by omega)
  have k4 : IntKind.i64.wrap (v1 - v2 + 2 * s.err) = v1 - v2 + 2 * s.err := IntWalk.i64_in _ (by omega)
  go_wp2_with fail
  refine wp_region_ext_tq 19 (.quiet 0 (.quiet 2 (.quiet 3 (.quiet 4 (.quiet 5 (.quiet 6 (.quiet 7 (.quiet 8 (.quiet 9 (.quiet 10 (.quiet 11 (.quiet 12 (.fork 1 (.fork 13 (.quiet 14 (.quiet 15 (.quiet 16 (.loud 17 (.loud 18 .done))))) 17 (.loud 13 (.quiet 14 (.quiet 15 (.quiet 16 (.loud 18 .done)))))) 17 (.loud 1 (.loud 13 (.quiet 14 (.quiet 15 (.quiet 16 (.loud 18 .done))))))))))))))))))) (by kernel_rfl) (by kernel_rfl) (by intro d _ _ _ _ h; cases d <;> exact h) ?_
  have X_D := (Below.refl Y.heap.size Y).drew
  repeat (refine tq_quiet rfl ?_; go_big_quiet_step (fail); refine wpQuiet_nil ?_)
  generalize Y.drew = D at *
  refine tq_fork rfl rfl ?_ ?_
  · go_wp2_with fail
    refine (Series_law x Ao (some ⟨bb, ob, none⟩) co cbx rAx rcx D (hsx.go (ex_trans hbY X_D)) HTX.out).mono ?_
    rintro e Z1 ⟨⟨Ao1, Ab1, co1, cb1, rA1, rc1, rfl, hs1⟩, hZ1⟩
    have X_Z1 := ex_trans X_D hZ1
    go_wp2_with fail
    refine ⟨inEx X_Z1, ?_⟩
    repeat (refine tq_quiet rfl ?_; go_big_quiet_step (fail); refine wpQuiet_nil ?_)
    refine tq_fork rfl rfl ?_ ?_
    · go_wp2_with fail
      refine (Diff_any x Ao1 Ab1 co1 cb1 rA1 rc1 Z1 hs1 HTX.out.sm a1 a2).mono ?_
      rintro e Z2 ⟨⟨lo, hh, ev, rfl, hd⟩, hZ2⟩
      have X_Z2 := ex_trans X_Z1 hZ2
      obtain ⟨rfl, he⟩ := diff_ok HOX.out HCX.out hd.out hI hJ
      have HE := Lib.hid (HT2.out _ _ he)
      clear hd he hs1
      go_wp2_with fail
      refine ⟨inEx X_Z2, ?_⟩
      repeat (refine tq_quiet rfl ?_; go_big_quiet_step (fail); refine wpQuiet_nil ?_)
      refine tq_loud rfl ?_
      go_wp2_with fail
      have hZ3 := ex_alloc (Below.refl Z2.heap.size Z2) (.cells #[.int .i64 0, .int .i64 0] 41)
      have qd : Blk (Z2.alloc (.cells #[.int .i64 0, .int .i64 0] 41)) Z2.heap.size 41 #[.int .i64 0, .int .i64 0] := Blk.new _ _ _
      have hpd0 : Y.heap.size ≤ Z2.heap.size := X_Z2.size
      obtain ⟨pd, hpd⟩ : ∃ pd, Z2.heap.size = pd := ⟨_, rfl⟩
      have X_Z3 := ex_trans X_Z2 hZ3
      refine ⟨inEx X_Z3, ?_⟩
      generalize Z2.alloc (.cells #[.int .i64 0, .int .i64 0] 41) = Z3 at *
      rw [hpd] at qd hpd0 ⊢
      clear hpd
      repeat (refine tq_quiet rfl ?_; go_big_quiet_step (fail); refine wpQuiet_nil ?_)
      refine tq_loud rfl ?_
      have z0 : Z3.cell? ⟨pd, 0, none⟩ = some (.int .i64 0) := qd.cell 0
      have z1 : Z3.cell? ⟨pd, 1, none⟩ = some (.int .i64 0) := qd.cell 1
      have zl := qd.lt
      have zf := qd.frozen0
      go_wp2_with fail
      have X_Z4 := ex_set (ex_set X_Z3 (p := ⟨pd, 0, none⟩) hpd0 (.int .i64 lo)) (p := ⟨pd, 1, none⟩) hpd0 (.int .i64 hh)
      replace qd := (qd.set_ 0 (.int .i64 lo)).set_ 1 (.int .i64 hh)
      simp only [List.setIfInBounds_toArray, List.set_cons_zero, List.set_cons_succ] at qd
      clear z0 z1 zl zf
      refine ⟨inEx X_Z4, ?_⟩
      generalize (Z3.setCell ⟨pd, 0, none⟩ (.int .i64 lo)).setCell ⟨pd, 1, none⟩ (.int .i64 hh) = Z4 at *
      repeat (refine tq_quiet rfl ?_; go_big_quiet_step (fail); refine wpQuiet_nil ?_)
      refine tq_done (r := [_]) rfl ?_
      clear p0_0 p0_1 p0_2 p0_l p1_0 p1_1 p1_2 p1_l
      clear r0 r1 s0 s1
      have BV_Z4 := ex_trans hbY X_Z4
      have B_Z4 := ex_trans B_Y X_Z4
      have m0 := p0.below X_Z4 p0.lt
      have m1 := p1.below X_Z4 p1.lt
      obtain ⟨br9, orr9, e9, _, r0, r1⟩ := IsRds.at_ (hrd.below BV_Z4) hli
      injection e9 with e9
      injection e9 with e90 e91 e92
      subst e90 e91
      clear e92
      obtain ⟨br9, orr9, e9, _, s0, s1⟩ := IsRds.at_ (hrd.below BV_Z4) hjl
      injection e9 with e9
      injection e9 with e90 e91 e92
      subst e90 e91
      clear e92
      rw [HA1.out] at r0
      rw [HV1.out] at r1
      rw [HA2.out] at s0
      rw [HV2.out] at s1
      have lbr9 : br < Z4.heap.size := by have := X_Z4.size; omega
      clear p0 p1
      have m0_0 : Z4.cell? ⟨w.heap.size, 0, none⟩ = some (.slice Ao s.offs.length co) := m0.cell 0
      have m0_1 : Z4.cell? ⟨w.heap.size, 1, none⟩ = some (.int .i64 s.err) := m0.cell 1
      have m0_2 : Z4.cell? ⟨w.heap.size, 2, none⟩ = some (.slice Ab s.baths.length cb) := m0.cell 2
      have m0_l := m0.lt
      have z0 : Z4.cell? ⟨pd, 0, none⟩ = some (.int .i64 lo) := qd.cell 0
      have z1 : Z4.cell? ⟨pd, 1, none⟩ = some (.int .i64 hh) := qd.cell 1
      have zl := qd.lt
      obtain ⟨e1, e2⟩ := HE.out
      rw [hxe.out] at e1 e2
      have d1 : decide (lo < v1 - v2 - 2 * s.err) = false := decide_eq_false (by omega)
      have d2 : decide (v1 - v2 + 2 * s.err < hh) = false := decide_eq_false (by omega)
      clear e1 e2
      go_wp2_with fail
      refine wp_region_ext_mix 12 [(false, 0), (false, 1), (false, 2), (false, 3), (false, 4), (false, 5), (false, 6), (false, 7), (false, 8), (false, 9), (false, 10), (false, 11)] (by kernel_rfl) (by kernel_rfl) (by intro d _ _ _ _ h; cases d <;> exact h) ?_
      repeat (refine mix_quiet rfl ?_; go_big_quiet_step (fail); refine wpQuiet_nil ?_)
      refine mix_nil rfl ?_
      go_wp2_with fail
      refine ⟨⟨i + 1, by omega, by omega, BV_Z4.drew, exFrame (by kernel_rfl)⟩, ?_⟩
      show rd.length - (intOf (.int .i64 ((i : Int) + 1))).toNat < rd.length - (intOf (.int .i64 (i : Int))).toNat
      simp [intOf]
      omega
    · go_wp2_with fail
      have hZ5 := ex_alloc (Below.refl Z1.heap.size Z1) (.cells #[.int .i64 0, .int .i64 0] 41)
      have qd : Blk (Z1.alloc (.cells #[.int .i64 0, .int .i64 0] 41)) Z1.heap.size 41 #[.int .i64 0, .int .i64 0] := Blk.new _ _ _
      replace hs1 := hs1.go hZ5
      have hpd0 : Y.heap.size ≤ Z1.heap.size := X_Z1.size
      obtain ⟨pd, hpd⟩ : ∃ pd, Z1.heap.size = pd := ⟨_, rfl⟩
      have X_Z5 := ex_trans X_Z1 hZ5
      refine ⟨inEx X_Z5, ?_⟩
      generalize Z1.alloc (.cells #[.int .i64 0, .int .i64 0] 41) = Z5 at *
      rw [hpd] at qd hpd0 ⊢
      clear hpd
      repeat (refine tq_quiet rfl ?_; go_big_quiet_step (fail); refine wpQuiet_nil ?_)
      refine tq_loud rfl ?_
      go_wp2_with fail
      refine (Diff_any x Ao1 Ab1 co1 cb1 rA1 rc1 Z5 hs1 HTX.out.sm a1 a2).mono ?_
      rintro e Z6 ⟨⟨lo, hh, ev, rfl, hd⟩, hZ6⟩
      replace qd := qd.below hZ6 qd.lt
      have X_Z6 := ex_trans X_Z5 hZ6
      obtain ⟨rfl, he⟩ := diff_ok HOX.out HCX.out hd.out hI hJ
      have HE := Lib.hid (HT2.out _ _ he)
      clear hd he hs1
      go_wp2_with fail
      refine ⟨inEx X_Z6, ?_⟩
      repeat (refine tq_quiet rfl ?_; go_big_quiet_step (fail); refine wpQuiet_nil ?_)
      refine tq_loud rfl ?_
      have z0 : Z6.cell? ⟨pd, 0, none⟩ = some (.int .i64 0) := qd.cell 0
      have z1 : Z6.cell? ⟨pd, 1, none⟩ = some (.int .i64 0) := qd.cell 1
      have zl := qd.lt
      have zf := qd.frozen0
      go_wp2_with fail
      have X_Z7 := ex_set (ex_set X_Z6 (p := ⟨pd, 0, none⟩) hpd0 (.int .i64 lo)) (p := ⟨pd, 1, none⟩) hpd0 (.int .i64 hh)
      replace qd := (qd.set_ 0 (.int .i64 lo)).set_ 1 (.int .i64 hh)
      simp only [List.setIfInBounds_toArray, List.set_cons_zero, List.set_cons_succ] at qd
      clear z0 z1 zl zf
      refine ⟨inEx X_Z7, ?_⟩
      generalize (Z6.setCell ⟨pd, 0, none⟩ (.int .i64 lo)).setCell ⟨pd, 1, none⟩ (.int .i64 hh) = Z7 at *
      repeat (refine tq_quiet rfl ?_; go_big_quiet_step (fail); refine wpQuiet_nil ?_)
      refine tq_done (r := [_]) rfl ?_
      clear p0_0 p0_1 p0_2 p0_l p1_0 p1_1 p1_2 p1_l
      clear r0 r1 s0 s1
      have BV_Z7 := ex_trans hbY X_Z7
      have B_Z7 := ex_trans B_Y X_Z7
      have m0 := p0.below X_Z7 p0.lt
      have m1 := p1.below X_Z7 p1.lt
      obtain ⟨br9, orr9, e9, _, r0, r1⟩ := IsRds.at_ (hrd.below BV_Z7) hli
      injection e9 with e9
      injection e9 with e90 e91 e92
      subst e90 e91
      clear e92
      obtain ⟨br9, orr9, e9, _, s0, s1⟩ := IsRds.at_ (hrd.below BV_Z7) hjl
      injection e9 with e9
      injection e9 with e90 e91 e92
      subst e90 e91
      clear e92
      rw [HA1.out] at r0
      rw [HV1.out] at r1
      rw [HA2.out] at s0
      rw [HV2.out] at s1
      have lbr9 : br < Z7.heap.size := by have := X_Z7.size; omega
      clear p0 p1
      have m0_0 : Z7.cell? ⟨w.heap.size, 0, none⟩ = some (.slice Ao s.offs.length co) := m0.cell 0
      have m0_1 : Z7.cell? ⟨w.heap.size, 1, none⟩ = some (.int .i64 s.err) := m0.cell 1
      have m0_2 : Z7.cell? ⟨w.heap.size, 2, none⟩ = some (.slice Ab s.baths.length cb) := m0.cell 2
      have m0_l := m0.lt
      have z0 : Z7.cell? ⟨pd, 0, none⟩ = some (.int .i64 lo) := qd.cell 0
      have z1 : Z7.cell? ⟨pd, 1, none⟩ = some (.int .i64 hh) := qd.cell 1
      have zl := qd.lt
      obtain ⟨e1, e2⟩ := HE.out
      rw [hxe.out] at e1 e2
      have d1 : decide (lo < v1 - v2 - 2 * s.err) = false := decide_eq_false (by omega)
      have d2 : decide (v1 - v2 + 2 * s.err < hh) = false := decide_eq_false (by omega)
      clear e1 e2
      go_wp2_with fail
      refine wp_region_ext_mix 12 [(false, 0), (false, 1), (false, 2), (false, 3), (false, 4), (false, 5), (false, 6), (false, 7), (false, 8), (false, 9), (false, 10), (false, 11)] (by kernel_rfl) (by kernel_rfl) (by intro d _ _ _ _ h; cases d <;> exact h) ?_
      repeat (refine mix_quiet rfl ?_; go_big_quiet_step (fail); refine wpQuiet_nil ?_)
      refine mix_nil rfl ?_
      go_wp2_with fail
      refine ⟨⟨i + 1, by omega, by omega, BV_Z7.drew, exFrame (by kernel_rfl)⟩, ?_⟩
      show rd.length - (intOf (.int .i64 ((i : Int) + 1))).toNat < rd.length - (intOf (.int .i64 (i : Int))).toNat
      simp [intOf]
      omega
  · go_wp2_with fail
    have hZ8 := ex_alloc (Below.refl D.heap.size D) (.cells #[.int .i64 0, .int .i64 0] 41)
    have qd : Blk (D.alloc (.cells #[.int .i64 0, .int .i64 0] 41)) D.heap.size 41 #[.int .i64 0, .int .i64 0] := Blk.new _ _ _
    have hpd0 : Y.heap.size ≤ D.heap.size := X_D.size
    obtain ⟨pd, hpd⟩ : ∃ pd, D.heap.size = pd := ⟨_, rfl⟩
    have X_Z8 := ex_trans X_D hZ8
    refine ⟨inEx X_Z8, ?_⟩
    generalize D.alloc (.cells #[.int .i64 0, .int .i64 0] 41) = Z8 at *
    rw [hpd] at qd hpd0 ⊢
    clear hpd
    repeat (refine tq_quiet rfl ?_; go_big_quiet_step (fail); refine wpQuiet_nil ?_)
    refine tq_loud rfl ?_
    go_wp2_with fail
    refine (Series_law x Ao (some ⟨bb, ob, none⟩) co cbx rAx rcx Z8 (hsx.go (ex_trans hbY X_Z8)) HTX.out).mono ?_
    rintro e Z9 ⟨⟨Ao1, Ab1, co1, cb1, rA1, rc1, rfl, hs1⟩, hZ9⟩
    replace qd := qd.below hZ9 qd.lt
    have X_Z9 := ex_trans X_Z8 hZ9
    go_wp2_with fail
    refine ⟨inEx X_Z9, ?_⟩
    repeat (refine tq_quiet rfl ?_; go_big_quiet_step (fail); refine wpQuiet_nil ?_)
    refine tq_loud rfl ?_
    go_wp2_with fail
    refine (Diff_any x Ao1 Ab1 co1 cb1 rA1 rc1 Z9 hs1 HTX.out.sm a1 a2).mono ?_
    rintro e Z10 ⟨⟨lo, hh, ev, rfl, hd⟩, hZ10⟩
    replace qd := qd.below hZ10 qd.lt
    have X_Z10 := ex_trans X_Z9 hZ10
    obtain ⟨rfl, he⟩ := diff_ok HOX.out HCX.out hd.out hI hJ
    have HE := Lib.hid (HT2.out _ _ he)
    clear hd he hs1
    go_wp2_with fail
    refine ⟨inEx X_Z10, ?_⟩
    repeat (refine tq_quiet rfl ?_; go_big_quiet_step (fail); refine wpQuiet_nil ?_)
    refine tq_loud rfl ?_
    have z0 : Z10.cell? ⟨pd, 0, none⟩ = some (.int .i64 0) := qd.cell 0
    have z1 : Z10.cell? ⟨pd, 1, none⟩ = some (.int .i64 0) := qd.cell 1
    have zl := qd.lt
    have zf := qd.frozen0
    go_wp2_with fail
    have X_Z11 := ex_set (ex_set X_Z10 (p := ⟨pd, 0, none⟩) hpd0 (.int .i64 lo)) (p := ⟨pd, 1, none⟩) hpd0 (.int .i64 hh)
    replace qd := (qd.set_ 0 (.int .i64 lo)).set_ 1 (.int .i64 hh)
    simp only [List.setIfInBounds_toArray, List.set_cons_zero, List.set_cons_succ] at qd
    clear z0 z1 zl zf
    refine ⟨inEx X_Z11, ?_⟩
    generalize (Z10.setCell ⟨pd, 0, none⟩ (.int .i64 lo)).setCell ⟨pd, 1, none⟩ (.int .i64 hh) = Z11 at *
    repeat (refine tq_quiet rfl ?_; go_big_quiet_step (fail); refine wpQuiet_nil ?_)
    refine tq_done (r := [_]) rfl ?_
    clear p0_0 p0_1 p0_2 p0_l p1_0 p1_1 p1_2 p1_l
    clear r0 r1 s0 s1
    have BV_Z11 := ex_trans hbY X_Z11
    have B_Z11 := ex_trans B_Y X_Z11
    have m0 := p0.below X_Z11 p0.lt
    have m1 := p1.below X_Z11 p1.lt
    obtain ⟨br9, orr9, e9, _, r0, r1⟩ := IsRds.at_ (hrd.below BV_Z11) hli
    injection e9 with e9
    injection e9 with e90 e91 e92
    subst e90 e91
    clear e92
    obtain ⟨br9, orr9, e9, _, s0, s1⟩ := IsRds.at_ (hrd.below BV_Z11) hjl
    injection e9 with e9
    injection e9 with e90 e91 e92
    subst e90 e91
    clear e92
    rw [HA1.out] at r0
    rw [HV1.out] at r1
    rw [HA2.out] at s0
    rw [HV2.out] at s1
    have lbr9 : br < Z11.heap.size := by have := X_Z11.size; omega
    clear p0 p1
    have m0_0 : Z11.cell? ⟨w.heap.size, 0, none⟩ = some (.slice Ao s.offs.length co) := m0.cell 0
    have m0_1 : Z11.cell? ⟨w.heap.size, 1, none⟩ = some (.int .i64 s.err) := m0.cell 1
    have m0_2 : Z11.cell? ⟨w.heap.size, 2, none⟩ = some (.slice Ab s.baths.length cb) := m0.cell 2
    have m0_l := m0.lt
    have z0 : Z11.cell? ⟨pd, 0, none⟩ = some (.int .i64 lo) := qd.cell 0
    have z1 : Z11.cell? ⟨pd, 1, none⟩ = some (.int .i64 hh) := qd.cell 1
    have zl := qd.lt
    obtain ⟨e1, e2⟩ := HE.out
    rw [hxe.out] at e1 e2
    have d1 : decide (lo < v1 - v2 - 2 * s.err) = false := decide_eq_false (by omega)
    have d2 : decide (v1 - v2 + 2 * s.err < hh) = false := decide_eq_false (by omega)
    clear e1 e2
    go_wp2_with fail
    refine wp_region_ext_mix 12 [(false, 0), (false, 1), (false, 2), (false, 3), (false, 4), (false, 5), (false, 6), (false, 7), (false, 8), (false, 9), (false, 10), (false, 11)] (by kernel_rfl) (by kernel_rfl) (by intro d _ _ _ _ h; cases d <;> exact h) ?_
    repeat (refine mix_quiet rfl ?_; go_big_quiet_step (fail); refine wpQuiet_nil ?_)
    refine mix_nil rfl ?_
    go_wp2_with fail
    refine ⟨⟨i + 1, by omega, by omega, BV_Z11.drew, exFrame (by kernel_rfl)⟩, ?_⟩
    show rd.length - (intOf (.int .i64 ((i : Int) + 1))).toNat < rd.length - (intOf (.int .i64 (i : Int))).toNat
    simp [intOf]
    omega
end Go.Proofs.Ytnplefhigbkbbaa
end
