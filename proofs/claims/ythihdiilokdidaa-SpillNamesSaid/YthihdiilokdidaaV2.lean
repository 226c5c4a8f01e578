/- Spill: works as they come (plain), and how they lie. · Rows in rows: elements that hold slices of the call's own. · Spill: the small functions (walks). · Arrays by their places. · Regions in two parts: trees one behind the other (what is done ahead of the second one is the same on each way). · The checks of a region's orders, reckoned with numbers: the kernel is through with them in a moment. · Spill: teams; CheckTeam, may (walks). · Spill: what somebody may work of some hours (plain). · Mixed regions in the body of a range over a function. -/
import Derived.Test.YthihdiilokdidaaV1
import Derived.Test.YthihdiilokdidaaV0
set_option linter.unusedVariables false
set_option linter.unusedSimpArgs false
set_option linter.unusedSectionVars false
section
namespace Go.Proofs.Ythihdiilokdidaa
open Go.RowKit
attribute [local go_sem] Ex.cell? Ex.frozen?

structure Ws where
 rooms : List Rm
 days : Int
 moves : List Mv
 wgs : List Wg
def Ws.wo (s : Ws) : Wo := ⟨s.rooms, s.days.toNat, s.moves, s.wgs⟩
def roomB (r : Rm) : Bool := toB r.fst.lo r.fst.hi 2000 && toB r.vap.lo r.vap.hi 50
def sideB (n : Nat) (k : Int) : Bool := decide (k = -1) || inB k 0 ((n : Int) - 1)
def moveB (n : Nat) (days : Int) (m : Mv) : Bool := inB m.day 0 (days - 1) && (sideB n m.src && (sideB n m.dst && (decide (m.src ≠ m.dst) && toB m.g.lo m.g.hi 2000)))
def wgB (n : Nat) (days : Int) (x : Wg) : Bool := inB x.room 0 ((n : Int) - 1) && (inB x.day 0 (days - 1) && toB x.g.lo x.g.hi 2000)
def bigWs (s : Ws) : Bool := decide (3 < s.rooms.length) || (decide (12 < s.moves.length) || decide (8 < s.wgs.length))
def goodWs (s : Ws) : Bool := decide (s.rooms.length ≠ 0) && (inB s.days 1 6 && (allTo (fun k => roomB (gRm s.rooms k)) s.rooms.length && (allTo (fun k => moveB s.rooms.length s.days (gMv s.moves k)) s.moves.length && allTo (fun k => wgB s.rooms.length s.days (gWg s.wgs k)) s.wgs.length)))
def ckWs (s : Ws) : Int := if bigWs s then 3 else if goodWs s then 0 else 1
theorem ckWs_iff {s : Ws} : ckWs s = 0 ↔ WoOk s.wo ∧ s.days = (s.wo.days : Int) := by
 unfold ckWs
 have hb : bigWs s = true ↔ 3 < s.rooms.length ∨ 12 < s.moves.length ∨ 8 < s.wgs.length := by simp [bigWs]
 constructor
 ·
  intro h
  split at h
  ·
   cases h
  ·
   rename_i h1
   split at h
   ·
    rename_i h2
    have h1 := mt hb.2 h1
    simp only [goodWs, Bool.and_eq_true, decide_eq_true_eq, allTo_iff, inB_iff] at h2
    obtain ⟨a, b, c, d, e⟩ := h2
    have hd : s.days = ((s.days.toNat : Nat) : Int) := by omega
    have dm : ∀ k, k < s.moves.length → _ := fun k hk => by
     have := d k hk
     simp only [moveB, sideB, Bool.and_eq_true, Bool.or_eq_true, decide_eq_true_eq, inB_iff, toB_iff] at this
     exact this
    refine ⟨⟨⟨by show 0 < s.rooms.length; omega, by show s.rooms.length ≤ 3; omega, by show s.moves.length ≤ 12; omega, by show s.wgs.length ≤ 8; omega⟩, ⟨by show 1 ≤ s.days.toNat; omega, by show s.days.toNat ≤ 6; omega⟩, fun r hr => ?_, ⟨fun i hi => ?_, fun i hi => ?_, fun i hi => ?_, fun i hi => ?_, by show 0 < s.days.toNat; omega⟩, fun i hi => ?_, fun i hi => ?_⟩, hd⟩
    ·
     have := c r hr
     simp only [roomB, Bool.and_eq_true, toB_iff] at this
     show 0 ≤ (gRm s.rooms r).fst.lo ∧ _
     exact ⟨this.1.1, this.1.2.1, this.1.2.2, this.2⟩
    ·
     have := dm i hi
     show 0 ≤ (gMv s.moves i).day ∧ (gMv s.moves i).day < ((s.days.toNat : Nat) : Int)
     omega
    ·
     have := dm i hi
     show -1 ≤ (gMv s.moves i).src ∧ (gMv s.moves i).src < (s.rooms.length : Int)
     omega
    ·
     have := dm i hi
     show -1 ≤ (gMv s.moves i).dst ∧ (gMv s.moves i).dst < (s.rooms.length : Int)
     omega
    ·
     exact (dm i hi).2.2.2.1
    ·
     exact (dm i hi).2.2.2.2
    ·
     have := e i hi
     simp only [wgB, Bool.and_eq_true, inB_iff, toB_iff] at this
     show 0 ≤ (gWg s.wgs i).room ∧ (gWg s.wgs i).room < (s.rooms.length : Int) ∧ 0 ≤ (gWg s.wgs i).day ∧ (gWg s.wgs i).day < ((s.days.toNat : Nat) : Int) ∧ _
     exact ⟨this.1.1, by omega, this.2.1.1, by omega, this.2.2⟩
   ·
    cases h
 ·
  rintro ⟨h, hd⟩
  have l1 : s.rooms.length ≤ 3 := h.len.2.1
  have l2 : s.moves.length ≤ 12 := h.len.2.2.1
  have l3 : s.wgs.length ≤ 8 := h.len.2.2.2
  have d1 := h.days
  rw [if_neg (fun e => by have := hb.1 e; omega)]
  have : goodWs s = true := by
   simp only [goodWs, Bool.and_eq_true, decide_eq_true_eq, allTo_iff, inB_iff]
   refine ⟨by have : 0 < s.rooms.length := h.len.1; omega, by omega, fun k hk => ?_, fun k hk => ?_, fun k hk => ?_⟩
   ·
    have := h.rooms k hk
    simp only [roomB, Bool.and_eq_true, toB_iff]
    exact ⟨⟨this.1, this.2.1, this.2.2.1⟩, this.2.2.2⟩
   ·
    have a := h.moves.day k hk
    have b := h.moves.src k hk
    have c := h.moves.dst k hk
    have d := h.moves.ne k hk
    have e := h.grams k hk
    have b' : -1 ≤ (gMv s.moves k).src ∧ (gMv s.moves k).src < (s.rooms.length : Int) := b
    have c' : -1 ≤ (gMv s.moves k).dst ∧ (gMv s.moves k).dst < (s.rooms.length : Int) := c
    have a' : 0 ≤ (gMv s.moves k).day ∧ (gMv s.moves k).day < (s.wo.days : Int) := a
    simp only [moveB, sideB, Bool.and_eq_true, Bool.or_eq_true, decide_eq_true_eq, inB_iff, toB_iff]
    exact ⟨by omega, by omega, by omega, d, e⟩
   ·
    have a : 0 ≤ (gWg s.wgs k).room ∧ (gWg s.wgs k).room < (s.rooms.length : Int) ∧ 0 ≤ (gWg s.wgs k).day ∧ (gWg s.wgs k).day < (s.wo.days : Int) ∧ 0 ≤ (gWg s.wgs k).g.lo ∧ (gWg s.wgs k).g.lo ≤ (gWg s.wgs k).g.hi ∧ (gWg s.wgs k).g.hi ≤ 2000 := h.wgs k hk
    simp only [wgB, Bool.and_eq_true, inB_iff, toB_iff]
    exact ⟨by omega, by omega, a.2.2.2.2⟩
  rw [if_pos this]
def fRm (l : List Rm) : Nat → Nat → Value := fun k j => match j with | 0 => .int .i64 (gRm l k).fst.lo | 1 => .int .i64 (gRm l k).fst.hi | 2 => .int .i64 (gRm l k).vap.lo | _ => .int .i64 (gRm l k).vap.hi
def fMv (l : List Mv) : Nat → Nat → Value := fun k j => match j with | 0 => .int .i64 (gMv l k).day | 1 => .int .i64 (gMv l k).src | 2 => .int .i64 (gMv l k).dst | 3 => .int .i64 (gMv l k).g.lo | _ => .int .i64 (gMv l k).g.hi
def fWg (l : List Wg) : Nat → Nat → Value := fun k j => match j with | 0 => .int .i64 (gWg l k).room | 1 => .int .i64 (gWg l k).day | 2 => .int .i64 (gWg l k).g.lo | _ => .int .i64 (gWg l k).g.hi
section
variable {w : World} {B n : Nat} {A : Option Addr} {k : Nat}
theorem IsRms.at_ {l : List Rm} (h : SlAt w B 4 A n (fRm l)) (hk : k < n) :
  ∃ b off, A = some ⟨b, off, none⟩ ∧ b < B ∧ w.cell? ⟨b, off + k * 4, none⟩ = some (.int .i64 (gRm l k).fst.lo) ∧ w.cell? ⟨b, off + k * 4 + 1, none⟩ = some (.int .i64 (gRm l k).fst.hi) ∧ w.cell? ⟨b, off + k * 4 + 2, none⟩ = some (.int .i64 (gRm l k).vap.lo) ∧ w.cell? ⟨b, off + k * 4 + 3, none⟩ = some (.int .i64 (gRm l k).vap.hi) := by
 obtain ⟨b, off, e, hb, hc⟩ := h (by omega)
 exact ⟨b, off, e, hb, hc k 0 hk (by omega), hc k 1 hk (by omega), hc k 2 hk (by omega), hc k 3 hk (by omega)⟩
theorem IsMvs.at_ {l : List Mv} (h : SlAt w B 5 A n (fMv l)) (hk : k < n) :
  ∃ b off, A = some ⟨b, off, none⟩ ∧ b < B ∧ w.cell? ⟨b, off + k * 5, none⟩ = some (.int .i64 (gMv l k).day) ∧ w.cell? ⟨b, off + k * 5 + 1, none⟩ = some (.int .i64 (gMv l k).src) ∧ w.cell? ⟨b, off + k * 5 + 2, none⟩ = some (.int .i64 (gMv l k).dst) ∧ w.cell? ⟨b, off + k * 5 + 3, none⟩ = some (.int .i64 (gMv l k).g.lo) ∧ w.cell? ⟨b, off + k * 5 + 4, none⟩ = some (.int .i64 (gMv l k).g.hi) := by
 obtain ⟨b, off, e, hb, hc⟩ := h (by omega)
 exact ⟨b, off, e, hb, hc k 0 hk (by omega), hc k 1 hk (by omega), hc k 2 hk (by omega), hc k 3 hk (by omega), hc k 4 hk (by omega)⟩
theorem IsWgs.at_ {l : List Wg} (h : SlAt w B 4 A n (fWg l)) (hk : k < n) :
  ∃ b off, A = some ⟨b, off, none⟩ ∧ b < B ∧ w.cell? ⟨b, off + k * 4, none⟩ = some (.int .i64 (gWg l k).room) ∧ w.cell? ⟨b, off + k * 4 + 1, none⟩ = some (.int .i64 (gWg l k).day) ∧ w.cell? ⟨b, off + k * 4 + 2, none⟩ = some (.int .i64 (gWg l k).g.lo) ∧ w.cell? ⟨b, off + k * 4 + 3, none⟩ = some (.int .i64 (gWg l k).g.hi) := by
 obtain ⟨b, off, e, hb, hc⟩ := h (by omega)
 exact ⟨b, off, e, hb, hc k 0 hk (by omega), hc k 1 hk (by omega), hc k 2 hk (by omega), hc k 3 hk (by omega)⟩
end
structure WsIn (w : World) (B : Nat) (s : Ws) (Ar Am Aw : Option Addr) : Prop where
 rooms : SlAt w B 4 Ar s.rooms.length (fRm s.rooms)
 moves : SlAt w B 5 Am s.moves.length (fMv s.moves)
 wgs : SlAt w B 4 Aw s.wgs.length (fWg s.wgs)
theorem WsIn.below {w w' : World} {B : Nat} {s : Ws} {Ar Am Aw : Option Addr} (h : WsIn w B s Ar Am Aw) (hb : Below B w w') : WsIn w' B s Ar Am Aw := ⟨h.rooms.below hb, h.moves.below hb, h.wgs.below hb⟩
theorem WsIn.up {w : World} {B B' : Nat} {s : Ws} {Ar Am Aw : Option Addr} (h : WsIn w B s Ar Am Aw) (hB : B ≤ B') : WsIn w B' s Ar Am Aw := ⟨h.rooms.up hB, h.moves.up hB, h.wgs.up hB⟩
theorem WsIn.go {w w' : World} {s : Ws} {Ar Am Aw : Option Addr} (h : WsIn w w.heap.size s Ar Am Aw) (hb : Below w.heap.size w w') : WsIn w' w'.heap.size s Ar Am Aw := (h.below hb).up hb.size
structure SmW (s : Ws) : Prop where
 rooms : s.rooms.length ≤ 1000000
 moves : s.moves.length ≤ 1000000
 wgs : s.wgs.length ≤ 1000000
theorem WoOk.sm {s : Ws} (h : WoOk s.wo) : SmW s := ⟨by have : s.rooms.length ≤ 3 := h.len.2.1; omega, by have : s.moves.length ≤ 12 := h.len.2.2.1; omega, by have : s.wgs.length ≤ 8 := h.len.2.2.2; omega⟩
end Go.Proofs.Ythihdiilokdidaa
end

section
namespace Go.Proofs.Ythihdiilokdidaa
open Go.RowKit

def RowAt (W : World) (B : Nat) (T : TypeId) (sz : Nat) (A : Option Addr) (n : Nat) (f : Nat → Nat → Value) : Prop :=
 n = 0 ∨ ∃ g cur, A = some ⟨g, 0, none⟩ ∧ B ≤ g ∧ Blk W g T cur ∧ ∀ k j, k < n → j < sz → cur[k * sz + j]? = some (f k j)
section
variable {W W' : World} {B sz n : Nat} {T : TypeId} {A : Option Addr} {f : Nat → Nat → Value}
theorem RowAt.sl (h : RowAt W B T sz A n f) : SlAt W W.heap.size sz A n f := fun hn => by
 rcases h with h | ⟨g, cur, e, _, hb, hc⟩
 ·
  omega
 ·
  exact ⟨g, 0, e, hb.lt, fun k j hk hj => by rw [Nat.zero_add, hb.cell]; exact hc k j hk hj⟩
theorem RowAt.below (h : RowAt W B T sz A n f) (hb : Below W.heap.size W W') : RowAt W' B T sz A n f := by
 rcases h with h | ⟨g, cur, e, h1, h2, h3⟩
 ·
  exact .inl h
 ·
  exact .inr ⟨g, cur, e, h1, h2.below hb h2.lt, h3⟩
theorem RowAt.base {B' : Nat} (h : RowAt W B T sz A n f) (hB : B' ≤ B) : RowAt W B' T sz A n f := by
 rcases h with h | ⟨g, cur, e, h1, h2, h3⟩
 ·
  exact .inl h
 ·
  exact .inr ⟨g, cur, e, by omega, h2, h3⟩
theorem RowAt.fr {R : Nat → Prop} (h : RowAt W B T sz A n f) (hf : Fr R W W') (hn : ∀ g, B ≤ g → g < W.heap.size → ¬ R g) : RowAt W' B T sz A n f := by
 rcases h with h | ⟨g, cur, e, h1, h2, h3⟩
 ·
  exact .inl h
 ·
  exact .inr ⟨g, cur, e, h1, h2.fr hf (hn g h1 h2.lt), h3⟩
theorem RowAt.grown {base m s1 : Nat} {T1 : TypeId} {v : Value} {xs : List Value} (h : RowAt W B T sz A n f) (hg : W.grownBy W' v.ownBlock) (ho : W.ownsRow base T1 s1 v m xs) (ht : T1 ≠ T) : RowAt W' B T sz A n f := by
 rcases h with h | ⟨g, cur, e, h1, h2, h3⟩
 ·
  exact .inl h
 ·
  exact .inr ⟨g, cur, e, h1, h2.grown hg (fun e2 => own_blkne ho h2 ht e2.symm), h3⟩
theorem RowAt.ext {f' : Nat → Nat → Value} (h : RowAt W B T sz A n f) (he : ∀ k j, k < n → j < sz → f k j = f' k j) : RowAt W B T sz A n f' := by
 rcases h with h | ⟨g, cur, e, h1, h2, h3⟩
 ·
  exact .inl h
 ·
  exact .inr ⟨g, cur, e, h1, h2, fun k j hk hj => by rw [← he k j hk hj]; exact h3 k j hk hj⟩
end
theorem own_row {α : Type} {c : α → List Value} {sz : Nat} (hc : ∀ a, (c a).length = sz) {W : World} {B : Nat} {T : TypeId} {v : Value} {l : List α} {f : Nat → Nat → Value} (hf : ∀ (k : Nat) (hk : k < l.length) (j : Nat), j < sz → (c l[k])[j]? = some (f k j))
  (h : W.ownsRow B T sz v l.length (l.flatMap c)) : ∃ A k, v = .slice A l.length k ∧ l.length ≤ k ∧ k ≤ maxLen ∧ RowAt W B T sz A l.length f := by
 rcases h.2 with ⟨rfl, h0⟩ | ⟨g, cap, cur, rfl, hb, hh, hn, hm, hs, hcc⟩
 ·
  exact ⟨none, 0, by rw [h0], by omega, by unfold maxLen; omega, .inl h0⟩
 ·
  refine ⟨_, cap, rfl, hn, hm, .inr ⟨g, cur, rfl, hb, hh, fun k j hk hj => ?_⟩⟩
  have h1 := (flat_get (f := c) hc hk hj).trans (hf k hk j hj)
  rw [← hcc, List.getElem?_take] at h1
  rw [← Array.getElem?_toList]
  by_cases hx : k * sz + j < l.length * sz
  ·
   rwa [if_pos hx] at h1
  ·
   rw [if_neg hx] at h1; cases h1
structure NOwn {α : Type} (T1 : TypeId) (s1 : Nat) (T2 : TypeId) (s2 : Nat) (c : α → List Value) (A : α → Option Addr) (n : α → Nat) (f : α → Nat → Nat → Value) (W : World) (B : Nat) (v : Value) (X : List α) : Prop where
 own : W.ownsRow B T1 s1 v X.length (X.flatMap c)
 ins : ∀ x ∈ X, RowAt W B T2 s2 (A x) (n x) (f x)
section
variable {α : Type} {T1 T2 : TypeId} {s1 s2 : Nat} {c : α → List Value} {A : α → Option Addr} {n : α → Nat} {f : α → Nat → Nat → Value} {W W' : World} {B : Nat} {v : Value} {X : List α}
theorem NOwn.nil : NOwn T1 s1 T2 s2 c A n f W B (.slice none 0 0) [] := ⟨⟨by simp, .inl ⟨rfl, rfl⟩⟩, fun x hx => by cases hx⟩
theorem NOwn.below (h : NOwn T1 s1 T2 s2 c A n f W B v X) (hb : Below W.heap.size W W') : NOwn T1 s1 T2 s2 c A n f W' B v X := ⟨own_below h.own hb, fun x hx => (h.ins x hx).below hb⟩
theorem NOwn.lt (h : NOwn T1 s1 T2 s2 c A n f W B v X) {g : Nat} (hg : v.ownBlock = some g) : g < W.heap.size := by
 rcases h.own.2 with ⟨rfl, _⟩ | ⟨g', cap, cur, rfl, _, hh, _⟩
 ·
  simp [Value.ownBlock] at hg
 ·
  simp only [Value.ownBlock] at hg
  injection hg with hg
  rw [← hg]; exact (Array.getElem?_eq_some_iff.1 hh).1
theorem NOwn.fr {R : Nat → Prop} (h : NOwn T1 s1 T2 s2 c A n f W B v X) (hf : Fr R W W') (hn : ∀ g, B ≤ g → g < W.heap.size → ¬ R g) : NOwn T1 s1 T2 s2 c A n f W' B v X :=
 ⟨own_fr h.own hf (fun b hb => hn b (own_ge h.own hb) (h.lt hb)), fun x hx => (h.ins x hx).fr hf hn⟩
theorem NOwn.set (h : NOwn T1 s1 T2 s2 c A n f W B v X) {b : Nat} {T : TypeId} {cs : Array Value} (hq : Blk W b T cs) (h1 : T1 ≠ T) (h2 : T2 ≠ T) (i : Nat) (u : Value) : NOwn T1 s1 T2 s2 c A n f (W.setCell ⟨b, i, none⟩ u) B v X := by
 have hF := Fr.set (R := fun x => x = b) W b i u rfl
 refine ⟨own_fr h.own hF (fun g hg e => own_blkne h.own hq h1 (by rw [hg, show g = b from e])), fun x hx => ?_⟩
 rcases h.ins x hx with h3 | ⟨g, cur, e, k1, k2, k3⟩
 ·
  exact .inl h3
 ·
  exact .inr ⟨g, cur, e, k1, k2.fr hF (blk_ne k2 hq h2), k3⟩
theorem NOwn.push {v' : Value} {X' Y : List α} (h : NOwn T1 s1 T2 s2 c A n f W B v X) (hg : W.grownBy W' v.ownBlock) (ht : T1 ≠ T2) (hX : X' = X ++ Y) (ho : W'.ownsRow B T1 s1 v' X'.length (X'.flatMap c)) (hY : ∀ y ∈ Y, RowAt W B T2 s2 (A y) (n y) (f y)) : NOwn T1 s1 T2 s2 c A n f W' B v' X' := by
 refine ⟨ho, fun x hx => ?_⟩
 rw [hX] at hx
 rcases List.mem_append.1 hx with h1 | h1
 ·
  exact (h.ins x h1).grown hg h.own ht
 ·
  exact (hY x h1).grown hg h.own ht
end
end Go.Proofs.Ythihdiilokdidaa
end

section
namespace Go.Proofs.Ythihdiilokdidaa
open Go.RowKit
attribute [local go_sem] Ex.cell? Ex.frozen? Gx.cell?

theorem within_any (n lo hi : Int) (w : World) :
  Calls Try.prog 66 #[.int .i64 n, .int .i64 lo, .int .i64 hi] w fun e w' => e = .returned (.bool (inB n lo hi)) ∧ w = w' := by
 by_cases h1 : lo ≤ n
 ·
  by_cases h2 : n ≤ hi
  ·
   go_enter Try.func66, Try.ntmps66
   go_wp2
   go_ret
   simp [inB, h1, h2]
  ·
   have h2' : decide (n ≤ hi) = false := by simpa using h2
   go_enter Try.func66, Try.ntmps66
   go_wp2
   go_ret
   simp [inB, h1, h2]
 ·
  have h1' : decide (lo ≤ n) = false := by simpa using h1
  go_enter Try.func66, Try.ntmps66
  go_wp2
  go_ret
  exact ⟨by rw [inB, h1']; rfl, rfl⟩
theorem has_any (lo hi n : Int) (w : World) :
  Calls Try.prog 96 #[.agg #[.int .i64 lo, .int .i64 hi], .int .i64 n] w fun e w' => e = .returned (.bool (inB n lo hi)) ∧ Below w.heap.size w w' := by
 go_enter Try.func96, Try.ntmps96
 go_wp2_with (go_at_call 66; refine (within_any _ _ _ _).mono ?_; rintro e w' ⟨rfl, rfl⟩)
 go_ret
 exact ⟨rfl, ex_alloc (Below.refl _ _) _⟩
def mnTo (xs : List Int) : Nat → Int
 | 0 => gI xs 0
 | n + 1 => min (mnTo xs n) (gI xs n)
set_option maxHeartbeats 400000 in
theorem min_any (A : Option Addr) (c B n : Nat) (xs : List Int) (w : World) (h1 : 1 ≤ n) (hl : n ≤ 1000000) (hA : SlAt w B 1 A n (fI xs)) :
  Calls Try.prog 132 #[.slice A n c] w fun e w' => e = .returned (.int .i64 (mnTo xs n)) ∧ w = w' := by
 obtain ⟨b, off, rfl, hb, hc⟩ := hA (by omega)
 have hc0 : w.cell? ⟨b, off, none⟩ = some (.int .i64 (gI xs 0)) := by simpa [fI] using hc 0 0 (by omega) (by omega)
 have hc : ∀ k, k < n → w.cell? ⟨b, off + k, none⟩ = some (.int .i64 (gI xs k)) := fun k hk => by simpa [fI] using hc k 0 hk (by omega)
 go_enter Try.func132, Try.ntmps132
 go_wp2
 go_loop [3, 4] (fun m i => ∃ k : Nat, 1 ≤ k ∧ k ≤ n ∧ i = .int .i64 k ∧ m = .int .i64 (mnTo xs k)) (fun _ i => n - (intOf i).toNat)
 case atStart => exact ⟨1, by omega, by omega, rfl, by simp [mnTo]⟩
 case round =>
  obtain ⟨k, hk1, hk, rfl, rfl⟩ := hrel
  by_cases hlt : k < n
  ·
   have hcell := hc k hlt
   go_wp2
   go_round
   case rel => exact ⟨k + 1, by omega, by omega, by go_num, by simp only [mnTo]; congr 1; split <;> omega⟩
   case measure => simp [intOf]; omega
  ·
   have : k = n := by omega
   subst this
   go_wp2
   go_ret
   exact ⟨rfl, rfl⟩
theorem least_any (A : Option Addr) (c B n : Nat) (xs : List Int) (w : World) (h1 : 1 ≤ n) (hl : n ≤ 1000000) (hA : SlAt w B 1 A n (fI xs)) :
  Calls Try.prog 121 #[.slice A n c] w fun e w' => e = .returned (.int .i64 (mnTo xs n)) ∧ w = w' := by
 go_enter Try.func121, Try.ntmps121
 go_wp2_with (go_at_call 132; refine (min_any _ _ _ _ _ _ h1 hl hA).mono ?_; rintro e w' ⟨rfl, rfl⟩)
 go_ret
 exact ⟨rfl, rfl⟩
theorem least2 (b c : Nat) (x y : Int) (w : World) (h0 : w.cell? ⟨b, 0, none⟩ = some (.int .i64 x)) (h1 : w.cell? ⟨b, 1, none⟩ = some (.int .i64 y)) :
  Calls Try.prog 121 #[.slice (some ⟨b, 0, none⟩) 2 c] w fun e w' => e = .returned (.int .i64 (min x y)) ∧ w = w' := by
 refine (least_any _ c (b + 1) 2 [x, y] w (by omega) (by omega) (fun _ => ⟨b, 0, rfl, by omega, fun k j hk hj => ?_⟩)).mono ?_
 ·
  obtain rfl : j = 0 := by omega
  match k, hk with
  | 0, _ => simpa [fI, gI] using h0
  | 1, _ => simpa [fI, gI] using h1
 ·
  rintro e w' ⟨rfl, rfl⟩
  refine ⟨?_, rfl⟩
  simp [mnTo, gI]
theorem toR_any (lo hi high : Int) (w : World) :
  Calls Try.prog 64 #[.agg #[.int .i64 lo, .int .i64 hi], .int .i64 high] w fun e w' => e = .returned (.bool (toB lo hi high)) ∧ Below w.heap.size w w' := by
 by_cases h1 : 0 ≤ lo
 ·
  by_cases h2 : lo ≤ hi
  ·
   by_cases h3 : hi ≤ high
   ·
    rw [show toB lo hi high = true by simp [toB, h1, h2, h3]]
    go_enter Try.func64, Try.ntmps64
    go_wp2
    go_ret
    exact ⟨rfl, ex_alloc (Below.refl _ _) _⟩
   ·
    rw [show toB lo hi high = false by simp [toB, h1, h2, h3]]
    have h3' : decide (hi ≤ high) = false := by simpa using h3
    go_enter Try.func64, Try.ntmps64
    go_wp2
    go_ret
    exact ⟨rfl, ex_alloc (Below.refl _ _) _⟩
  ·
   rw [show toB lo hi high = false by simp [toB, h1, h2]]
   have h2' : decide (lo ≤ hi) = false := by simpa using h2
   go_enter Try.func64, Try.ntmps64
   go_wp2
   go_ret
   exact ⟨rfl, ex_alloc (Below.refl _ _) _⟩
 ·
  rw [show toB lo hi high = false by simp [toB, h1]]
  have h1' : decide (0 ≤ lo) = false := by simpa using h1
  go_enter Try.func64, Try.ntmps64
  go_wp2
  go_ret
  exact ⟨rfl, ex_alloc (Below.refl _ _) _⟩
theorem roomV_any (r : Rm) (w : World) :
  Calls Try.prog 88 #[.agg #[.int .i64 r.fst.lo, .int .i64 r.fst.hi, .int .i64 r.vap.lo, .int .i64 r.vap.hi]] w fun e w' => e = .returned (.bool (roomB r)) ∧ Below w.heap.size w w' := by
 have hb1 := ex_alloc (Below.refl w.heap.size w) (.cells #[.int .i64 r.fst.lo, .int .i64 r.fst.hi, .int .i64 r.vap.lo, .int .i64 r.vap.hi] 126)
 have q1 : Blk (w.alloc (.cells #[.int .i64 r.fst.lo, .int .i64 r.fst.hi, .int .i64 r.vap.lo, .int .i64 r.vap.hi] 126)) w.heap.size 126 #[.int .i64 r.fst.lo, .int .i64 r.fst.hi, .int .i64 r.vap.lo, .int .i64 r.vap.hi] := Blk.new _ _ _
 unfold roomB
 go_enter Try.func88, Try.ntmps88
 go_wp2_with fail
 refine (toR_any _ _ _ _).mono ?_
 rintro e w2 ⟨rfl, hb2⟩
 have c2 := (q1.below hb2 q1.lt).cell 2
 have c3 := (q1.below hb2 q1.lt).cell 3
 have l2 := (q1.below hb2 q1.lt).lt
 cases h1 : toB r.fst.lo r.fst.hi 2000
 ·
  go_wp2
  go_ret
  exact ⟨by rw [h1]; rfl, ex_trans hb1 hb2⟩
 ·
  go_wp2_with fail
  refine (toR_any _ _ _ _).mono ?_
  rintro e w3 ⟨rfl, hb3⟩
  go_wp2
  go_ret
  exact ⟨by rw [h1]; rfl, ex_trans (ex_trans hb1 hb2) hb3⟩
set_option maxRecDepth 100000 in
theorem roomN_any (s : Ws) (Ar Am Aw : Option Addr) (cr cm cw : Nat) (n : Int) (w : World) (hr : s.rooms.length ≤ 1000000) :
  Calls Try.prog 83 #[.agg #[.slice Ar s.rooms.length cr, .int .i64 s.days, .slice Am s.moves.length cm, .slice Aw s.wgs.length cw], .int .i64 n] w fun e w' => e = .returned (.bool (inB n 0 ((s.rooms.length : Int) - 1))) ∧ Below w.heap.size w w' := by
 have w1 : IntKind.i64.wrap ((s.rooms.length : Int) - 1) = (s.rooms.length : Int) - 1 := IntWalk.i64_in _ (by omega)
 go_enter Try.func83, Try.ntmps83
 go_wp2_with (go_at_call 66; refine (within_any _ _ _ _).mono ?_; rintro e w' ⟨rfl, rfl⟩)
 go_ret
 exact ⟨rfl, ex_alloc (Below.refl _ _) _⟩
set_option maxRecDepth 100000 in
theorem dayN_any (s : Ws) (Ar Am Aw : Option Addr) (cr cm cw : Nat) (n : Int) (w : World) (hd : 1 ≤ s.days ∧ s.days ≤ 6) :
  Calls Try.prog 84 #[.agg #[.slice Ar s.rooms.length cr, .int .i64 s.days, .slice Am s.moves.length cm, .slice Aw s.wgs.length cw], .int .i64 n] w fun e w' => e = .returned (.bool (inB n 0 (s.days - 1))) ∧ Below w.heap.size w w' := by
 have w1 : IntKind.i64.wrap (s.days - 1) = s.days - 1 := IntWalk.i64_in _ (by omega)
 go_enter Try.func84, Try.ntmps84
 go_wp2_with (go_at_call 66; refine (within_any _ _ _ _).mono ?_; rintro e w' ⟨rfl, rfl⟩)
 go_ret
 exact ⟨rfl, ex_alloc (Below.refl _ _) _⟩
set_option maxRecDepth 100000 in
theorem outside_any (w : World) : Calls Try.prog 126 #[] w fun e w' => e = .returned (.agg #[.int .i64 (-1), .int .i64 0]) ∧ Below w.heap.size w w' := by
 go_enter Try.func126, Try.ntmps126
 go_wp2_with fail
 refine bodyPost_ret (results_cell_row rfl _ _ w.heap.size 169 #[.int .i64 (-1), .int .i64 0] (0, 0) _ rfl (Blk.new _ _ _) rfl rfl rfl) rfl ?_
 exact ⟨rfl, ex_alloc (Below.refl _ _) _⟩
def cSp (s : Spot) : Value := .agg #[.int .i64 s.1, .int .i64 s.2]
set_option maxRecDepth 100000 in
theorem at_any (r d : Int) (w : World) : Calls Try.prog 127 #[.int .i64 r, .int .i64 d] w fun e w' => e = .returned (cSp (atS r d)) ∧ Below w.heap.size w w' := by
 have hb1 := ex_alloc (Below.refl w.heap.size w) (.cells #[.int .i64 0, .int .i64 0] 169)
 have q1 : Blk (w.alloc (.cells #[.int .i64 0, .int .i64 0] 169)) w.heap.size 169 #[.int .i64 0, .int .i64 0] := Blk.new _ _ _
 unfold cSp atS
 by_cases h : r = -1
 ·
  subst h
  rw [if_pos rfl]
  go_enter Try.func127, Try.ntmps127
  go_wp2_with fail
  generalize w.alloc (.cells #[.int .i64 0, .int .i64 0] 169) = V at *
  refine (outside_any V).mono ?_
  rintro e V2 ⟨rfl, hb2⟩
  have q2 := q1.below hb2 q1.lt
  have f2 := q2.frozen0
  have l2 := q2.lt
  have c0 := q2.cell 0
  have c1 := q2.cell 1
  have q3 := (q2.set_ 0 (.int .i64 (-1))).set_ 1 (.int .i64 0)
  simp only [List.setIfInBounds_toArray, List.set_cons_zero, List.set_cons_succ] at q3
  go_wp2_with fail
  refine bodyPost_ret (results_cell_row rfl _ _ w.heap.size 169 #[.int .i64 (-1), .int .i64 0] (0, 0) _ rfl q3 rfl rfl rfl) rfl ?_
  exact ⟨rfl, ex_set (p := ⟨w.heap.size, 1, none⟩) (ex_set (p := ⟨w.heap.size, 0, none⟩) (ex_trans hb1 hb2) (Nat.le_refl _) _) (Nat.le_refl _) _⟩
 ·
  rw [if_neg h]
  go_enter Try.func127, Try.ntmps127
  go_wp2_with fail
  refine bodyPost_ret (results_cell_row rfl _ _ w.heap.size 169 #[.int .i64 r, .int .i64 d] (0, 0) _ rfl (Blk.new _ _ _) rfl rfl rfl) rfl ?_
  exact ⟨rfl, ex_alloc (Below.refl _ _) _⟩
theorem results_cc_row {P : Program} {fn : Func} {p q : Tmp} {ty tz : TypeId} (h : fn.results = #[.cell p ty, .cell q tz]) (tmps : Array Value) (w : World) (g g' : Nat) (ty' tz' : TypeId) (cs cs' : Array Value) (fr fr' : Nat × Nat) (d d' : TypeDesc)
  (hp : tmps.getD p undef = .pointer (some ⟨g, 0, none⟩)) (hg : w.heap[g]? = some (.cells cs ty' fr)) (hq : tmps.getD q undef = .pointer (some ⟨g', 0, none⟩)) (hg' : w.heap[g']? = some (.cells cs' tz' fr'))
  (hu : P.underlying ty = some d) (hd : (match d with | .struct _ | .array _ _ => true | _ => false) = true) (hi : (P.info? ty).map (·.size) = some cs.size)
  (hu' : P.underlying tz = some d') (hd' : (match d' with | .struct _ | .array _ _ => true | _ => false) = true) (hi' : (P.info? tz).map (·.size) = some cs'.size) :
  (results fn tmps).run P w = .ok (.tuple #[.agg cs, .agg cs']) w := by
 have hp' : tmps[p]?.getD undef = .pointer (some ⟨g, 0, none⟩) := by simpa using hp
 have hq' : tmps[q]?.getD undef = .pointer (some ⟨g', 0, none⟩) := by simpa using hq
 simp [results, h, hp', hq', asAddr, run_loadVar_row w g ty' ty cs fr d hg hu hd hi, run_loadVar_row w g' tz' tz cs' fr' d' hg' hu' hd' hi']
theorem grown_set2 (W : World) (b : Nat) (x y : Value) : W.grownBy ((W.setCell ⟨b, 0, none⟩ x).setCell ⟨b, 1, none⟩ y).drew (some b) := ⟨rfl, rfl, rfl, by show W.heap.size ≤ ((W.setCell ⟨b, 0, none⟩ x).setCell ⟨b, 1, none⟩ y).heap.size; simp, fun k _ hne => (Below.heap_setCell _ ⟨b, 1, none⟩ y k (fun e => hne (by rw [e]))).trans (Below.heap_setCell W ⟨b, 0, none⟩ x k (fun e => hne (by rw [e])))⟩
theorem half_n {lo hi : Int} (h0 : 0 ≤ lo + hi) : (lo + hi).tdiv 2 = (lo + hi) / 2 := Int.tdiv_eq_ediv_of_nonneg h0
set_option maxRecDepth 100000 in
theorem lower_any (lo hi : Int) (w : World) (h : 0 ≤ lo ∧ 0 ≤ hi ∧ lo ≤ 2000000 ∧ hi ≤ 2000000) :
  Calls Try.prog 98 #[.agg #[.int .i64 lo, .int .i64 hi]] w fun e w' => e = .returned (.tuple #[.agg #[.int .i64 (halfA false ⟨lo, hi⟩).lo, .int .i64 (halfA false ⟨lo, hi⟩).hi], .agg #[.int .i64 (halfB false ⟨lo, hi⟩).lo, .int .i64 (halfB false ⟨lo, hi⟩).hi]]) ∧ Below w.heap.size w w' := by
 have hb1 := ex_alloc (ex_alloc (ex_alloc (Below.refl w.heap.size w) (.cells #[.int .i64 lo, .int .i64 hi] 50)) (.cells #[.int .i64 0, .int .i64 0] 50)) (.cells #[.int .i64 0, .int .i64 0] 50)
 have w1 : IntKind.i64.wrap (lo + hi) = lo + hi := IntWalk.i64_in _ (by omega)
 have w2 : (lo + hi).tdiv 2 = (lo + hi) / 2 := half_n (by omega)
 have w3 : IntKind.i64.wrap ((lo + hi) / 2) = (lo + hi) / 2 := IntWalk.i64_in _ (by omega)
 have w4 : IntKind.i64.wrap ((lo + hi) / 2 + 1) = (lo + hi) / 2 + 1 := IntWalk.i64_in _ (by omega)
 have q1 : Blk (((w.alloc (.cells #[.int .i64 lo, .int .i64 hi] 50)).alloc (.cells #[.int .i64 0, .int .i64 0] 50)).alloc (.cells #[.int .i64 0, .int .i64 0] 50)) w.heap.size 50 #[.int .i64 lo, .int .i64 hi] := ((Blk.new _ _ _).alloc _).alloc _
 have q2 : Blk (((w.alloc (.cells #[.int .i64 lo, .int .i64 hi] 50)).alloc (.cells #[.int .i64 0, .int .i64 0] 50)).alloc (.cells #[.int .i64 0, .int .i64 0] 50)) (w.heap.size + 1) 50 #[.int .i64 0, .int .i64 0] := (Blk.new' _ _ _ (by simp)).alloc _
 have q3 : Blk (((w.alloc (.cells #[.int .i64 lo, .int .i64 hi] 50)).alloc (.cells #[.int .i64 0, .int .i64 0] 50)).alloc (.cells #[.int .i64 0, .int .i64 0] 50)) (w.heap.size + 1 + 1) 50 #[.int .i64 0, .int .i64 0] := Blk.new' _ _ _ (by simp)
 go_enter Try.func98, Try.ntmps98
 go_upto_region 2 with fail
 generalize ((w.alloc (.cells #[.int .i64 lo, .int .i64 hi] 50)).alloc (.cells #[.int .i64 0, .int .i64 0] 50)).alloc (.cells #[.int .i64 0, .int .i64 0] 50) = V at *
 obtain ⟨p1, hp1⟩ : ∃ p, w.heap.size = p := ⟨_, rfl⟩
 have hp : w.heap.size ≤ p1 := by omega
 rw [hp1] at q1 q2 q3 ⊢
 clear hp1
 have c0 : V.cell? ⟨p1, 0, none⟩ = some (.int .i64 lo) := q1.cell 0
 have c1 : V.cell? ⟨p1, 1, none⟩ = some (.int .i64 hi) := q1.cell 1
 have l1 := q1.lt
 have n1 : ¬ some p1 = some (p1 + 1) := by simp
 have l2 := q2.lt
 have d0 : V.cell? ⟨p1 + 1, 0, none⟩ = some (.int .i64 0) := q2.cell 0
 have d1 : V.cell? ⟨p1 + 1, 1, none⟩ = some (.int .i64 0) := q2.cell 1
 have f2 := q2.frozen0
 refine wp_region_gx_mix (some (p1 + 1)) 10 [(false, 0), (false, 1), (false, 2), (false, 3), (false, 4), (false, 5), (false, 6), (false, 7), (false, 8), (true, 9)] (by kernel_rfl) (by kernel_rfl) (by intro d _ _ _ _ h; cases d <;> exact h) ?_
 repeat (refine mix_quiet rfl ?_; go_big_quiet_step (fail); refine wpQuiet_nil ?_)
 refine mix_loud rfl ?_
 go_wp2_with fail
 refine ⟨inGx (grown_set2 V (p1 + 1) _ _), ?_⟩
 have r2 : Blk ((V.setCell ⟨p1 + 1, 0, none⟩ (.int .i64 lo)).setCell ⟨p1 + 1, 1, none⟩ (.int .i64 ((lo + hi) / 2))).drew (p1 + 1) 50 #[.int .i64 lo, .int .i64 ((lo + hi) / 2)] := by
  have z := ((q2.set_ 0 (.int .i64 lo)).set_ 1 (.int .i64 ((lo + hi) / 2))).drew
  simpa only [List.setIfInBounds_toArray, List.set_cons_zero, List.set_cons_succ] using z
 have r3 : Blk ((V.setCell ⟨p1 + 1, 0, none⟩ (.int .i64 lo)).setCell ⟨p1 + 1, 1, none⟩ (.int .i64 ((lo + hi) / 2))).drew (p1 + 1 + 1) 50 #[.int .i64 0, .int .i64 0] := (q3.far (p := ⟨p1 + 1, 0, none⟩) (by show p1 + 1 + 1 ≠ p1 + 1; omega) _).far (p := ⟨p1 + 1, 1, none⟩) (by show p1 + 1 + 1 ≠ p1 + 1; omega) _
 have hb2 : Below w.heap.size w ((V.setCell ⟨p1 + 1, 0, none⟩ (.int .i64 lo)).setCell ⟨p1 + 1, 1, none⟩ (.int .i64 ((lo + hi) / 2))).drew := (ex_set (p := ⟨p1 + 1, 1, none⟩) (ex_set (p := ⟨p1 + 1, 0, none⟩) hb1 (by show w.heap.size ≤ p1 + 1; omega) _) (by show w.heap.size ≤ p1 + 1; omega) _).drew
 clear q1 q2 q3 c0 c1 l1 d0 d1 f2 l2
 generalize ((V.setCell ⟨p1 + 1, 0, none⟩ (.int .i64 lo)).setCell ⟨p1 + 1, 1, none⟩ (.int .i64 ((lo + hi) / 2))).drew = V2 at *
 have l3 := r3.lt
 have d0 : V2.cell? ⟨p1 + 1 + 1, 0, none⟩ = some (.int .i64 0) := r3.cell 0
 have d1 : V2.cell? ⟨p1 + 1 + 1, 1, none⟩ = some (.int .i64 0) := r3.cell 1
 have f3 := r3.frozen0
 have s2 : Blk ((V2.setCell ⟨p1 + 1 + 1, 0, none⟩ (.int .i64 ((lo + hi) / 2 + 1))).setCell ⟨p1 + 1 + 1, 1, none⟩ (.int .i64 hi)) (p1 + 1) 50 #[.int .i64 lo, .int .i64 ((lo + hi) / 2)] := (r2.far (p := ⟨p1 + 1 + 1, 0, none⟩) (by show p1 + 1 ≠ p1 + 1 + 1; omega) _).far (p := ⟨p1 + 1 + 1, 1, none⟩) (by show p1 + 1 ≠ p1 + 1 + 1; omega) _
 have s3 := (r3.set_ 0 (.int .i64 ((lo + hi) / 2 + 1))).set_ 1 (.int .i64 hi)
 simp only [List.setIfInBounds_toArray, List.set_cons_zero, List.set_cons_succ] at s3
 have hb3 := ex_set (p := ⟨p1 + 1 + 1, 1, none⟩) (ex_set (p := ⟨p1 + 1 + 1, 0, none⟩) hb2 (by show w.heap.size ≤ p1 + 1 + 1; omega) (.int .i64 ((lo + hi) / 2 + 1))) (by show w.heap.size ≤ p1 + 1 + 1; omega) (.int .i64 hi)
 clear r2 r3
 refine mix_nil rfl ?_
 go_wp2_with fail
 refine bodyPost_ret (results_cc_row rfl _ _ (p1 + 1) (p1 + 1 + 1) 50 50 _ _ (0, 0) (0, 0) _ _ rfl s2 rfl s3 rfl rfl rfl rfl rfl rfl) rfl ?_
 exact ⟨rfl, hb3⟩
set_option maxRecDepth 100000 in
set_option maxHeartbeats 3200000 in
theorem upper_any (lo hi : Int) (w : World) (h : 0 ≤ lo ∧ 0 ≤ hi ∧ lo ≤ 2000000 ∧ hi ≤ 2000000) :
  Calls Try.prog 99 #[.agg #[.int .i64 lo, .int .i64 hi]] w fun e w' => e = .returned (.tuple #[.agg #[.int .i64 (halfA true ⟨lo, hi⟩).lo, .int .i64 (halfA true ⟨lo, hi⟩).hi], .agg #[.int .i64 (halfB true ⟨lo, hi⟩).lo, .int .i64 (halfB true ⟨lo, hi⟩).hi]]) ∧ Below w.heap.size w w' := by
 have hb1 := ex_alloc (ex_alloc (ex_alloc (Below.refl w.heap.size w) (.cells #[.int .i64 lo, .int .i64 hi] 50)) (.cells #[.int .i64 0, .int .i64 0] 50)) (.cells #[.int .i64 0, .int .i64 0] 50)
 have q2 : Blk (((w.alloc (.cells #[.int .i64 lo, .int .i64 hi] 50)).alloc (.cells #[.int .i64 0, .int .i64 0] 50)).alloc (.cells #[.int .i64 0, .int .i64 0] 50)) (w.heap.size + 1) 50 #[.int .i64 0, .int .i64 0] := (Blk.new' _ _ _ (by simp)).alloc _
 have q3 : Blk (((w.alloc (.cells #[.int .i64 lo, .int .i64 hi] 50)).alloc (.cells #[.int .i64 0, .int .i64 0] 50)).alloc (.cells #[.int .i64 0, .int .i64 0] 50)) (w.heap.size + 1 + 1) 50 #[.int .i64 0, .int .i64 0] := Blk.new' _ _ _ (by simp)
 go_enter Try.func99, Try.ntmps99
 go_wp2_with fail
 generalize ((w.alloc (.cells #[.int .i64 lo, .int .i64 hi] 50)).alloc (.cells #[.int .i64 0, .int .i64 0] 50)).alloc (.cells #[.int .i64 0, .int .i64 0] 50) = V at *
 have hq3 := q3.lt
 refine (lower_any lo hi V h).mono ?_
 rintro e U ⟨rfl, hX⟩
 replace q2 := q2.below hX q2.lt
 replace q3 := q3.below hX q3.lt
 have hb2 := ex_trans hb1 hX
 go_upto_region 2 with fail
 have u1 : Blk ((U.alloc (.cells #[.int .i64 lo, .int .i64 ((lo + hi) / 2)] 50)).alloc (.cells #[.int .i64 ((lo + hi) / 2 + 1), .int .i64 hi] 50)) U.heap.size 50 #[.int .i64 lo, .int .i64 ((lo + hi) / 2)] := (Blk.new _ _ _).alloc _
 have u2 : Blk ((U.alloc (.cells #[.int .i64 lo, .int .i64 ((lo + hi) / 2)] 50)).alloc (.cells #[.int .i64 ((lo + hi) / 2 + 1), .int .i64 hi] 50)) (U.heap.size + 1) 50 #[.int .i64 ((lo + hi) / 2 + 1), .int .i64 hi] := Blk.new' _ _ _ (by simp)
 have hX2 := ex_alloc (ex_alloc (Below.refl U.heap.size U) (.cells #[.int .i64 lo, .int .i64 ((lo + hi) / 2)] 50)) (.cells #[.int .i64 ((lo + hi) / 2 + 1), .int .i64 hi] 50)
 replace q2 := q2.below hX2 q2.lt
 replace q3 := q3.below hX2 q3.lt
 have hb3 := ex_trans hb2 hX2
 have hz : w.heap.size + 1 + 1 < U.heap.size := by have h2 := hX.size; have h1 : w.heap.size + 1 + 1 < V.heap.size := hq3; omega
 show Code.wp _ _ _ _ ((U.alloc (.cells #[.int .i64 lo, .int .i64 ((lo + hi) / 2)] 50)).alloc (.cells #[.int .i64 ((lo + hi) / 2 + 1), .int .i64 hi] 50))
 generalize (U.alloc (.cells #[.int .i64 lo, .int .i64 ((lo + hi) / 2)] 50)).alloc (.cells #[.int .i64 ((lo + hi) / 2 + 1), .int .i64 hi] 50) = V3 at *
 obtain ⟨p2, hp2⟩ : ∃ p, w.heap.size + 1 = p := ⟨_, rfl⟩
 have hp : w.heap.size ≤ p2 := by omega
 obtain ⟨pa, hpa⟩ : ∃ p, U.heap.size = p := ⟨_, rfl⟩
 rw [hp2] at q2 q3 hz ⊢
 rw [hpa] at u1 u2 hz ⊢
 clear hpa hp2
 have c0 : V3.cell? ⟨pa, 0, none⟩ = some (.int .i64 lo) := u1.cell 0
 have c1 : V3.cell? ⟨pa, 1, none⟩ = some (.int .i64 ((lo + hi) / 2)) := u1.cell 1
 have e0 : V3.cell? ⟨pa + 1, 0, none⟩ = some (.int .i64 ((lo + hi) / 2 + 1)) := u2.cell 0
 have e1 : V3.cell? ⟨pa + 1, 1, none⟩ = some (.int .i64 hi) := u2.cell 1
 have l1 := u1.lt
 have l2 := u2.lt
 have n1 : ¬ some pa = some p2 := by simp; omega
 have n2 : ¬ some (pa + 1) = some p2 := by simp; omega
 have d0 : V3.cell? ⟨p2, 0, none⟩ = some (.int .i64 0) := q2.cell 0
 have d1 : V3.cell? ⟨p2, 1, none⟩ = some (.int .i64 0) := q2.cell 1
 have f2 := q2.frozen0
 have l3 := q2.lt
 refine wp_region_gx_mix (some p2) 3 [(false, 0), (false, 1), (true, 2)] (by kernel_rfl) (by kernel_rfl) (by intro d _ _ _ _ h; cases d <;> exact h) ?_
 repeat (refine mix_quiet rfl ?_; go_big_quiet_step (fail); refine wpQuiet_nil ?_)
 refine mix_loud rfl ?_
 go_wp2_with fail
 refine ⟨inGx (grown_set2 V3 p2 _ _), ?_⟩
 have r2 : Blk (((V3.setCell ⟨p2, 0, none⟩ (.int .i64 ((lo + hi) / 2 + 1))).setCell ⟨p2, 1, none⟩ (.int .i64 hi)).drew) p2 50 #[.int .i64 ((lo + hi) / 2 + 1), .int .i64 hi] := by
  have z := ((q2.set_ 0 (.int .i64 ((lo + hi) / 2 + 1))).set_ 1 (.int .i64 hi)).drew
  simpa only [List.setIfInBounds_toArray, List.set_cons_zero, List.set_cons_succ] using z
 have r3 : Blk (((V3.setCell ⟨p2, 0, none⟩ (.int .i64 ((lo + hi) / 2 + 1))).setCell ⟨p2, 1, none⟩ (.int .i64 hi)).drew) (p2 + 1) 50 #[.int .i64 0, .int .i64 0] := (q3.far (p := ⟨p2, 0, none⟩) (by show p2 + 1 ≠ p2; omega) _).far (p := ⟨p2, 1, none⟩) (by show p2 + 1 ≠ p2; omega) _
 have hb4 : Below w.heap.size w (((V3.setCell ⟨p2, 0, none⟩ (.int .i64 ((lo + hi) / 2 + 1))).setCell ⟨p2, 1, none⟩ (.int .i64 hi)).drew) := (ex_set (p := ⟨p2, 1, none⟩) (ex_set (p := ⟨p2, 0, none⟩) hb3 hp _) hp _).drew
 clear q2 q3 c0 c1 e0 e1 d0 d1 f2 l1 l2 l3
 generalize ((V3.setCell ⟨p2, 0, none⟩ (.int .i64 ((lo + hi) / 2 + 1))).setCell ⟨p2, 1, none⟩ (.int .i64 hi)).drew = V4 at *
 have l3 := r3.lt
 have d0 : V4.cell? ⟨p2 + 1, 0, none⟩ = some (.int .i64 0) := r3.cell 0
 have d1 : V4.cell? ⟨p2 + 1, 1, none⟩ = some (.int .i64 0) := r3.cell 1
 have f3 := r3.frozen0
 have s2 : Blk ((V4.setCell ⟨p2 + 1, 0, none⟩ (.int .i64 lo)).setCell ⟨p2 + 1, 1, none⟩ (.int .i64 ((lo + hi) / 2))) p2 50 #[.int .i64 ((lo + hi) / 2 + 1), .int .i64 hi] := (r2.far (p := ⟨p2 + 1, 0, none⟩) (by show p2 ≠ p2 + 1; omega) _).far (p := ⟨p2 + 1, 1, none⟩) (by show p2 ≠ p2 + 1; omega) _
 have s3 := (r3.set_ 0 (.int .i64 lo)).set_ 1 (.int .i64 ((lo + hi) / 2))
 simp only [List.setIfInBounds_toArray, List.set_cons_zero, List.set_cons_succ] at s3
 have hb5 := ex_set (p := ⟨p2 + 1, 1, none⟩) (ex_set (p := ⟨p2 + 1, 0, none⟩) hb4 (by show w.heap.size ≤ p2 + 1; omega) (.int .i64 lo)) (by show w.heap.size ≤ p2 + 1; omega) (.int .i64 ((lo + hi) / 2))
 clear r2 r3
 refine mix_nil rfl ?_
 go_wp2_with fail
 refine bodyPost_ret (results_cc_row rfl _ _ p2 (p2 + 1) 50 50 _ _ (0, 0) (0, 0) _ _ rfl s2 rfl s3 rfl rfl rfl rfl rfl rfl) rfl ?_
 exact ⟨rfl, hb5⟩
end Go.Proofs.Ythihdiilokdidaa
end

section
namespace Go.Proofs.Ythihdiilokdidaa
open Go.RowKit
def VArr (W : World) (q : Nat) (T : TypeId) (n : Nat) (g : Nat → Value) : Prop := ∃ cs, Blk W q T cs ∧ cs.size = n ∧ ∀ i, i < n → cs[i]? = some (g i)
section
variable {W W' : World} {q n : Nat} {T : TypeId} {g : Nat → Value}
theorem VArr.lt (h : VArr W q T n g) : q < W.heap.size := by obtain ⟨_, h1, _⟩ := h; exact h1.lt
theorem VArr.cell (h : VArr W q T n g) {i : Nat} (hi : i < n) : W.cell? ⟨q, i, none⟩ = some (g i) := by obtain ⟨cs, h1, _, h2⟩ := h; rw [h1.cell]; exact h2 i hi
theorem VArr.frozen (h : VArr W q T n g) (i : Nat) : W.frozen? ⟨q, i, none⟩ = false := by obtain ⟨_, h1, _⟩ := h; exact h1.frozen i
theorem VArr.below (h : VArr W q T n g) (hb : Below W.heap.size W W') : VArr W' q T n g := by obtain ⟨cs, h1, h2⟩ := h; exact ⟨cs, h1.below hb h1.lt, h2⟩
theorem VArr.fr {R : Nat → Prop} (h : VArr W q T n g) (hf : Fr R W W') (hn : ¬ R q) : VArr W' q T n g := by obtain ⟨cs, h1, h2⟩ := h; exact ⟨cs, h1.fr hf hn, h2⟩
theorem VArr.set (h : VArr W q T n g) {i : Nat} (v : Value) (hi : i < n) : VArr (W.setCell ⟨q, i, none⟩ v) q T n (fun j => if j = i then v else g j) := by
 obtain ⟨cs, h1, h2, h3⟩ := h
 refine ⟨cs.setIfInBounds i v, h1.set_ _ _, by simpa using h2, fun j hj => ?_⟩
 rw [Array.getElem?_setIfInBounds]
 by_cases he : i = j
 ·
  subst he
  rw [if_pos rfl, if_pos (by omega)]
  show some v = some (if i = i then v else g i)
  rw [if_pos rfl]
 ·
  rw [if_neg he, h3 j hj]
  show some (g j) = some (if j = i then v else g j)
  rw [if_neg (fun e => he e.symm)]
theorem VArr.ext {g' : Nat → Value} (h : VArr W q T n g) (he : ∀ i, i < n → g i = g' i) : VArr W q T n g' := by
 obtain ⟨cs, h1, h2, h3⟩ := h
 exact ⟨cs, h1, h2, fun i hi => by rw [← he i hi]; exact h3 i hi⟩
theorem VArr.of {cs : Array Value} (h : Blk W q T cs) (hs : cs.size = n) (hc : ∀ i, i < n → cs[i]? = some (g i)) : VArr W q T n g := ⟨cs, h, hs, hc⟩
end
end Go.Proofs.Ythihdiilokdidaa
end

section
namespace Go.Proofs.Ythihdiilokdidaa
open Go.RowKit
section
variable {P : Program} {ops : Array Oper} {md : Region.Mode} {S : World → Prop} {Q : Exit → Act → World → Prop}
def tqcB (md : Region.Mode) (ops : Array Oper) (n : Nat) (L : Array Bool) : Tq → Array Bool → Bool
 | .done, listed => decide (listed = L)
 | .quiet k t, listed => decide (k < n) && ((Region.ready md ops listed).contains k && Region.free md ops listed k && (match ops[k]? with | some o => mute o.op | none => false)) && tqcB md ops n L t (listed.setIfInBounds k true)
 | .loud k t, listed => decide (k < n) && decide (Region.ready md ops listed = [k]) && tqcB md ops n L t (listed.setIfInBounds k true)
 | .fork i t j u, listed => decide (Region.ready md ops listed = [i, j]) && decide (i < n) && decide (j < n) && decide (t.len = u.len) && tqcB md ops n L t (listed.setIfInBounds i true) && tqcB md ops n L u (listed.setIfInBounds j true)
 | .fork3 i t j u k v, listed => decide (Region.ready md ops listed = [i, j, k]) && decide (i < n) && decide (j < n) && decide (k < n) && decide (t.len = u.len) && decide (t.len = v.len) && tqcB md ops n L t (listed.setIfInBounds i true) && tqcB md ops n L u (listed.setIfInBounds j true) && tqcB md ops n L v (listed.setIfInBounds k true)

theorem tqc_head {n m : Nat} {L : Array Bool} {F : Array Bool → Act → World → Prop} {T : Act → World → Prop} (hsel : Region.noSelect ops = true) (hQ : ∀ d v c a w, Q (.panic c) (a.put d v) w → Q (.panic c) a w)
  (hs : Region.sinkB md ops n = true) (hc : Region.chainB md ops n = true) (hn : n < ops.size) (hF : ∀ listed a w, F listed a w → ∀ j ∈ Region.ready md ops listed, n ≤ j)
  (hT : ∀ a w, S w → HeadInv md ops n L → T a w → wpAnyLH P md ops Q S n F m L a w) :
  ∀ (t : Tq) (listed : Array Bool) (a : Act) (w : World), HeadInv md ops n listed → tqcB md ops n L t listed = true → S w →
   wqTr P ops Q S T t a w → wpAnyLH P md ops Q S n F (t.len + m) listed a w
 | .done, listed, a, w, inv, hB, hS, h => by
  have e : listed = L := of_decide_eq_true hB
  subst e
  rw [show Tq.done.len + m = m from by simp [Tq.len]]
  exact hT a w hS inv h
 | .fork i t j u, listed, a, w, inv, hB, hS, h => by
  simp only [tqcB, Bool.and_eq_true, decide_eq_true_eq] at hB
  obtain ⟨⟨⟨⟨⟨hr, hi⟩, hj⟩, hl⟩, hA⟩, hBB⟩ := hB
  rw [show (Tq.fork i t j u).len + m = (t.len + m) + 1 from by simp [Tq.len]; omega]
  refine ⟨by rw [hr]; simp, fun k hk => ?_⟩
  rw [hr] at hk
  rcases List.mem_cons.1 hk with rfl | hk
  ·
   exact ⟨hi, wpOp_mono (fun a' w' h' => ⟨h'.1, tqc_head hsel hQ hs hc hn hF hT t _ a' w' (inv.set (by rw [hr]; simp) hi) hA h'.1 h'.2⟩) (wpOp_one hn hi h.1)⟩
  ·
   obtain rfl := List.mem_singleton.1 hk
   refine ⟨hj, wpOp_mono (fun a' w' h' => ⟨h'.1, ?_⟩) (wpOp_one hn hj h.2)⟩
   rw [hl]
   exact tqc_head hsel hQ hs hc hn hF hT u _ a' w' (inv.set (by rw [hr]; simp) hj) hBB h'.1 h'.2
 | .fork3 i t j u l v, listed, a, w, inv, hB, hS, h => by
  simp only [tqcB, Bool.and_eq_true, decide_eq_true_eq] at hB
  obtain ⟨⟨⟨⟨⟨⟨⟨⟨hr, hi⟩, hj⟩, hl⟩, hl1⟩, hl2⟩, hA⟩, hBB⟩, hC⟩ := hB
  rw [show (Tq.fork3 i t j u l v).len + m = (t.len + m) + 1 from by simp [Tq.len]; omega]
  refine ⟨by rw [hr]; simp, fun k hk => ?_⟩
  rw [hr] at hk
  rcases List.mem_cons.1 hk with rfl | hk
  ·
   exact ⟨hi, wpOp_mono (fun a' w' h' => ⟨h'.1, tqc_head hsel hQ hs hc hn hF hT t _ a' w' (inv.set (by rw [hr]; simp) hi) hA h'.1 h'.2⟩) (wpOp_one hn hi h.1)⟩
  ·
   rcases List.mem_cons.1 hk with rfl | hk
   ·
    refine ⟨hj, wpOp_mono (fun a' w' h' => ⟨h'.1, ?_⟩) (wpOp_one hn hj h.2.1)⟩
    rw [hl1]
    exact tqc_head hsel hQ hs hc hn hF hT u _ a' w' (inv.set (by rw [hr]; simp) hj) hBB h'.1 h'.2
   ·
    obtain rfl := List.mem_singleton.1 hk
    refine ⟨hl, wpOp_mono (fun a' w' h' => ⟨h'.1, ?_⟩) (wpOp_one hn hl h.2.2)⟩
    rw [hl2]
    exact tqc_head hsel hQ hs hc hn hF hT v _ a' w' (inv.set (by rw [hr]; simp) hl) hC h'.1 h'.2
 | .loud k t, listed, a, w, inv, hB, hS, h => by
  simp only [tqcB, Bool.and_eq_true, decide_eq_true_eq] at hB
  obtain ⟨⟨hk, hr⟩, hB'⟩ := hB
  have h' : wpOne P ops Q k (fun a' w' => S w' ∧ wqTr P ops Q S T t a' w') a w := h
  rw [show (Tq.loud k t).len + m = (t.len + m) + 1 from by simp [Tq.len]; omega]
  refine ⟨by rw [hr]; simp, fun x hx => ?_⟩
  rw [hr] at hx
  have hik : x = k := by simpa using hx
  subst hik
  exact ⟨hk, wpOp_mono (fun a' w' h' => ⟨h'.1, tqc_head hsel hQ hs hc hn hF hT t _ a' w' (inv.set (by rw [hr]; simp) hk) hB' h'.1 h'.2⟩) (wpOp_one hn hk h')⟩
 | .quiet k t, listed, a, w, inv, hB, hS, h => by
  simp only [tqcB, Bool.and_eq_true, decide_eq_true_eq] at hB
  obtain ⟨⟨hk, ⟨hr, hf⟩, hm⟩, hB'⟩ := hB
  obtain ⟨o, hk0⟩ : ∃ o, ops[k]? = some o := ⟨ops[k]'(by omega), by simp [show k < ops.size by omega]⟩
  simp only [hk0] at hm
  have h' : wpQuiet P ops S (fun a' => wqTr P ops Q S T t a' w) [o] a := h o hk0
  have hr' : k ∈ Region.ready md ops listed := by simpa using hr
  have hst : qOp P ops S k (wpQuiet P ops S (fun a' => wqTr P ops Q S T t a' w) []) a := by unfold qOp; simp only [hk0]; exact h'
  obtain ⟨v, hy, hK⟩ := yieldsIn_of_qOp hk0 hst
  rw [show (Tq.quiet k t).len + m = (t.len + m) + 1 from by simp [Tq.len]; omega]
  exact wpAnyLH_first hk0 (Region.noSelect_spec hsel) (hQ _ _) hs hc hn hk hF (t.len + m) listed a w inv (Region.free_spec hk0 hf) hr' (mute_if hm hy) hS
   (tqc_head hsel hQ hs hc hn hF hT t _ _ w (inv.set hr' hk) hB' hS hK)

def tq2B (md : Region.Mode) (ops : Array Oper) (n : Nat) (t1 : Tq) (L : Array Bool) (t2 : Tq) : Bool :=
 Region.noSelect ops && decide (n < ops.size) && Region.sinkB md ops n && Region.chainB md ops n && tqcB md ops n L t1 (Array.replicate ops.size false) && tqB md ops n (ops.size - n) t2 L
def wqTree2 (P : Program) (l : List Oper) (Q : Exit → Act → World → Prop) (S : World → Prop) (n : Nat) (t2 t1 : Tq) (a : Act) (w : World) : Prop :=
 wqTr P l.toArray Q S (fun a' w' => wqTree P l Q S n t2 a' w') t1 a w
end
end Go.Proofs.Ythihdiilokdidaa
end

section
namespace Go.Proofs.Ythihdiilokdidaa
open Go.RowKit
section
variable {P : Program} {ops : Array Oper} {md : Region.Mode}
def aMaskL (md : Region.Mode) : List Edge → Nat
 | [] => 0
 | e :: l => if Region.binds md e then (1 <<< e.on) ||| aMaskL md l else aMaskL md l
def aMask (md : Region.Mode) (o : Oper) : Nat := aMaskL md o.after.toList
theorem bit_one (n j : Nat) : (1 <<< n).testBit j = decide (n = j) := by
 rw [Nat.one_shiftLeft, Nat.testBit_two_pow]
theorem aMaskL_bit : ∀ (l : List Edge) (j : Nat), (aMaskL md l).testBit j = true ↔ ∃ e ∈ l, Region.binds md e = true ∧ e.on = j
 | [], j => by simp [aMaskL]
 | e :: l, j => by
  unfold aMaskL
  by_cases h : Region.binds md e = true
  ·
   rw [if_pos h, Nat.testBit_or, bit_one, Bool.or_eq_true, decide_eq_true_eq, aMaskL_bit l j]
   constructor
   ·
    rintro (h1 | ⟨x, hx, h1⟩)
    ·
     exact ⟨e, by simp, h, h1⟩
    ·
     exact ⟨x, by simp [hx], h1⟩
   ·
    rintro ⟨x, hx, h1, h2⟩
    rcases List.mem_cons.1 hx with rfl | hx
    ·
     exact .inl h2
    ·
     exact .inr ⟨x, hx, h1, h2⟩
  ·
   rw [if_neg h, aMaskL_bit l j]
   constructor
   ·
    rintro ⟨x, hx, h1⟩; exact ⟨x, by simp [hx], h1⟩
   ·
    rintro ⟨x, hx, h1, h2⟩
    rcases List.mem_cons.1 hx with rfl | hx
    ·
     exact absurd h1 h
    ·
     exact ⟨x, hx, h1, h2⟩
theorem sub_bits {A M : Nat} : (A &&& M == A) = true ↔ ∀ j, A.testBit j = true → M.testBit j = true := by
 rw [beq_iff_eq]
 constructor
 ·
  intro h j hj
  have := congrArg (fun x => x.testBit j) h
  simp only [Nat.testBit_and, hj, Bool.true_and] at this
  exact this
 ·
  intro h
  refine Nat.eq_of_testBit_eq (fun j => ?_)
  rw [Nat.testBit_and]
  cases hA : A.testBit j
  ·
   rfl
  ·
   rw [h j hA]; rfl
structure RepB (listed : Array Bool) (n M : Nat) : Prop where
 size : listed.size = n
 bit : ∀ j, listed.getD j false = M.testBit j
theorem RepB.start (n : Nat) : RepB (Array.replicate n false) n 0 := ⟨by simp, fun j => by rw [getD_replicate_false]; simp⟩
theorem RepB.set {listed : Array Bool} {n M : Nat} (h : RepB listed n M) {k : Nat} (hk : k < n) : RepB (listed.setIfInBounds k true) n (M ||| (1 <<< k)) := by
 refine ⟨by simp [h.size], fun j => ?_⟩
 rw [Nat.testBit_or, bit_one, ← h.bit]
 by_cases e : k = j
 ·
  subst e
  have : k < listed.size := by rw [h.size]; exact hk
  simp [Array.getD, this]
 ·
  rw [decide_eq_false e, Bool.or_false, getD_set_ne false e]
theorem RepB.in_ {listed : Array Bool} {n M : Nat} (h : RepB listed n M) {j : Nat} (hj : j < n) : listed.getD j true = M.testBit j := by
 rw [← h.bit]
 have : j < listed.size := by rw [h.size]; exact hj
 simp [Array.getD, this]
theorem RepB.eq {l1 l2 : Array Bool} {n M : Nat} (h : RepB l1 n M) (k : RepB l2 n M) : l1 = l2 := by
 refine Array.ext (by rw [h.size, k.size]) (fun i h1 h2 => ?_)
 have e1 := h.bit i
 have e2 := k.bit i
 rw [← e2] at e1
 simpa [Array.getD, h1, h2] using e1
def rdyF (M : Nat) : List Nat → Nat → List Nat
 | [], _ => []
 | A :: l, i => if !M.testBit i && (A &&& M == A) then i :: rdyF M l (i + 1) else rdyF M l (i + 1)
def masks (md : Region.Mode) (ops : Array Oper) : List Nat := ops.toList.map (aMask md)
theorem rdyF_eq {listed : Array Bool} {M : Nat} (h : RepB listed ops.size M) : ∀ (l : List Oper) (k : Nat), (∀ j, l[j]? = ops[k + j]?) →
  rdyF M (l.map (aMask md)) k = (List.range' k l.length).filter fun i => !listed.getD i true && ((ops[i]?).map (·.after.all fun e => !Region.binds md e || listed.getD e.on false)).getD false
 | [], _, _ => by simp [rdyF]
 | o :: l, k, hl => by
  have h0 : ops[k]? = some o := by simpa using (hl 0).symm
  have hk : k < ops.size := (Array.getElem?_eq_some_iff.1 h0).1
  have ih := rdyF_eq h l (k + 1) (fun j => by have := hl (j + 1); simpa [Nat.add_assoc, Nat.add_comm 1 j] using this)
  have hc : (!M.testBit k && (aMask md o &&& M == aMask md o)) = (!listed.getD k true && ((ops[k]?).map (·.after.all fun e => !Region.binds md e || listed.getD e.on false)).getD false) := by
   rw [h.in_ hk, h0]
   congr 1
   simp only [Option.map_some, Option.getD_some]
   rw [Bool.eq_iff_iff, sub_bits, Array.all_eq_true_iff_forall_mem]
   constructor
   ·
    intro h1 e he
    cases hb : Region.binds md e
    ·
     rfl
    ·
     have := h1 e.on ((aMaskL_bit _ _).2 ⟨e, by simpa using he, hb, rfl⟩)
     rw [h.bit, this]; rfl
   ·
    intro h1 j hj
    obtain ⟨e, he, hb, rfl⟩ := (aMaskL_bit _ _).1 hj
    have := h1 e (by simpa using he)
    rw [hb, h.bit] at this
    simpa using this
  rw [List.map_cons, rdyF, List.length_cons, List.range'_succ, List.filter_cons, hc, ih]
theorem ready_F {listed : Array Bool} {M : Nat} (h : RepB listed ops.size M) : Region.ready md ops listed = rdyF M (masks md ops) 0 := by
 unfold masks
 rw [rdyF_eq h ops.toList 0 (fun j => by simp)]
 unfold Region.ready
 rw [List.range_eq_range']
 simp
def naMaskL (ops : Array Oper) (x : Oper) (k : Nat) : List Oper → Nat → Nat
 | [], _ => 0
 | y :: l, j => if j == k || x.apart ops y then naMaskL ops x k l (j + 1) else (1 <<< j) ||| naMaskL ops x k l (j + 1)
def naMask (ops : Array Oper) (k : Nat) : Nat := match ops[k]? with | some x => naMaskL ops x k ops.toList 0 | none => 1 <<< ops.size
def dMask (k : Nat) : List Nat → Nat → Nat
 | [], _ => 0
 | A :: l, j => if A.testBit k then (1 <<< j) ||| dMask k l (j + 1) else dMask k l (j + 1)
def freeF (md : Region.Mode) (ops : Array Oper) (M k : Nat) : Bool := (ops[k]?).isSome && (naMask ops k &&& (M ||| dMask k (masks md ops) 0) == naMask ops k)
theorem naMaskL_bit {x : Oper} {k : Nat} : ∀ (l : List Oper) (i j : Nat) (y : Oper), l[j]? = some y → j + i ≠ k → x.apart ops y = false → (naMaskL ops x k l i).testBit (j + i) = true
 | [], _, _, _, h, _, _ => by simp at h
 | z :: l, i, 0, y, h, hk, ha => by
  have : z = y := by simpa using h
  subst this
  unfold naMaskL
  rw [show (i == k || x.apart ops z) = false from by rw [ha, Bool.or_false, beq_eq_false_iff_ne]; omega, if_neg (by simp), Nat.testBit_or, bit_one]
  simp
 | z :: l, i, j + 1, y, h, hk, ha => by
  have ih := naMaskL_bit (k := k) l (i + 1) j y (by simpa using h) (by omega) ha
  rw [show j + (i + 1) = j + 1 + i by omega] at ih
  unfold naMaskL
  split
  ·
   exact ih
  ·
   rw [Nat.testBit_or, ih]; simp
theorem dMask_low {k : Nat} : ∀ (l : List Nat) (i : Nat) {j : Nat}, j < i → (dMask k l i).testBit j = false
 | [], _, _, _ => by simp [dMask]
 | A :: l, i, j, h => by
  unfold dMask
  split
  ·
   rw [Nat.testBit_or, bit_one, decide_eq_false (by omega), dMask_low l (i + 1) (by omega)]; rfl
  ·
   exact dMask_low l (i + 1) (by omega)
theorem dMask_bit {k : Nat} : ∀ (l : List Nat) (i j : Nat), (dMask k l i).testBit (j + i) = true → ∃ A, l[j]? = some A ∧ A.testBit k = true
 | [], _, _, h => by simp [dMask] at h
 | A :: l, i, j, h => by
  unfold dMask at h
  match j with
  | 0 =>
   split at h
   ·
    rename_i hA; exact ⟨A, rfl, hA⟩
   ·
    exfalso
    have := dMask_low (k := k) l (i + 1) (j := 0 + i) (by omega)
    rw [this] at h; cases h
  | j + 1 =>
   have key : (dMask k l (i + 1)).testBit (j + (i + 1)) = true := by
    rw [show j + (i + 1) = j + 1 + i by omega]
    split at h
    ·
     rw [Nat.testBit_or, bit_one, decide_eq_false (by omega), Bool.false_or] at h; exact h
    ·
     exact h
   obtain ⟨B, h1, h2⟩ := dMask_bit l (i + 1) j key
   exact ⟨B, by simpa using h1, h2⟩
theorem free_F {listed : Array Bool} {M k : Nat} (h : RepB listed ops.size M) (hf : freeF md ops M k = true) : Region.free md ops listed k = true := by
 unfold freeF at hf
 rw [Bool.and_eq_true, sub_bits] at hf
 obtain ⟨h1, h2⟩ := hf
 obtain ⟨x, hx⟩ := Option.isSome_iff_exists.1 h1
 unfold Region.free
 simp only [hx, List.all_eq_true, List.mem_range]
 intro j hj
 have hoj : ops[j]? = some ops[j] := by simp [hj]
 simp only [hoj, Bool.or_eq_true, beq_iff_eq]
 by_cases e : j = k
 ·
  exact .inl (.inl e)
 ·
  cases ha : x.apart ops ops[j]
  ·
   have hb : (naMask ops k).testBit j = true := by
    unfold naMask
    simp only [hx]
    have := naMaskL_bit (ops := ops) (x := x) (k := k) ops.toList 0 j ops[j] (by simp) (by omega) ha
    simpa using this
   have h3 := h2 j hb
   rw [Nat.testBit_or, Bool.or_eq_true] at h3
   rcases h3 with h3 | h3
   ·
    exact .inl (.inr (by rw [h.in_ hj]; exact h3))
   ·
    obtain ⟨A, hA, hAk⟩ := dMask_bit (masks md ops) 0 j h3
    unfold masks at hA
    rw [List.getElem?_map, Array.getElem?_toList, hoj] at hA
    simp only [Option.map_some, Option.some.injEq] at hA
    subst hA
    obtain ⟨e', he', hb', ho'⟩ := (aMaskL_bit _ _).1 hAk
    exact .inr (.inl (Array.any_eq_true'.2 ⟨e', Array.mem_toList_iff.1 he', by simp [hb', ho']⟩))
  ·
   exact .inr (.inr rfl)
def seqF (As : List Nat) : Nat → Nat → Nat → Bool
 | 0, _, M => (rdyF M As 0).isEmpty
 | g + 1, k, M => decide (rdyF M As 0 = [k]) && seqF As g (k + 1) (M ||| (1 <<< k))
theorem seq_F : ∀ (g k M : Nat) {listed : Array Bool}, RepB listed ops.size M → k + g ≤ ops.size → seqF (masks md ops) g k M = true → Region.seqB md ops g k listed = true
 | 0, k, M, listed, h, _, hs => by
  unfold Region.seqB
  rw [ready_F h]; exact hs
 | g + 1, k, M, listed, h, hk, hs => by
  unfold seqF at hs
  rw [Bool.and_eq_true] at hs
  unfold Region.seqB
  rw [ready_F h, Bool.and_eq_true]
  exact ⟨hs.1, seq_F g (k + 1) _ (h.set (by omega)) (by omega) hs.2⟩
def muteAt (ops : Array Oper) (k : Nat) : Bool := match ops[k]? with | some o => mute o.op | none => false
def tqF (md : Region.Mode) (ops : Array Oper) (As : List Nat) (n : Nat) (leaf : Nat → Bool) : Tq → Nat → Bool
 | .done, M => leaf M
 | .quiet k t, M => decide (k < n) && ((rdyF M As 0).contains k && freeF md ops M k && muteAt ops k) && tqF md ops As n leaf t (M ||| (1 <<< k))
 | .loud k t, M => decide (k < n) && decide (rdyF M As 0 = [k]) && tqF md ops As n leaf t (M ||| (1 <<< k))
 | .fork i t j u, M => decide (rdyF M As 0 = [i, j]) && decide (i < n) && decide (j < n) && decide (t.len = u.len) && tqF md ops As n leaf t (M ||| (1 <<< i)) && tqF md ops As n leaf u (M ||| (1 <<< j))
 | .fork3 i t j u k v, M => decide (rdyF M As 0 = [i, j, k]) && decide (i < n) && decide (j < n) && decide (k < n) && decide (t.len = u.len) && decide (t.len = v.len) && tqF md ops As n leaf t (M ||| (1 <<< i)) && tqF md ops As n leaf u (M ||| (1 <<< j)) && tqF md ops As n leaf v (M ||| (1 <<< k))
theorem tqc_F {n ML : Nat} {L : Array Bool} (hn : n ≤ ops.size) (hL : RepB L ops.size ML) : ∀ (t : Tq) (M : Nat) {listed : Array Bool}, RepB listed ops.size M → tqF md ops (masks md ops) n (fun M => M == ML) t M = true → tqcB md ops n L t listed = true
 | .done, M, listed, h, hf => by
  have e : M = ML := eq_of_beq hf
  subst e
  exact decide_eq_true (h.eq hL)
 | .quiet k t, M, listed, h, hf => by
  simp only [tqF, Bool.and_eq_true, decide_eq_true_eq] at hf
  obtain ⟨⟨hk, ⟨h1, h2⟩, h3⟩, h4⟩ := hf
  simp only [tqcB, Bool.and_eq_true, decide_eq_true_eq]
  exact ⟨⟨hk, ⟨by rw [ready_F h]; exact h1, free_F h h2⟩, h3⟩, tqc_F hn hL t _ (h.set (by omega)) h4⟩
 | .loud k t, M, listed, h, hf => by
  simp only [tqF, Bool.and_eq_true, decide_eq_true_eq] at hf
  obtain ⟨⟨hk, h1⟩, h4⟩ := hf
  simp only [tqcB, Bool.and_eq_true, decide_eq_true_eq]
  exact ⟨⟨hk, by rw [ready_F h]; exact h1⟩, tqc_F hn hL t _ (h.set (by omega)) h4⟩
 | .fork i t j u, M, listed, h, hf => by
  simp only [tqF, Bool.and_eq_true, decide_eq_true_eq] at hf
  obtain ⟨⟨⟨⟨⟨h1, hi⟩, hj⟩, hl⟩, h2⟩, h3⟩ := hf
  simp only [tqcB, Bool.and_eq_true, decide_eq_true_eq]
  exact ⟨⟨⟨⟨⟨by rw [ready_F h]; exact h1, hi⟩, hj⟩, hl⟩, tqc_F hn hL t _ (h.set (by omega)) h2⟩, tqc_F hn hL u _ (h.set (by omega)) h3⟩
 | .fork3 i t j u k v, M, listed, h, hf => by
  simp only [tqF, Bool.and_eq_true, decide_eq_true_eq] at hf
  obtain ⟨⟨⟨⟨⟨⟨⟨⟨h1, hi⟩, hj⟩, hk⟩, hl⟩, hl2⟩, h2⟩, h3⟩, h4⟩ := hf
  simp only [tqcB, Bool.and_eq_true, decide_eq_true_eq]
  exact ⟨⟨⟨⟨⟨⟨⟨⟨by rw [ready_F h]; exact h1, hi⟩, hj⟩, hk⟩, hl⟩, hl2⟩, tqc_F hn hL t _ (h.set (by omega)) h2⟩, tqc_F hn hL u _ (h.set (by omega)) h3⟩, tqc_F hn hL v _ (h.set (by omega)) h4⟩
theorem tq_F {n : Nat} (hn : n ≤ ops.size) : ∀ (t : Tq) (M : Nat) {listed : Array Bool}, RepB listed ops.size M → tqF md ops (masks md ops) n (seqF (masks md ops) (ops.size - n) n) t M = true → tqB md ops n (ops.size - n) t listed = true
 | .done, M, listed, h, hf => seq_F (ops.size - n) n M h (by omega) hf
 | .quiet k t, M, listed, h, hf => by
  simp only [tqF, Bool.and_eq_true, decide_eq_true_eq] at hf
  obtain ⟨⟨hk, ⟨h1, h2⟩, h3⟩, h4⟩ := hf
  simp only [tqB, Bool.and_eq_true, decide_eq_true_eq]
  exact ⟨⟨hk, ⟨by rw [ready_F h]; exact h1, free_F h h2⟩, h3⟩, tq_F hn t _ (h.set (by omega)) h4⟩
 | .loud k t, M, listed, h, hf => by
  simp only [tqF, Bool.and_eq_true, decide_eq_true_eq] at hf
  obtain ⟨⟨hk, h1⟩, h4⟩ := hf
  simp only [tqB, Bool.and_eq_true, decide_eq_true_eq]
  exact ⟨⟨hk, by rw [ready_F h]; exact h1⟩, tq_F hn t _ (h.set (by omega)) h4⟩
 | .fork i t j u, M, listed, h, hf => by
  simp only [tqF, Bool.and_eq_true, decide_eq_true_eq] at hf
  obtain ⟨⟨⟨⟨⟨h1, hi⟩, hj⟩, hl⟩, h2⟩, h3⟩ := hf
  simp only [tqB, Bool.and_eq_true, decide_eq_true_eq]
  exact ⟨⟨⟨⟨⟨by rw [ready_F h]; exact h1, hi⟩, hj⟩, hl⟩, tq_F hn t _ (h.set (by omega)) h2⟩, tq_F hn u _ (h.set (by omega)) h3⟩
 | .fork3 i t j u k v, M, listed, h, hf => by
  simp only [tqF, Bool.and_eq_true, decide_eq_true_eq] at hf
  obtain ⟨⟨⟨⟨⟨⟨⟨⟨h1, hi⟩, hj⟩, hk⟩, hl⟩, hl2⟩, h2⟩, h3⟩, h4⟩ := hf
  simp only [tqB, Bool.and_eq_true, decide_eq_true_eq]
  exact ⟨⟨⟨⟨⟨⟨⟨⟨by rw [ready_F h]; exact h1, hi⟩, hj⟩, hk⟩, hl⟩, hl2⟩, tq_F hn t _ (h.set (by omega)) h2⟩, tq_F hn u _ (h.set (by omega)) h3⟩, tq_F hn v _ (h.set (by omega)) h4⟩
theorem repLow {n m : Nat} (hm : m ≤ n) : RepB (List.replicate m true ++ List.replicate (n - m) false).toArray n (1 <<< m - 1) := by
 refine ⟨by simp; omega, fun j => ?_⟩
 rw [Nat.one_shiftLeft, Nat.testBit_two_pow_sub_one]
 by_cases h : j < m
 ·
  rw [decide_eq_true h]
  simp only [Array.getD, List.size_toArray, List.length_append, List.length_replicate]
  rw [dif_pos (by omega)]
  simp [List.getElem_append, h]
 ·
  rw [decide_eq_false h]
  simp only [Array.getD, List.size_toArray, List.length_append, List.length_replicate]
  split
  ·
   simp [List.getElem_append, h]
  ·
   rfl
def tq2F (md : Region.Mode) (ops : Array Oper) (n : Nat) (t1 : Tq) (m : Nat) (t2 : Tq) : Bool :=
 Region.noSelect ops && decide (n < ops.size) && Region.sinkB md ops n && Region.chainB md ops n && tqF md ops (masks md ops) n (fun M => M == 1 <<< m - 1) t1 0 && tqF md ops (masks md ops) n (seqF (masks md ops) (ops.size - n) n) t2 (1 <<< m - 1) && decide (m ≤ ops.size)
def tqeF (md : Region.Mode) (ops : Array Oper) (n : Nat) (t : Tq) : Bool :=
 Region.noSelect ops && decide (n < ops.size) && Region.sinkB md ops n && Region.chainB md ops n && tqF md ops (masks md ops) n (seqF (masks md ops) (ops.size - n) n) t 0
theorem tqe_F {n : Nat} {t : Tq} (h : tqeF md ops n t = true) : tqeB md ops n t = true := by
 simp only [tqeF, Bool.and_eq_true, decide_eq_true_eq] at h
 obtain ⟨⟨⟨⟨h1, h2⟩, h3⟩, h4⟩, h5⟩ := h
 simp only [tqeB, Bool.and_eq_true, decide_eq_true_eq]
 exact ⟨⟨⟨⟨h1, h2⟩, h3⟩, h4⟩, tq_F (by omega) t 0 (RepB.start _) h5⟩
variable {Q : Exit → Act → World → Prop}
theorem wp_region_ext_tqF {id : Nat} {a : Act} {w : World} {l : List Oper} (n : Nat) (t : Tq) (hm : P.follows .mixedOrders = true)
  (hB : (tqeF .any l.toArray n t && decide (t.len = n)) = true) (hQ : ∀ d v c a w, Q (.panic c) (a.put d v) w → Q (.panic c) a w)
  (h : wqTree P l Q (fun w' => ∃ x : Ex w, w' = x.W) n t a w.drew) : (Code.region id l.toArray true).wp P Q a w := by
 simp only [Bool.and_eq_true] at hB
 exact wp_region_ext_tq n t hm (by rw [tqe_F hB.1, hB.2]; rfl) hQ h
end
end Go.Proofs.Ythihdiilokdidaa
end

section
namespace Go.Proofs.Ythihdiilokdidaa
open Go.RowKit
attribute [local go_sem] Ex.cell? Ex.frozen?

structure TmIn (w : World) (B : Nat) (t : Tm) (Ar Ah : Option Addr) : Prop where
 rates : SlAt w B 2 Ar t.rates.length (fR t.rates)
 hours : SlAt w B 1 Ah t.hours.length (fI t.hours)
theorem TmIn.go {w w' : World} {t : Tm} {Ar Ah : Option Addr} (h : TmIn w w.heap.size t Ar Ah) (hb : Below w.heap.size w w') : TmIn w' w'.heap.size t Ar Ah :=
 ⟨(h.rates.below hb).up hb.size, (h.hours.below hb).up hb.size⟩
theorem TmIn.below {w w' : World} {B : Nat} {t : Tm} {Ar Ah : Option Addr} (h : TmIn w B t Ar Ah) (hb : Below B w w') : TmIn w' B t Ar Ah := ⟨h.rates.below hb, h.hours.below hb⟩
def rateB (r : Rg) : Bool := toB r.lo r.hi 100
def goodTm (t : Tm) : Bool := decide (t.rates.length ≠ 0) && (decide (t.hours.length = t.rates.length) && (allTo (fun k => rateB (gR t.rates k)) t.rates.length && (allTo (fun k => inB (gI t.hours k) 0 8) t.hours.length && (inB t.limit 0 1000 && inB t.most 0 8))))
def ckTm (t : Tm) : Int := if 3 < t.rates.length then 3 else if goodTm t then 0 else 1
theorem ckTm_iff {t : Tm} : ckTm t = 0 ↔ TmOk t := by
 unfold ckTm goodTm rateB
 constructor
 ·
  intro h
  split at h
  ·
   cases h
  ·
   rename_i h3
   split at h
   ·
    rename_i hg
    simp only [Bool.and_eq_true, decide_eq_true_eq, allTo_iff, inB_iff, toB_iff] at hg
    obtain ⟨h1, h2, h4, h5, h6, h7⟩ := hg
    exact ⟨⟨by omega, by omega, h2⟩, h4, fun i hi => h5 i (by omega), h6, h7⟩
   ·
    cases h
 ·
  intro h
  rw [if_neg (by have := h.len; omega), if_pos]
  simp only [Bool.and_eq_true, decide_eq_true_eq, allTo_iff, inB_iff, toB_iff]
  exact ⟨by have := h.len; omega, h.len.2.2, h.rate, fun k hk => h.hour k (by have := h.len; omega), h.limit, h.most⟩
def v3C (v : V3) : Array Value := #[.int .i64 v.a, .int .i64 v.b, .int .i64 v.c]
theorem v3_at (v : V3) {i : Nat} (hi : i < 3) : (v3C v)[i]? = some (.int .i64 (v.get i)) := by
 match i, hi with
 | 0, _ => rfl
 | 1, _ => rfl
 | 2, _ => rfl
theorem v3_set (v : V3) {i : Nat} (hi : i < 3) (x : Int) : (v3C v).setIfInBounds i (.int .i64 x) = v3C (v.set i x) := by
 match i, hi with
 | 0, _ => rfl
 | 1, _ => rfl
 | 2, _ => rfl
def HrBd (d : V3) : Prop := ∀ i, i < 3 → 0 ≤ d.get i ∧ d.get i ≤ 8

set_option maxHeartbeats 1600000 in
theorem rate_any (r : Rg) (w : World) :
  Calls Try.prog 63 #[.agg #[.int .i64 r.lo, .int .i64 r.hi]] w fun e w' => e = .returned (.bool (rateB r)) ∧ Below w.heap.size w w' := by
 have hb1 := ex_alloc (Below.refl w.heap.size w) (.cells #[.int .i64 r.lo, .int .i64 r.hi] 50)
 go_enter Try.func63, Try.ntmps63
 go_wp2_with fail
 refine (toR_any r.lo r.hi 100 _).mono ?_
 rintro e w' ⟨rfl, hb2⟩
 go_wp2
 go_ret
 exact ⟨rfl, ex_trans hb1 hb2⟩
set_option maxHeartbeats 1600000 in
theorem hours_any (n : Int) (w : World) :
  Calls Try.prog 65 #[.int .i64 n] w fun e w' => e = .returned (.bool (inB n 0 8)) ∧ Below w.heap.size w w' := by
 go_enter Try.func65, Try.ntmps65
 go_wp2_with fail
 refine (within_any n 0 8 w).mono ?_
 rintro e w' ⟨rfl, rfl⟩
 go_wp2
 go_ret
 exact ⟨rfl, Below.refl _ _⟩

set_option maxHeartbeats 1600000 in
theorem all1_hrs (n : Nat) (l : List Int) (w : World)  (k pb : Nat) (hk : k < n) (hp : pb < w.heap.size) (hc : w.cell? ⟨pb, 0, none⟩ = some (.func (.func 65) #[] #[])) :
  Calls Try.prog 103 #[.int .i64 (gI l k), .pointer (some ⟨pb, 0, none⟩)] w fun e w' => e = .returned (.bool (!(inB (gI l k) 0 8))) ∧ Below w.heap.size w w' := by
 go_enter Try.func103, Try.ntmps103
 go_wp2_with fail
 refine (hours_any (gI l k) w).mono ?_
 rintro e w2 ⟨rfl, hb2⟩
 go_wp2
 go_ret
 exact ⟨rfl, hb2⟩

set_option maxHeartbeats 1600000 in
theorem index_hrs (n : Nat) (l : List Int) (A : Option Addr) (c : Nat) (w : World)  (hA : SlAt w w.heap.size 1 A n (fI l)) (hl : n ≤ 1000000) (pb : Nat) (hp : pb < w.heap.size) (hc : w.cell? ⟨pb, 0, none⟩ = some (.func (.func 65) #[] #[])) :
  Calls Try.prog 123 #[.slice A n c, .func (.func 103) #[] #[.pointer (some ⟨pb, 0, none⟩)]] w fun e w' => e = .returned (.int .i64 (firstOf (fun k => !(inB (gI l k) 0 8)) n)) ∧ Below w.heap.size w w' := by
 go_enter Try.func123, Try.ntmps123
 go_wp2
 go_loopw [8] (fun i wr => ∃ k : Nat, k ≤ n ∧ i = .int .i64 k ∧ (∀ k', k' < k → (inB (gI l k') 0 8) = true) ∧ Below w.heap.size w wr)
  (fun i _ => n - (intOf i).toNat)
 case atStart => exact ⟨0, by omega, rfl, fun j hj => by omega, Below.refl _ _⟩
 case round =>
  obtain ⟨k, hk, rfl, hok, hbl⟩ := hrel
  by_cases hlt : k < n
  ·
   have hAW := (hA.below hbl).up hbl.size
   obtain ⟨b, off, rfl, hbl2, g0⟩ := IsInts.at_ hAW hlt
   have hcr : wr.cell? ⟨pb, 0, none⟩ = some (.func (.func 65) #[] #[]) := (hbl.cell (p := ⟨pb, 0, none⟩) hp).trans hc
   have hpr : pb < wr.heap.size := by have := hbl.size; omega
   have HOK := Lib.hid hok
   clear hok
   cases ht : (inB (gI l k) 0 8)
   ·
    have HT := Lib.hid ht
    have HF : Hid (firstOf (fun k => !(inB (gI l k) 0 8)) n = (k : Int)) := Lib.hid (firstOf_at hlt (fun j hj => by have := HOK.out j hj; simp only [this]; rfl) (by simp only [ht]; rfl))
    clear ht
    go_wp2_with fail
    refine (all1_hrs n l wr  k pb hlt hpr hcr).mono ?_
    rintro e w2 ⟨rfl, hb2⟩
    rw [HT.out]
    go_wp2
    go_ret
    exact ⟨ret_int HF.out.symm, ex_trans hbl hb2⟩
   ·
    have HT := Lib.hid ht
    clear ht
    go_wp2_with fail
    refine (all1_hrs n l wr  k pb hlt hpr hcr).mono ?_
    rintro e w2 ⟨rfl, hb2⟩
    rw [HT.out]
    go_wp2
    go_roundw
    case rel => exact ⟨k + 1, by omega, by go_num, fun j hj => by rcases Nat.lt_succ_iff_lt_or_eq.1 hj with h | h; exact HOK.out j h; exact h ▸ HT.out, ex_trans hbl hb2⟩
    case measure => simp [intOf]; omega
  ·
   obtain rfl : k = n := by omega
   have HF : Hid (firstOf (fun k => !(inB (gI l k) 0 8)) k = -1) := Lib.hid (firstOf_neg fun j hj => by have := hok j hj; simp only [this]; rfl)
   go_wp2
   go_ret
   exact ⟨ret_int HF.out.symm, hbl⟩

theorem contains_hrs (n : Nat) (l : List Int) (A : Option Addr) (c : Nat) (w : World)  (hA : SlAt w w.heap.size 1 A n (fI l)) (hl : n ≤ 1000000) (pb : Nat) (hp : pb < w.heap.size) (hc : w.cell? ⟨pb, 0, none⟩ = some (.func (.func 65) #[] #[])) :
  Calls Try.prog 102 #[.slice A n c, .func (.func 103) #[] #[.pointer (some ⟨pb, 0, none⟩)]] w fun e w' => e = .returned (.bool (!allTo (fun k => (inB (gI l k) 0 8)) n)) ∧ Below w.heap.size w w' := by
 have HF : Hid (decide (0 ≤ firstOf (fun k => !(inB (gI l k) 0 8)) n) = !allTo (fun k => (inB (gI l k) 0 8)) n) := Lib.hid (by rw [firstOf_nonneg]; simp)
 go_enter Try.func102, Try.ntmps102
 go_wp2_with fail
 refine (index_hrs n l A c w  hA hl pb hp hc).mono ?_
 rintro e w2 ⟨rfl, hb2⟩
 go_wp2
 go_ret
 exact ⟨ret_bool HF.out, hb2⟩

theorem all_hrs (n : Nat) (l : List Int) (A : Option Addr) (c : Nat) (w : World)  (hA : SlAt w w.heap.size 1 A n (fI l)) (hl : n ≤ 1000000) :
  Calls Try.prog 68 #[.slice A n c, .func (.func 65) #[] #[]] w fun e w' => e = .returned (.bool (allTo (fun k => (inB (gI l k) 0 8)) n)) ∧ Below w.heap.size w w' := by
 have hb1 := ex_alloc (Below.refl w.heap.size w) (.cells #[.func (.func 65) #[] #[]] 130)
 have hA1 := (hA.below hb1).up hb1.size
 go_enter Try.func68, Try.ntmps68
 go_wp2_with fail
 refine (contains_hrs n l A c _  hA1 hl w.heap.size (by simp) (by simp [go_sem])).mono ?_
 rintro e w2 ⟨rfl, hb2⟩
 go_wp2
 go_ret
 exact ⟨by simp, ex_trans hb1 hb2⟩

set_option maxHeartbeats 1600000 in
theorem all1_rate (n : Nat) (l : List Rg) (w : World)  (k pb : Nat) (hk : k < n) (hp : pb < w.heap.size) (hc : w.cell? ⟨pb, 0, none⟩ = some (.func (.func 63) #[] #[])) :
  Calls Try.prog 101 #[.agg #[.int .i64 (gR l k).lo, .int .i64 (gR l k).hi], .pointer (some ⟨pb, 0, none⟩)] w fun e w' => e = .returned (.bool (!(rateB (gR l k)))) ∧ Below w.heap.size w w' := by
 go_enter Try.func101, Try.ntmps101
 go_wp2_with fail
 have X9 := ex_alloc (Below.refl w.heap.size w) (.cells #[.int .i64 (gR l k).lo, .int .i64 (gR l k).hi] 50)
 refine (rate_any (gR l k) _).mono ?_
 rintro e w2 ⟨rfl, hb2⟩
 go_wp2
 go_ret
 exact ⟨rfl, ex_trans X9 hb2⟩

set_option maxHeartbeats 1600000 in
theorem index_rate (n : Nat) (l : List Rg) (A : Option Addr) (c : Nat) (w : World)  (hA : SlAt w w.heap.size 2 A n (fR l)) (hl : n ≤ 1000000) (pb : Nat) (hp : pb < w.heap.size) (hc : w.cell? ⟨pb, 0, none⟩ = some (.func (.func 63) #[] #[])) :
  Calls Try.prog 122 #[.slice A n c, .func (.func 101) #[] #[.pointer (some ⟨pb, 0, none⟩)]] w fun e w' => e = .returned (.int .i64 (firstOf (fun k => !(rateB (gR l k))) n)) ∧ Below w.heap.size w w' := by
 go_enter Try.func122, Try.ntmps122
 go_wp2
 go_loopw [8] (fun i wr => ∃ k : Nat, k ≤ n ∧ i = .int .i64 k ∧ (∀ k', k' < k → (rateB (gR l k')) = true) ∧ Below w.heap.size w wr)
  (fun i _ => n - (intOf i).toNat)
 case atStart => exact ⟨0, by omega, rfl, fun j hj => by omega, Below.refl _ _⟩
 case round =>
  obtain ⟨k, hk, rfl, hok, hbl⟩ := hrel
  by_cases hlt : k < n
  ·
   have hAW := (hA.below hbl).up hbl.size
   obtain ⟨bi, oi, rfl, hbi, g0, g1⟩ := IsRgs.at_ hAW hlt
   have hcr : wr.cell? ⟨pb, 0, none⟩ = some (.func (.func 63) #[] #[]) := (hbl.cell (p := ⟨pb, 0, none⟩) hp).trans hc
   have hpr : pb < wr.heap.size := by have := hbl.size; omega
   have HOK := Lib.hid hok
   clear hok
   cases ht : (rateB (gR l k))
   ·
    have HT := Lib.hid ht
    have HF : Hid (firstOf (fun k => !(rateB (gR l k))) n = (k : Int)) := Lib.hid (firstOf_at hlt (fun j hj => by have := HOK.out j hj; simp only [this]; rfl) (by simp only [ht]; rfl))
    clear ht
    go_wp2_with fail
    refine (all1_rate n l wr  k pb hlt hpr hcr).mono ?_
    rintro e w2 ⟨rfl, hb2⟩
    rw [HT.out]
    go_wp2
    go_ret
    exact ⟨ret_int HF.out.symm, ex_trans hbl hb2⟩
   ·
    have HT := Lib.hid ht
    clear ht
    go_wp2_with fail
    refine (all1_rate n l wr  k pb hlt hpr hcr).mono ?_
    rintro e w2 ⟨rfl, hb2⟩
    rw [HT.out]
    go_wp2
    go_roundw
    case rel => exact ⟨k + 1, by omega, by go_num, fun j hj => by rcases Nat.lt_succ_iff_lt_or_eq.1 hj with h | h; exact HOK.out j h; exact h ▸ HT.out, ex_trans hbl hb2⟩
    case measure => simp [intOf]; omega
  ·
   obtain rfl : k = n := by omega
   have HF : Hid (firstOf (fun k => !(rateB (gR l k))) k = -1) := Lib.hid (firstOf_neg fun j hj => by have := hok j hj; simp only [this]; rfl)
   go_wp2
   go_ret
   exact ⟨ret_int HF.out.symm, hbl⟩

theorem contains_rate (n : Nat) (l : List Rg) (A : Option Addr) (c : Nat) (w : World)  (hA : SlAt w w.heap.size 2 A n (fR l)) (hl : n ≤ 1000000) (pb : Nat) (hp : pb < w.heap.size) (hc : w.cell? ⟨pb, 0, none⟩ = some (.func (.func 63) #[] #[])) :
  Calls Try.prog 100 #[.slice A n c, .func (.func 101) #[] #[.pointer (some ⟨pb, 0, none⟩)]] w fun e w' => e = .returned (.bool (!allTo (fun k => (rateB (gR l k))) n)) ∧ Below w.heap.size w w' := by
 have HF : Hid (decide (0 ≤ firstOf (fun k => !(rateB (gR l k))) n) = !allTo (fun k => (rateB (gR l k))) n) := Lib.hid (by rw [firstOf_nonneg]; simp)
 go_enter Try.func100, Try.ntmps100
 go_wp2_with fail
 refine (index_rate n l A c w  hA hl pb hp hc).mono ?_
 rintro e w2 ⟨rfl, hb2⟩
 go_wp2
 go_ret
 exact ⟨ret_bool HF.out, hb2⟩

theorem all_rate (n : Nat) (l : List Rg) (A : Option Addr) (c : Nat) (w : World)  (hA : SlAt w w.heap.size 2 A n (fR l)) (hl : n ≤ 1000000) :
  Calls Try.prog 67 #[.slice A n c, .func (.func 63) #[] #[]] w fun e w' => e = .returned (.bool (allTo (fun k => (rateB (gR l k))) n)) ∧ Below w.heap.size w w' := by
 have hb1 := ex_alloc (Below.refl w.heap.size w) (.cells #[.func (.func 63) #[] #[]] 131)
 have hA1 := (hA.below hb1).up hb1.size
 go_enter Try.func67, Try.ntmps67
 go_wp2_with fail
 refine (contains_rate n l A c _  hA1 hl w.heap.size (by simp) (by simp [go_sem])).mono ?_
 rintro e w2 ⟨rfl, hb2⟩
 go_wp2
 go_ret
 exact ⟨by simp, ex_trans hb1 hb2⟩
set_option maxRecDepth 100000 in
set_option maxHeartbeats 3200000 in
theorem checkTm_any (t : Tm) (Ar Ah : Option Addr) (cr ch : Nat) (w : World) (ht : TmIn w w.heap.size t Ar Ah) (hsm : t.rates.length ≤ 1000 ∧ t.hours.length ≤ 1000) :
  Calls Try.prog 24 #[.agg #[.slice Ar t.rates.length cr, .slice Ah t.hours.length ch, .int .i64 t.limit, .int .i64 t.most]] w fun e w' => e = .returned (.int .i64 (ckTm t)) ∧ Below w.heap.size w w' := by
 have hR := ht.rates
 have hH := ht.hours
 obtain ⟨n1, hn1⟩ : ∃ n, t.rates.length = n := ⟨_, rfl⟩
 obtain ⟨n2, hn2⟩ : ∃ n, t.hours.length = n := ⟨_, rfl⟩
 rw [hn1] at hR hsm ⊢
 rw [hn2] at hH hsm ⊢
 have HN1 := Lib.hid hn1
 have HN2 := Lib.hid hn2
 clear hn1 hn2 ht
 have hb1 := ex_alloc (Below.refl w.heap.size w) (.cells #[.slice Ar n1 cr, .slice Ah n2 ch, .int .i64 t.limit, .int .i64 t.most] 59)
 have q0 : Blk (w.alloc (.cells #[.slice Ar n1 cr, .slice Ah n2 ch, .int .i64 t.limit, .int .i64 t.most] 59)) w.heap.size 59 #[.slice Ar n1 cr, .slice Ah n2 ch, .int .i64 t.limit, .int .i64 t.most] := Blk.new _ _ _
 have hR1 := (hR.below hb1).up hb1.size
 have hH1 := (hH.below hb1).up hb1.size
 go_enter Try.func24, Try.ntmps24
 go_upto_region 3 with fail
 obtain ⟨p0, hp0⟩ : ∃ p, w.heap.size = p := ⟨_, rfl⟩
 rw [hp0] at q0 ⊢
 generalize w.alloc (.cells #[.slice Ar n1 cr, .slice Ah n2 ch, .int .i64 t.limit, .int .i64 t.most] 59) = W1 at *
 clear hp0
 have a0 : W1.cell? ⟨p0, 0, none⟩ = some (.slice Ar n1 cr) := q0.cell 0
 have a1 : W1.cell? ⟨p0, 1, none⟩ = some (.slice Ah n2 ch) := q0.cell 1
 have a2 : W1.cell? ⟨p0, 2, none⟩ = some (.int .i64 t.limit) := q0.cell 2
 have a3 : W1.cell? ⟨p0, 3, none⟩ = some (.int .i64 t.most) := q0.cell 3
 have l0 := q0.lt
 by_cases h3 : 3 < n1
 ·
  have HF : Hid (ckTm t = 3) := Lib.hid (by unfold ckTm; rw [HN1.out, if_pos h3])
  go_wp2
  go_ret
  exact ⟨by rw [HF.out]; rfl, hb1⟩
 ·
  by_cases h0 : n1 = 0
  ·
   subst h0
   have HF : Hid (ckTm t = 1) := Lib.hid (by unfold ckTm; rw [HN1.out, if_neg (by omega), if_neg (by unfold goodTm; rw [HN1.out]; simp)])
   go_wp2
   go_ret
   exact ⟨by rw [HF.out]; rfl, hb1⟩
  ·
   by_cases h2 : n2 = n1
   ·
    subst h2
    have H0 := Lib.hid h0
    have hq0 : ¬ ((n2 : Int) = 0) := by omega
    have hq1 : ((n2 : Int) == 0) = false := by simpa using h0
    go_wp2_with fail
    refine (all_rate n2 t.rates Ar cr W1 hR1 (by omega)).mono ?_
    rintro e W2 ⟨rfl, h2⟩
    have B2 := ex_trans hb1 h2
    have q02 := q0.below h2 q0.lt
    have hH2 := (hH1.below h2).up h2.size
    clear a0 a1 a2 a3 l0
    have a0 : W2.cell? ⟨p0, 0, none⟩ = some (.slice Ar n2 cr) := q02.cell 0
    have a1 : W2.cell? ⟨p0, 1, none⟩ = some (.slice Ah n2 ch) := q02.cell 1
    have a2 : W2.cell? ⟨p0, 2, none⟩ = some (.int .i64 t.limit) := q02.cell 2
    have a3 : W2.cell? ⟨p0, 3, none⟩ = some (.int .i64 t.most) := q02.cell 3
    have l0 := q02.lt
    cases hA : allTo (fun k => rateB (gR t.rates k)) n2
    ·
     have HA := Lib.hid hA
     clear hA
     have HF : Hid (ckTm t = 1) := Lib.hid (by unfold ckTm; rw [HN1.out, if_neg (by omega), if_neg (by unfold goodTm; rw [HN1.out, HN2.out, HA.out]; simp)])
     go_wp2
     go_ret
     exact ⟨by rw [HF.out]; rfl, B2⟩
    ·
     have HA := Lib.hid hA
     clear hA
     go_wp2_with fail
     refine (all_hrs n2 t.hours Ah ch W2 hH2 (by omega)).mono ?_
     rintro e W3 ⟨rfl, h3⟩
     have B3 := ex_trans B2 h3
     have q03 := q02.below h3 q02.lt
     clear a0 a1 a2 a3 l0
     have a0 : W3.cell? ⟨p0, 0, none⟩ = some (.slice Ar n2 cr) := q03.cell 0
     have a1 : W3.cell? ⟨p0, 1, none⟩ = some (.slice Ah n2 ch) := q03.cell 1
     have a2 : W3.cell? ⟨p0, 2, none⟩ = some (.int .i64 t.limit) := q03.cell 2
     have a3 : W3.cell? ⟨p0, 3, none⟩ = some (.int .i64 t.most) := q03.cell 3
     have l0 := q03.lt
     cases hB : allTo (fun k => inB (gI t.hours k) 0 8) n2
     ·
      have HB := Lib.hid hB
      clear hB
      have HF : Hid (ckTm t = 1) := Lib.hid (by unfold ckTm; rw [HN1.out, if_neg (by omega), if_neg (by unfold goodTm; rw [HN1.out, HN2.out, HA.out, HB.out]; simp)])
      go_wp2
      go_ret
      exact ⟨by rw [HF.out]; rfl, B3⟩
     ·
      have HB := Lib.hid hB
      clear hB
      go_wp2_with fail
      refine (within_any t.limit 0 1000 W3).mono ?_
      rintro e w' ⟨rfl, rfl⟩
      cases hC : inB t.limit 0 1000
      ·
       have HC := Lib.hid hC
       clear hC
       have HF : Hid (ckTm t = 1) := Lib.hid (by unfold ckTm; rw [HN1.out, if_neg (by omega), if_neg (by unfold goodTm; rw [HN1.out, HN2.out, HA.out, HB.out, HC.out]; simp)])
       go_wp2
       go_ret
       exact ⟨by rw [HF.out]; rfl, B3⟩
      ·
       have HC := Lib.hid hC
       clear hC
       go_wp2_with fail
       refine (hours_any t.most W3).mono ?_
       rintro e W4 ⟨rfl, h4⟩
       have B4 := ex_trans B3 h4
       cases hD : inB t.most 0 8
       ·
        have HD := Lib.hid hD
        clear hD
        have HF : Hid (ckTm t = 1) := Lib.hid (by unfold ckTm; rw [HN1.out, if_neg (by omega), if_neg (by unfold goodTm; rw [HN1.out, HN2.out, HA.out, HB.out, HC.out, HD.out]; simp)])
        go_wp2
        go_ret
        exact ⟨by rw [HF.out]; rfl, B4⟩
       ·
        have HD := Lib.hid hD
        clear hD
        have HF : Hid (ckTm t = 0) := Lib.hid (by unfold ckTm; rw [HN1.out, if_neg (by omega), if_pos (by unfold goodTm; rw [HN1.out, HN2.out, HA.out, HB.out, HC.out, HD.out]; simp [H0.out])])
        go_wp2
        go_ret
        exact ⟨by rw [HF.out]; rfl, B4⟩
   ·
    have hq0 : ¬ ((n1 : Int) = 0) := by omega
    have hq1 : ((n1 : Int) == 0) = false := by simpa using h0
    have hq2 : ((n2 : Int) != (n1 : Int)) = true := by rw [bne_iff_ne]; omega
    have HF : Hid (ckTm t = 1) := Lib.hid (by unfold ckTm; rw [HN1.out, if_neg (by omega), if_neg (by unfold goodTm; rw [HN1.out, HN2.out]; simp [h2])])
    go_wp2
    go_ret
    exact ⟨by rw [HF.out]; rfl, hb1⟩
set_option maxRecDepth 100000 in
set_option maxHeartbeats 3200000 in
theorem may_team (t : Tm) (Ar Ah : Option Addr) (cr ch : Nat) (w : World) (ht : TmIn w w.heap.size t Ar Ah) (hok : TmOk t) (d : V3) (hbd : HrBd d) :
  Calls Try.prog 73 #[.agg #[.slice Ar t.rates.length cr, .slice Ah t.hours.length ch, .int .i64 t.limit, .int .i64 t.most], .agg (v3C d)] w fun e w' => e = .returned (.bool (mayB t d)) ∧ Below w.heap.size w w' := by
 unfold v3C
 have hl := hok.len
 have hl3 : t.rates.length ≤ 3 := hl.2.1
 clear hl
 have hb1 := ex_alloc (ex_alloc (Below.refl w.heap.size w) (.cells #[.slice Ar t.rates.length cr, .slice Ah t.hours.length ch, .int .i64 t.limit, .int .i64 t.most] 59)) (.cells #[.int .i64 d.a, .int .i64 d.b, .int .i64 d.c] 136)
 have q0 : Blk ((w.alloc (.cells #[.slice Ar t.rates.length cr, .slice Ah t.hours.length ch, .int .i64 t.limit, .int .i64 t.most] 59)).alloc (.cells #[.int .i64 d.a, .int .i64 d.b, .int .i64 d.c] 136)) w.heap.size 59 #[.slice Ar t.rates.length cr, .slice Ah t.hours.length ch, .int .i64 t.limit, .int .i64 t.most] := (Blk.new _ _ _).alloc _
 have q1 : Blk ((w.alloc (.cells #[.slice Ar t.rates.length cr, .slice Ah t.hours.length ch, .int .i64 t.limit, .int .i64 t.most] 59)).alloc (.cells #[.int .i64 d.a, .int .i64 d.b, .int .i64 d.c] 136)) (w.heap.size + 1) 136 (v3C d) := Blk.new' _ _ _ (by simp)
 go_enter Try.func73, Try.ntmps73
 go_upto_region 2 with fail
 show Code.wp _ _ _ _ ((w.alloc (.cells #[.slice Ar t.rates.length cr, .slice Ah t.hours.length ch, .int .i64 t.limit, .int .i64 t.most] 59)).alloc (.cells #[.int .i64 d.a, .int .i64 d.b, .int .i64 d.c] 136))
 obtain ⟨p0, hp0⟩ : ∃ p, w.heap.size = p := ⟨_, rfl⟩
 rw [hp0] at q0 q1 ⊢
 have HP0 := Lib.hid hp0
 generalize (w.alloc (.cells #[.slice Ar t.rates.length cr, .slice Ah t.hours.length ch, .int .i64 t.limit, .int .i64 t.most] 59)).alloc (.cells #[.int .i64 d.a, .int .i64 d.b, .int .i64 d.c] 136) = W1 at *
 clear hp0
 have a0 : W1.cell? ⟨p0, 0, none⟩ = some (.slice Ar t.rates.length cr) := q0.cell 0
 have a1 : W1.cell? ⟨p0, 1, none⟩ = some (.slice Ah t.hours.length ch) := q0.cell 1
 have a2 : W1.cell? ⟨p0, 2, none⟩ = some (.int .i64 t.limit) := q0.cell 2
 have a3 : W1.cell? ⟨p0, 3, none⟩ = some (.int .i64 t.most) := q0.cell 3
 have l0 := q0.lt
 go_wp2_with fail
 refine wp_loop (fun a W => Rel (fun a W => ∃ k : Nat, k ≤ t.rates.length ∧ Below w.heap.size w W ∧ Blk W p0 59 #[.slice Ar t.rates.length cr, .slice Ah t.hours.length ch, .int .i64 t.limit, .int .i64 t.most] ∧ Blk W (p0 + 1) 136 (v3C d) ∧ (0 ≤ hrsTo d k ∧ hrsTo d k ≤ 8 * k ∧ 0 ≤ brTo t d k ∧ brTo t d k ≤ 800 * k) ∧ ∃ u : Nat → Value, a = ⟨List.toArray (u 0 :: u 1 :: .pointer (some ⟨p0, 0, none⟩) :: .pointer (some ⟨p0 + 1, 0, none⟩) :: u 4 :: .int .i64 (hrsTo d k) :: .int .i64 (brTo t d k) :: u 7 :: u 8 :: u 9 :: .slice Ar t.rates.length cr :: .int .i64 (t.rates.length : Int) :: .int .i64 (k : Int) :: u 13 :: u 14 :: u 15 :: u 16 :: u 17 :: u 18 :: u 19 :: u 20 :: u 21 :: u 22 :: u 23 :: u 24 :: u 25 :: u 26 :: u 27 :: u 28 :: u 29 :: u 30 :: u 31 :: u 32 :: u 33 :: u 34 :: u 35 :: u 36 :: u 37 :: u 38 :: u 39 :: u 40 :: []), []⟩) a W) (fun a _ => t.rates.length - (intOf (a.tmps.getD 12 undef)).toNat) ⟨⟨0, by omega, hb1, q0, q1, by simp [hrsTo, brTo, esum], exFrame (by kernel_rfl)⟩⟩ ?_
 clear a0 a1 a2 a3 l0 q0 q1 hb1 W1
 rintro a W ⟨⟨k, hk, hb, q0, q1, hbd2, u, rfl⟩⟩
 have a0 : W.cell? ⟨p0, 0, none⟩ = some (.slice Ar t.rates.length cr) := q0.cell 0
 have a1 : W.cell? ⟨p0, 1, none⟩ = some (.slice Ah t.hours.length ch) := q0.cell 1
 have a2 : W.cell? ⟨p0, 2, none⟩ = some (.int .i64 t.limit) := q0.cell 2
 have a3 : W.cell? ⟨p0, 3, none⟩ = some (.int .i64 t.most) := q0.cell 3
 have l0 := q0.lt
 by_cases hlt : k < t.rates.length
 ·
  have hk3 : k < 3 := by omega
  obtain ⟨b, off, rfl, hbl, g0, g1⟩ := IsRgs.at_ (ht.rates.below hb) hlt
  have hrk := hok.rate k hlt
  have hdk := hbd k hk3
  have hm1 : 0 ≤ d.get k * (gR t.rates k).hi ∧ d.get k * (gR t.rates k).hi ≤ 800 := ⟨Int.mul_nonneg hdk.1 (by omega), by have := Int.mul_le_mul hdk.2 (show (gR t.rates k).hi ≤ 100 by omega) (by omega) (by decide); omega⟩
  have hs1 := hrsTo_succ d k
  have hs2 := brTo_succ t d k
  obtain ⟨⟨rl, rh⟩, hr⟩ : ∃ x, gR t.rates k = x := ⟨_, rfl⟩
  rw [hr] at g0 g1 hm1 hs2
  dsimp only at g0 g1 hm1 hs2
  obtain ⟨dk, hdk2⟩ : ∃ x, d.get k = x := ⟨_, rfl⟩
  have hv := q1.cell k
  rw [v3_at d hk3, hdk2] at hv
  rw [hdk2] at hs1 hs2 hm1 hdk
  obtain ⟨h0, hh0⟩ : ∃ x, hrsTo d k = x := ⟨_, rfl⟩
  obtain ⟨b0, hb0⟩ : ∃ x, brTo t d k = x := ⟨_, rfl⟩
  rw [hh0] at hs1 hbd2 ⊢
  rw [hb0] at hs2 hbd2 ⊢
  have HS1 := Lib.hid hs1
  have HS2 := Lib.hid hs2
  clear hs1 hs2 hr hdk2 hh0 hb0 hrk
  have X1 := ex_alloc (Below.refl W.heap.size W) (.cells #[.int .i64 rl, .int .i64 rh] 50)
  have q8 : Blk (W.alloc (.cells #[.int .i64 rl, .int .i64 rh] 50)) W.heap.size 50 #[.int .i64 rl, .int .i64 rh] := Blk.new _ _ _
  have hbW : b < W.heap.size := by have := hb.size; omega
  have q02 := q0.below X1 l0
  have l1 := q1.lt
  have q12 := q1.below X1 l1
  have hb2 := ex_trans hb X1
  have hv2 : (W.alloc (.cells #[.int .i64 rl, .int .i64 rh] 50)).cell? ⟨p0 + 1, k, none⟩ = some (.int .i64 dk) := (X1.cell (p := ⟨p0 + 1, k, none⟩) l1).trans hv
  have hk33 : (k : Int) < 3 := by omega
  go_upto_region 6 with fail
  obtain ⟨p8, hp8⟩ : ∃ p, W.heap.size = p := ⟨_, rfl⟩
  rw [hp8] at q8 ⊢
  generalize W.alloc (.cells #[.int .i64 rl, .int .i64 rh] 50) = Y at *
  clear hp8 a0 a1 a2 a3 l0 g0 g1 hv
  have z0 : Y.cell? ⟨p8, 0, none⟩ = some (.int .i64 rl) := q8.cell 0
  have z1 : Y.cell? ⟨p8, 1, none⟩ = some (.int .i64 rh) := q8.cell 1
  have lz := q8.lt
  have l1y := q12.lt
  have D0 := (Below.refl Y.heap.size Y).drew
  refine wp_region_ext_mix 8 [(false, 0), (false, 1), (false, 2), (false, 3), (false, 4), (false, 5), (false, 6), (false, 7)] (by kernel_rfl) (by kernel_rfl) (by intro d _ _ _ _ h; cases d <;> exact h) ?_
  repeat (refine mix_quiet rfl ?_; go_big_quiet_step (fail); refine wpQuiet_nil ?_)
  refine mix_nil (r := [_]) rfl ?_
  have hb3 := ex_trans hb2 D0
  have q03 := q02.below D0 q02.lt
  have q13 := q12.below D0 q12.lt
  go_wp2_with fail
  refine ⟨⟨⟨k + 1, by omega, hb3, q03, q13, by rw [HS1.out, HS2.out]; omega, exFrame (by rw [HS1.out, HS2.out]; kernel_rfl)⟩⟩, ?_⟩
  show t.rates.length - (intOf (.int .i64 ((k : Int) + 1))).toNat < t.rates.length - (intOf (.int .i64 (k : Int))).toNat
  simp [intOf]
  omega
 ·
  have hkr : k = t.rates.length := by omega
  have HM : Hid (mayB t d = (decide (hrsTo d k ≤ t.most) && decide (brTo t d k ≤ t.limit))) := Lib.hid (by unfold mayB; rw [hkr])
  clear hkr
  by_cases h1 : hrsTo d k ≤ t.most
  ·
   have HF : Hid (mayB t d = decide (brTo t d k ≤ t.limit)) := Lib.hid (by rw [HM.out, decide_eq_true h1]; rfl)
   go_wp2
   go_ret
   exact ⟨by rw [HF.out]; rfl, hb⟩
  ·
   have HF : Hid (mayB t d = false) := Lib.hid (by rw [HM.out, decide_eq_false (by omega)]; rfl)
   go_wp2
   go_ret
   exact ⟨by rw [HF.out]; rfl, hb⟩
end Go.Proofs.Ythihdiilokdidaa
end

section
namespace Go.Proofs.Ythihdiilokdidaa
def addL (t : Tm) (l : V3) : Nat → V3 → Nat → List V3
  | 0, d, _ => if mayB t d = true then (if d = z3 then [] else [d]) else []
  | f + 1, d, r => if mayB t d = true then (List.range ((l.get r).toNat + 1)).flatMap (fun n : Nat => addL t l f (d.set r (n : Int)) (r + 1)) else []
theorem V3.set_set (d : V3) (r : Nat) (x y : Int) : (d.set r x).set r y = d.set r y := by
  match r with
  | 0 => rfl
  | 1 => rfl
  | 2 => rfl
  | _ + 3 => rfl
theorem V3.set_get_self (d : V3) (r : Nat) : d.set r (d.get r) = d := by
  match r with
  | 0 => rfl
  | 1 => rfl
  | 2 => rfl
  | _ + 3 => rfl
theorem V3.get_far (d : V3) {i : Nat} (h : 3 ≤ i) : d.get i = 0 := by
  match i, h with
  | _ + 3, _ => rfl
theorem z3_get (i : Nat) : z3.get i = 0 := by
  match i with
  | 0 => rfl
  | 1 => rfl
  | 2 => rfl
  | _ + 3 => rfl
theorem addL_mem {t : Tm} {l : V3} (ht : TmOk t) (hl : HrOk t l) : ∀ (f : Nat) (d : V3) (r : Nat), r + f = t.rates.length → (∀ i, r ≤ i → d.get i = 0) → (∀ i, i < r → 0 ≤ d.get i ∧ d.get i ≤ l.get i) → ∀ e, e ∈ addL t l f d r ↔ (Part t e l ∧ e ≠ z3 ∧ ∀ i, i < r → e.get i = d.get i)
  | 0, d, r, hrf, h0, hb, e => by
    have hr : r = t.rates.length := by omega
    have key : Part t e l → (∀ i, i < r → e.get i = d.get i) → e = d := fun hp he => V3.ext' fun i hi => by
      by_cases h : i < r
      · exact he i h
      · have a := hp.bd i hi
        have b := hl.far i (by omega)
        rw [h0 i (by omega)]
        omega
    have dl : ∀ i, i < 3 → 0 ≤ d.get i ∧ d.get i ≤ l.get i := fun i hi => by
      by_cases h : i < r
      · exact hb i h
      · rw [h0 i (by omega)]
        exact ⟨Int.le_refl _, (hl.bd i hi).1⟩
    rw [addL]
    constructor
    · intro h
      split at h
      · rename_i hm
        split at h
        · cases h
        · rename_i hz
          obtain rfl := List.mem_singleton.1 h
          exact ⟨⟨dl, hm⟩, hz, fun _ _ => rfl⟩
      · cases h
    · rintro ⟨hp, hz, he⟩
      obtain rfl := key hp he
      rw [if_pos hp.may, if_neg hz]
      exact List.mem_singleton.2 rfl
  | f + 1, d, r, hrf, h0, hb, e => by
    have hr3 : r < 3 := by have := ht.len; omega
    have hlr := hl.bd r hr3
    rw [addL]
    split
    · rename_i hm
      have hih : ∀ n : Nat, (n : Int) ≤ l.get r → (e ∈ addL t l f (d.set r (n : Int)) (r + 1) ↔ (Part t e l ∧ e ≠ z3 ∧ ∀ i, i < r + 1 → e.get i = (d.set r (n : Int)).get i)) := fun n hn => addL_mem ht hl f _ (r + 1) (by omega) (fun i hi => by rw [V3.set_get _ _ _ _ hr3, if_neg (by omega)]; exact h0 i (by omega)) (fun i hi => by
        rw [V3.set_get _ _ _ _ hr3]
        split
        · rename_i h; subst h; omega
        · exact hb i (by omega)) e
      rw [List.mem_flatMap]
      constructor
      · rintro ⟨n, hn, he⟩
        have hn' := List.mem_range.1 hn
        obtain ⟨h1, h2, h3⟩ := (hih n (by omega)).1 he
        exact ⟨h1, h2, fun i hi => by have := h3 i (by omega); rw [V3.set_get _ _ _ _ hr3, if_neg (by omega)] at this; exact this⟩
      · rintro ⟨h1, h2, h3⟩
        have her := h1.bd r hr3
        refine ⟨(e.get r).toNat, List.mem_range.2 (by omega), (hih _ (by omega)).2 ⟨h1, h2, fun i hi => ?_⟩⟩
        rw [V3.set_get _ _ _ _ hr3]
        split
        · rename_i h; subst h; omega
        · exact h3 i (by omega)
    · rename_i hm
      constructor
      · intro h; cases h
      · rintro ⟨h1, _, h3⟩
        refine absurd (mayB_mono ht (d := d) (e := e) (fun i => ?_) h1.may) hm
        by_cases h : i < r
        · rw [h3 i h]; exact Int.le_refl _
        · rw [h0 i (by omega)]
          by_cases h4 : i < 3
          · exact (h1.bd i h4).1
          · rw [V3.get_far e (by omega)]; exact Int.le_refl _
theorem flatV_len {α β : Type} {f : α → List β} {C : Nat} : ∀ {l : List α}, (∀ a ∈ l, (f a).length ≤ C) → (l.flatMap f).length ≤ l.length * C
  | [], _ => by simp
  | a :: l, h => by
    have h1 := h a (by simp)
    have h2 := flatV_len (l := l) (fun b hb => h b (by simp [hb]))
    rw [List.flatMap_cons, List.length_append, List.length_cons, Nat.add_mul]
    omega
theorem addL_len {t : Tm} {l : V3} (hl : HrOk t l) : ∀ (f : Nat) (d : V3) (r : Nat), r + f ≤ 3 → (addL t l f d r).length ≤ 9 ^ f
  | 0, d, r, _ => by
    rw [addL]
    split
    · split <;> simp
    · simp
  | f + 1, d, r, h => by
    rw [addL]
    split
    · have h1 := flatV_len (f := fun n : Nat => addL t l f (d.set r (n : Int)) (r + 1)) (C := 9 ^ f) (l := List.range ((l.get r).toNat + 1)) (fun n _ => addL_len hl f _ _ (by omega))
      have h2 := hl.bd r (by omega)
      rw [List.length_range] at h1
      refine Nat.le_trans h1 ?_
      rw [Nat.pow_succ, Nat.mul_comm]
      exact Nat.mul_le_mul_left _ (by omega)
    · simp
def daysL (t : Tm) (l : V3) : List V3 := addL t l t.rates.length z3 0
theorem daysL_mem {t : Tm} {l : V3} (ht : TmOk t) (hl : HrOk t l) (e : V3) : e ∈ daysL t l ↔ Part t e l ∧ e ≠ z3 := by
  unfold daysL
  rw [addL_mem ht hl t.rates.length z3 0 (by omega) (fun i _ => z3_get i) (fun i hi => by omega)]
  exact ⟨fun h => ⟨h.1, h.2.1⟩, fun h => ⟨h.1, h.2, fun i hi => by omega⟩⟩
theorem daysL_len {t : Tm} {l : V3} (ht : TmOk t) (hl : HrOk t l) : (daysL t l).length ≤ 729 := by
  have h1 := addL_len hl t.rates.length z3 0 (by have := ht.len; omega)
  have h2 := ht.len
  have h3 : t.rates.length = 1 ∨ t.rates.length = 2 ∨ t.rates.length = 3 := by omega
  unfold daysL
  refine Nat.le_trans h1 ?_
  rcases h3 with h | h | h <;> rw [h] <;> decide
end Go.Proofs.Ythihdiilokdidaa
end

section
namespace Go.Proofs.Ythihdiilokdidaa
open Go.RowKit
theorem wpIn_region_mixed_tail {P : Program} {Q : Exit → Act → World → Prop} {id l0 nn : Nat} {a : Act} {w : World} {l : List Oper} (n : Nat) (ks : List (Bool × Nat)) (S : World → Prop) (hm : P.follows .mixedOrders = true)
    (hB : (mixedB .any l.toArray n ks && decide (ks.length = n)) = true) (hnd : noDefer l = true) (hout : ¬ LetsOut Q) (hQ : ∀ d v c a w, Q (.panic c) (a.put d v) w → Q (.panic c) a w)
    (hS : S { w with drawn := w.drawn + 1 })
    (h : wpMixO P l.toArray Q S (fun a'' w'' => wpList P l.toArray Q (l.drop n) a'' w'') ks a { w with drawn := w.drawn + 1 }) :
    (Code.region id l.toArray true).wpIn (Fence.wide.inRound l0) nn P Q a w := by
  simp only [mixedB, Bool.and_eq_true, decide_eq_true_eq] at hB
  obtain ⟨⟨⟨⟨⟨hsel, hn⟩, hs⟩, hc⟩, hlex⟩, hlen⟩ := hB
  have hdl : (l.drop n).length = l.toArray.size - n := by simp
  have inv0 : HeadInv .any l.toArray n (Array.replicate l.toArray.size false) :=
    ⟨by simp, fun j oj _ hl => (by rw [getD_replicate_false] at hl; cases hl), fun t _ ht => getD_in (by simpa using ht) (getD_replicate_false _ _)⟩
  have H := mix_head (md := .any) (g := l.toArray.size - n) (T := fun a'' w'' => wpList P l.toArray Q (l.drop n) a'' w'') hsel hQ hs hc hn ks _ a _ inv0 hlex hS h
  refine wpIn_region_any hm (wpAnyIn_of_wpAny hout (noDefer_spec hnd) _ _ _ _ ?_)
  have := wpAny_of_headH (g := l.toArray.size - n) (fun listed' a' w' hL => by
    have := wpAny_of_seq (md := .any) (l.drop n) n listed' a' w' (fun j => by simp [List.getElem?_drop]) (by rw [hdl]; exact hL.1) hL.2
    rwa [hdl] at this) _ _ _ _ H
  rw [hlen, show n + (l.toArray.size - n) = l.toArray.size by omega] at this
  exact this
end Go.Proofs.Ythihdiilokdidaa
end
