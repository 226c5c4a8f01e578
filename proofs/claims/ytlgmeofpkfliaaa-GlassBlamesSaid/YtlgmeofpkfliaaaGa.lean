/- Glass: the plain model (no program in sight): data, and what they look like in memory. · Glass: what all walks use: worlds that have grown, and regions that draw their order and only read. · Glass: leaf functions (walks). · Glass: what is valid (walks). · Glass: CheckGlass, all, lived, iced (walks). · Glass: all, lived, iced (walks). · Glass: lived (walk). · Glass: ices that are right (walks). · Glass: iced (walk). · Glass: fits (walk). · Glass: truth (walk). · Glass: bounds of what is valid (plain). · A region that draws its order: operations that are quiet in a class of worlds, and behind all of them a tail whose order is fixed. (After the library's StillTail, with the class of Deep.Quiet in the place of the one world.) · Glass: play (walk). · Glass: Play (walk). -/
import Derived.WalkKit
import Derived.Lib.Hide
import Derived.Below
import Derived.Laws.OwnMore
import Derived.Deep.Draws
import Derived.Laws.Rows
import Derived.Deep.RegionHeld3
import Derived.Deep.QuietTactic
import Derived.Deep.DeepCutAuto
import Derived.BigQuiet
import Derived.StillTail
import Derived.Deep.AppendLies
import Derived.Test.YtlgmeofpkfliaaaProg
set_option linter.unusedVariables false
set_option linter.unusedSimpArgs false
set_option linter.unusedSectionVars false
section
namespace Go.Proofs.Ytlgmeofpkfliaaa
open Go.RowKit

theorem ret_int {k : IntKind} {a b : Int} (h : a = b) : Ending.returned (.int k a) = .returned (.int k b) := by rw [h]
theorem ret_bool {a b : Bool} (h : a = b) : Ending.returned (.bool a) = .returned (.bool b) := by rw [h]

/-- a list's element, behind a name that the walk does not open. -/
def gI (l : List Int) (k : Nat) : Int := l.getD k 0

structure Rg where
  lo : Int
  hi : Int
  deriving DecidableEq, Inhabited
structure Bd where
  from_ : Int
  lo : Int
  hi : Int
  deriving DecidableEq, Inhabited
structure Dp where
  from_ : Int
  sink : Int
  deriving DecidableEq, Inhabited
structure Ic where
  day : Int
  zero : Int
  err : Int
  deriving DecidableEq, Inhabited

def gR (l : List Rg) (k : Nat) : Rg := l.getD k ⟨0, 0⟩
def gB (l : List Bd) (k : Nat) : Bd := l.getD k ⟨0, 0, 0⟩
def gD (l : List Dp) (k : Nat) : Dp := l.getD k ⟨0, 0⟩
def gC (l : List Ic) (k : Nat) : Ic := l.getD k ⟨0, 0, 0⟩

/-- a slice of so many elements of sz cells each, that starts at A: cell j of element k is f k j. -/
def SlAt (w : World) (B : Nat) (sz : Nat) (A : Option Addr) (n : Nat) (f : Nat → Nat → Value) : Prop :=
  0 < n → ∃ b off, A = some ⟨b, off, none⟩ ∧ b < B ∧ ∀ k j, k < n → j < sz → w.cell? ⟨b, off + (k * sz + j), none⟩ = some (f k j)

theorem SlAt.keep {w w' : World} {B B' sz n : Nat} {A : Option Addr} {f : Nat → Nat → Value} (h : SlAt w B sz A n f) (hB : B ≤ B') (hk : ∀ p : Addr, p.block < B → w'.cell? p = w.cell? p) : SlAt w' B' sz A n f :=
  fun hn => let ⟨b, off, e, hb, hc⟩ := h hn; ⟨b, off, e, by omega, fun k j hk' hj => (hk _ hb).trans (hc k j hk' hj)⟩
theorem SlAt.below {w w' : World} {B sz n : Nat} {A : Option Addr} {f : Nat → Nat → Value} (h : SlAt w B sz A n f) (hb : Below B w w') : SlAt w' B sz A n f := h.keep (Nat.le_refl _) fun _ hp => hb.cell hp
theorem SlAt.up {w : World} {B B' sz n : Nat} {A : Option Addr} {f : Nat → Nat → Value} (h : SlAt w B sz A n f) (hB : B ≤ B') : SlAt w B' sz A n f := h.keep hB fun _ _ => rfl
theorem SlAt.fewer {w : World} {B sz n m : Nat} {A : Option Addr} {f : Nat → Nat → Value} (h : SlAt w B sz A n f) (hm : m ≤ n) : SlAt w B sz A m f :=
  fun h0 => let ⟨b, off, e, hb, hc⟩ := h (by omega); ⟨b, off, e, hb, fun k j hk hj => hc k j (by omega) hj⟩

def fI (l : List Int) : Nat → Nat → Value := fun k _ => .int .i64 (gI l k)
def fR (l : List Rg) : Nat → Nat → Value := fun k j => match j with | 0 => .int .i64 (gR l k).lo | _ => .int .i64 (gR l k).hi
def fB (l : List Bd) : Nat → Nat → Value := fun k j => match j with | 0 => .int .i64 (gB l k).from_ | 1 => .int .i64 (gB l k).lo | _ => .int .i64 (gB l k).hi
def fD (l : List Dp) : Nat → Nat → Value := fun k j => match j with | 0 => .int .i64 (gD l k).from_ | _ => .int .i64 (gD l k).sink
def fC (l : List Ic) : Nat → Nat → Value := fun k j => match j with | 0 => .int .i64 (gC l k).day | 1 => .int .i64 (gC l k).zero | _ => .int .i64 (gC l k).err


section
variable {w : World} {B n : Nat} {A : Option Addr} {k : Nat}
theorem IsInts.at_ {l : List Int} (h : SlAt w B 1 A n (fI l)) (hk : k < n) :
    ∃ b off, A = some ⟨b, off, none⟩ ∧ b < B ∧ w.cell? ⟨b, off + k, none⟩ = some (.int .i64 (gI l k)) := by
  obtain ⟨b, off, e, hb, hc⟩ := h (by omega)
  exact ⟨b, off, e, hb, by simpa [fI] using hc k 0 hk (by omega)⟩
theorem IsRgs.at_ {l : List Rg} (h : SlAt w B 2 A n (fR l)) (hk : k < n) :
    ∃ b off, A = some ⟨b, off, none⟩ ∧ b < B ∧ w.cell? ⟨b, off + k * 2, none⟩ = some (.int .i64 (gR l k).lo) ∧ w.cell? ⟨b, off + k * 2 + 1, none⟩ = some (.int .i64 (gR l k).hi) := by
  obtain ⟨b, off, e, hb, hc⟩ := h (by omega)
  exact ⟨b, off, e, hb, hc k 0 hk (by omega), hc k 1 hk (by omega)⟩
theorem IsDps.at_ {l : List Dp} (h : SlAt w B 2 A n (fD l)) (hk : k < n) :
    ∃ b off, A = some ⟨b, off, none⟩ ∧ b < B ∧ w.cell? ⟨b, off + k * 2, none⟩ = some (.int .i64 (gD l k).from_) ∧ w.cell? ⟨b, off + k * 2 + 1, none⟩ = some (.int .i64 (gD l k).sink) := by
  obtain ⟨b, off, e, hb, hc⟩ := h (by omega)
  exact ⟨b, off, e, hb, hc k 0 hk (by omega), hc k 1 hk (by omega)⟩
theorem IsBds.at_ {l : List Bd} (h : SlAt w B 3 A n (fB l)) (hk : k < n) :
    ∃ b off, A = some ⟨b, off, none⟩ ∧ b < B ∧ w.cell? ⟨b, off + k * 3, none⟩ = some (.int .i64 (gB l k).from_) ∧ w.cell? ⟨b, off + k * 3 + 1, none⟩ = some (.int .i64 (gB l k).lo) ∧ w.cell? ⟨b, off + k * 3 + 2, none⟩ = some (.int .i64 (gB l k).hi) := by
  obtain ⟨b, off, e, hb, hc⟩ := h (by omega)
  exact ⟨b, off, e, hb, hc k 0 hk (by omega), hc k 1 hk (by omega), hc k 2 hk (by omega)⟩
theorem IsIcs.at_ {l : List Ic} (h : SlAt w B 3 A n (fC l)) (hk : k < n) :
    ∃ b off, A = some ⟨b, off, none⟩ ∧ b < B ∧ w.cell? ⟨b, off + k * 3, none⟩ = some (.int .i64 (gC l k).day) ∧ w.cell? ⟨b, off + k * 3 + 1, none⟩ = some (.int .i64 (gC l k).zero) ∧ w.cell? ⟨b, off + k * 3 + 2, none⟩ = some (.int .i64 (gC l k).err) := by
  obtain ⟨b, off, e, hb, hc⟩ := h (by omega)
  exact ⟨b, off, e, hb, hc k 0 hk (by omega), hc k 1 hk (by omega), hc k 2 hk (by omega)⟩
end

theorem bcell {W w1 : World} (hb : Below W.heap.size W w1) : (∀ b o, b < W.heap.size → w1.cell? ⟨b, o, none⟩ = W.cell? ⟨b, o, none⟩) ∧ (∀ b o, b < W.heap.size → w1.frozen? ⟨b, o, none⟩ = W.frozen? ⟨b, o, none⟩) :=
  ⟨fun b o h => hb.cell (p := ⟨b, o, none⟩) h, fun b o h => hb.frozen (p := ⟨b, o, none⟩) h⟩

/-- block g is just the cells cs of element type t, none frozen. -/
def Blk (w : World) (g : Nat) (t : TypeId) (cs : Array Value) : Prop := w.heap[g]? = some (.cells cs t (0, 0))
section
variable {w w' : World} {g : Nat} {t : TypeId} {cs : Array Value}
theorem Blk.lt (h : Blk w g t cs) : g < w.heap.size := by
  rcases Nat.lt_or_ge g w.heap.size with hlt | hge
  · exact hlt
  · unfold Blk at h; rw [Array.getElem?_eq_none hge] at h; cases h
theorem Blk.cell (h : Blk w g t cs) (i : Nat) : w.cell? ⟨g, i, none⟩ = cs[i]? := cell_of_row w g i cs t (0, 0) h
theorem Blk.frozen (h : Blk w g t cs) (i : Nat) : w.frozen? ⟨g, i, none⟩ = false := by
  unfold Blk at h
  simp [World.frozen?, h]
theorem Blk.new (w : World) (t : TypeId) (cs : Array Value) : Blk (w.alloc (.cells cs t)) w.heap.size t cs := heap_alloc_new w _
theorem Blk.new' (w : World) (t : TypeId) (cs : Array Value) {g : Nat} (hg : w.heap.size = g) : Blk (w.alloc (.cells cs t)) g t cs := hg ▸ heap_alloc_new w _
theorem Blk.drew (h : Blk w g t cs) : Blk w.drew g t cs := h
theorem Blk.drewN (h : Blk w g t cs) (n : Nat) : Blk (w.drewN n) g t cs := h
theorem Blk.alloc (h : Blk w g t cs) (o : Obj) : Blk (w.alloc o) g t cs := (Below.heap_alloc w o g h.lt).trans h
theorem Blk.set_ (h : Blk w g t cs) (i : Nat) (u : Value) : Blk (w.setCell ⟨g, i, none⟩ u) g t (cs.setIfInBounds i u) := by
  unfold Blk at h ⊢
  simp [World.setCell, Array.getElem?_modify, h]
theorem Blk.far (h : Blk w g t cs) {p : Addr} (hp : g ≠ p.block) (u : Value) : Blk (w.setCell p u) g t cs := (Below.heap_setCell w p u g hp).trans h
theorem Blk.below {B : Nat} (h : Blk w g t cs) (hb : Below B w w') (hg : g < B) : Blk w' g t cs := (hb.block g hg).trans h
theorem Blk.grown {row : Option Nat} (h : Blk w g t cs) (hb : w.grownBy w' row) (hg : some g ≠ row) : Blk w' g t cs := (hb.block g h.lt hg).trans h
end

/-- the greatest of the first so many. -/
def mxTo (xs : List Int) : Nat → Int
  | 0 => gI xs 0
  | k + 1 => max (mxTo xs k) (gI xs k)

/-- the greatest of three. -/
def mx3 (x y z : Int) : Int := max (max x y) z
theorem mx3_bd (x y z : Int) : x ≤ mx3 x y z ∧ y ≤ mx3 x y z ∧ z ≤ mx3 x y z ∧ (mx3 x y z = x ∨ mx3 x y z = y ∨ mx3 x y z = z) := by unfold mx3; omega

def inB (n lo hi : Int) : Bool := decide (lo ≤ n) && decide (n ≤ hi)
def toB (lo hi high : Int) : Bool := decide (0 ≤ lo) && (decide (lo ≤ hi) && decide (hi ≤ high))
theorem inB_iff {n lo hi : Int} : inB n lo hi = true ↔ lo ≤ n ∧ n ≤ hi := by simp [inB]
theorem toB_iff {lo hi high : Int} : toB lo hi high = true ↔ 0 ≤ lo ∧ lo ≤ hi ∧ hi ≤ high := by simp [toB]

/-- the first so many are right. -/
def allTo (f : Nat → Bool) : Nat → Bool
  | 0 => true
  | k + 1 => allTo f k && f k
theorem allTo_iff {f : Nat → Bool} {n : Nat} : allTo f n = true ↔ ∀ k, k < n → f k = true := by
  induction n with
  | zero => simp [allTo]
  | succ n ih =>
    simp only [allTo, Bool.and_eq_true, ih]
    constructor
    · rintro ⟨h1, h2⟩ k hk
      rcases Nat.lt_succ_iff_lt_or_eq.1 hk with h | h
      · exact h1 k h
      · exact h ▸ h2
    · intro h
      exact ⟨fun k hk => h k (by omega), h n (by omega)⟩
theorem allTo_false {f : Nat → Bool} {n k : Nat} (hk : k < n) (h : f k = false) : allTo f n = false := by
  cases hh : allTo f n
  · rfl
  · rw [allTo_iff.1 hh k hk] at h; cases h

def bandOk (l : List Bd) (i : Nat) : Bool := inB (gB l i).from_ 0 16 && (toB (gB l i).lo (gB l i).hi 3 && !(decide (0 < i) && decide ((gB l i).from_ ≤ (gB l (i - 1)).from_)))
def bandsB (l : List Bd) (n : Nat) : Bool := allTo (bandOk l) n && (decide (0 < n) && decide ((gB l 0).from_ = 0))
def deepOk (l : List Dp) (i : Nat) : Bool := inB (gD l i).from_ 0 500 && (inB (gD l i).sink 0 30 && !(decide (0 < i) && (decide ((gD l i).from_ ≤ (gD l (i - 1)).from_) || decide ((gD l i).sink < (gD l (i - 1)).sink))))
def deepsB (l : List Dp) (n : Nat) : Bool := allTo (deepOk l) n && decide (0 < n)

/-- a glass. -/
structure Gl where
  base : Int
  bands : List Bd
  depths : List Dp
  blo : Int
  bhi : Int
def ckOk (g : Gl) : Bool := inB g.base (-1000) 1000 && (toB g.blo g.bhi 5 && (bandsB g.bands g.bands.length && deepsB g.depths g.depths.length))
/-- the error of a glass. -/
def ckGlass (g : Gl) : Int := if 3 < g.bands.length ∨ 4 < g.depths.length then 3 else if ckOk g = true then 0 else 1
/-- a glass in memory: bands at Ab, depths at Ad. -/
structure GlIn (w : World) (B : Nat) (g : Gl) (Ab Ad : Option Addr) : Prop where
  b : SlAt w B 3 Ab g.bands.length (fB g.bands)
  d : SlAt w B 2 Ad g.depths.length (fD g.depths)
theorem GlIn.keep {w w' : World} {B B' : Nat} {g : Gl} {Ab Ad : Option Addr} (h : GlIn w B g Ab Ad) (hB : B ≤ B') (hk : ∀ p : Addr, p.block < B → w'.cell? p = w.cell? p) : GlIn w' B' g Ab Ad := ⟨h.b.keep hB hk, h.d.keep hB hk⟩
theorem GlIn.below {w w' : World} {B : Nat} {g : Gl} {Ab Ad : Option Addr} (h : GlIn w B g Ab Ad) (hb : Below B w w') : GlIn w' B g Ab Ad := ⟨h.b.below hb, h.d.below hb⟩
theorem GlIn.up {w : World} {B B' : Nat} {g : Gl} {Ab Ad : Option Addr} (h : GlIn w B g Ab Ad) (hB : B ≤ B') : GlIn w B' g Ab Ad := ⟨h.b.up hB, h.d.up hB⟩
/-- the error of a history; of ices. -/
def heatOk (h : List Rg) (k : Nat) : Bool := toB (gR h k).lo (gR h k).hi 500
def lived (g : Gl) (h : List Rg) : Int := if ckGlass g ≠ 0 then ckGlass g else if 16 < h.length then 3 else if h.length = 0 ∨ allTo (heatOk h) h.length = false then 2 else 0
def iceOk (n : Nat) (l : List Ic) (k : Nat) : Bool := inB (gC l k).day 0 ((n : Int) - 1) && (inB (gC l k).zero (-2000) 2000 && inB (gC l k).err 0 20)
def iced (g : Gl) (h : List Rg) (l : List Ic) : Int := if lived g h ≠ 0 then lived g h else if 8 < l.length then 3 else if allTo (iceOk h.length l) l.length = false then 2 else 0
/-- the first of so many that is told; -1: none. -/
def firstOf (f : Nat → Bool) : Nat → Int
  | 0 => -1
  | k + 1 => if firstOf f k < 0 then (if f k then (k : Int) else -1) else firstOf f k
theorem firstOf_neg {f : Nat → Bool} {n : Nat} (h : ∀ k, k < n → f k = false) : firstOf f n = -1 := by
  induction n with
  | zero => rfl
  | succ n ih => rw [firstOf, ih fun k hk => h k (by omega), if_pos (by omega), h n (by omega)]; simp
theorem firstOf_at {f : Nat → Bool} {n k : Nat} (hk : k < n) (h : ∀ j, j < k → f j = false) (hf : f k = true) : firstOf f n = (k : Int) := by
  induction n with
  | zero => omega
  | succ n ih =>
    rcases Nat.lt_succ_iff_lt_or_eq.1 hk with h' | h'
    · rw [firstOf, ih h', if_neg (by omega)]
    · subst h'
      rw [firstOf, firstOf_neg h, if_pos (by omega), hf]; simp
theorem firstOf_nonneg {f : Nat → Bool} {n : Nat} : decide (0 ≤ firstOf f n) = !(allTo (fun k => !f k) n) := by
  induction n with
  | zero => rfl
  | succ n ih =>
    rw [firstOf, allTo]
    by_cases h : firstOf f n < 0
    · rw [if_pos h]
      have : decide (0 ≤ firstOf f n) = false := decide_eq_false (by omega)
      rw [this] at ih
      have h2 : allTo (fun k => !f k) n = true := by
        cases hh : allTo (fun k => !f k) n
        · rw [hh] at ih; cases ih
        · rfl
      rw [h2]
      cases f n <;> simp <;> omega
    · rw [if_neg h, ih]
      have : decide (0 ≤ firstOf f n) = true := decide_eq_true (by omega)
      rw [this] at ih
      rw [show allTo (fun k => !f k) n = false from by
        cases hh : allTo (fun k => !f k) n
        · rfl
        · rw [hh] at ih; cases ih]
      rfl

/-- the Creep of a day, by the first so many bands. -/
def creepTo (l : List Bd) (day : Int) : Nat → Rg
  | 0 => ⟨0, 0⟩
  | k + 1 => if (gB l k).from_ ≤ day then ⟨(gB l k).lo, (gB l k).hi⟩ else creepTo l day k
/-- what a heat sinks, by the first so many depths. -/
def sinksTo (l : List Dp) (heat : Int) : Nat → Int
  | 0 => 0
  | k + 1 => if (gD l k).from_ ≤ heat then (gD l k).sink else sinksTo l heat k

/-- ices that are left out. -/
def offV (o : Nat → Bool) : Array Value := #[.bool (o 0), .bool (o 1), .bool (o 2), .bool (o 3), .bool (o 4), .bool (o 5), .bool (o 6), .bool (o 7)]
theorem offV_at (o : Nat → Bool) {k : Nat} (hk : k < 8) : (offV o)[k]? = some (.bool (o k)) := by
  match k, hk with
  | 0, _ => rfl
  | 1, _ => rfl
  | 2, _ => rfl
  | 3, _ => rfl
  | 4, _ => rfl
  | 5, _ => rfl
  | 6, _ => rfl
  | 7, _ => rfl
/-- ice k is true of a zero of a day, or left out, or of another day. -/
def fitOk (l : List Ic) (o : Nat → Bool) (day zero : Int) (k : Nat) : Bool := !(((gC l k).day == day) && (!o k && !inB (zero - (gC l k).zero) (-(gC l k).err) (gC l k).err))
def fitsB (l : List Ic) (o : Nat → Bool) (day zero : Int) : Bool := allTo (fitOk l o day zero) l.length
/-- all ices are within bounds. -/
def IcesBd (l : List Ic) : Prop := ∀ k, k < l.length → (-100000 ≤ (gC l k).zero ∧ (gC l k).zero ≤ 100000) ∧ (0 ≤ (gC l k).err ∧ (gC l k).err ≤ 100000)

end Go.Proofs.Ytlgmeofpkfliaaa
end

section
namespace Go.Proofs.Ytlgmeofpkfliaaa
open Go.RowKit

/-- a world that has grown out of w: all that there was is as it was. -/
structure Ex (w : World) where
  W : World
  h : Below w.heap.size w W

theorem ex_alloc {w w1 : World} (h : Below w.heap.size w w1) (o : Obj) : Below w.heap.size w (w1.alloc o) := h.alloc h.size o
theorem ex_set {w w1 : World} (h : Below w.heap.size w w1) {p : Addr} (hp : w.heap.size ≤ p.block) (u : Value) : Below w.heap.size w (w1.setCell p u) := h.setCell hp u
theorem ex_trans {w w1 w2 : World} (h : Below w.heap.size w w1) (k : Below w1.heap.size w1 w2) : Below w.heap.size w w2 := h.trans (k.mono h.size)
theorem ex_drewN {w w1 : World} (h : Below w.heap.size w w1) (n : Nat) : Below w.heap.size w (w1.drewN n) := ⟨h.os, h.tape, h.output, h.size, h.block⟩

theorem Ex.cell {w : World} (x : Ex w) {b o : Nat} {v : Value} (h : w.cell? ⟨b, o, none⟩ = some v) : x.W.cell? ⟨b, o, none⟩ = some v := by
  have hb : b < w.heap.size := by
    rcases Nat.lt_or_ge b w.heap.size with h' | h'
    · exact h'
    · simp [World.cell?, Array.getElem?_eq_none h'] at h
  exact (x.h.cell (p := ⟨b, o, none⟩) hb).trans h

instance (w : World) : Nonempty (Ex w) := ⟨⟨w, Below.refl _ _⟩⟩
theorem Ex.cell? {w : World} (x : Ex w) (b o : Nat) (hb : b < w.heap.size) : x.W.cell? ⟨b, o, none⟩ = w.cell? ⟨b, o, none⟩ := x.h.cell (p := ⟨b, o, none⟩) hb

/-- a callee that only makes memory is quiet among the grown worlds. -/
theorem Calls.ext_of {P : Program} {f : FuncId} {args : Array Value} {w : World} {x : Ex w} {v : Value}
    (h : Calls P f args x.W fun e w' => e = .returned v ∧ Below x.W.heap.size x.W w') : Calls P f args x.W fun e w'' => e = .returned v ∧ ∃ y : Ex w, w'' = y.W :=
  h.mono fun _ w'' ⟨he, hb⟩ => ⟨he, ⟨w'', ex_trans x.h hb⟩, rfl⟩
theorem Calls.ext_same {P : Program} {f : FuncId} {args : Array Value} {w : World} {x : Ex w} {v : Value}
    (h : Calls P f args x.W fun e w' => e = .returned v ∧ x.W = w') : Calls P f args x.W fun e w'' => e = .returned v ∧ ∃ y : Ex w, w'' = y.W :=
  h.mono fun _ _ ⟨he, hb⟩ => ⟨he, x, hb.symm⟩

theorem wp_region_ext {P : Program} {id : Nat} {Q : Exit → Act → World → Prop} {a : Act} {w : World} {l : List Oper} (hm : P.follows .mixedOrders = true) (hB : Region.lexB .any l.toArray = true)
    (h : wpQuiet P l.toArray (fun w' => ∃ x : Ex w, w' = x.W) (fun a' => ∀ w', (∃ x : Ex w, w' = x.W) → Q .normal a' w') l a) : (Code.region id l.toArray true).wp P Q a w :=
  wp_region_quiet (C := fun w' => ∃ x : Ex w, w' = x.W) hm hB ⟨⟨_, (Below.refl w.heap.size w).drew⟩, rfl⟩ (by simpa using h)


theorem within_any (n lo hi : Int) (w : World) :
    Calls Try.prog 69 #[.int .i64 n, .int .i64 lo, .int .i64 hi] w fun e w' => e = .returned (.bool (inB n lo hi)) ∧ w = w' := by
  by_cases h1 : lo ≤ n
  · by_cases h2 : n ≤ hi
    · go_enter Try.func69, Try.ntmps69
      go_wp2
      go_ret
      simp [inB, h1, h2]
    · have h2' : decide (n ≤ hi) = false := by simpa using h2
      go_enter Try.func69, Try.ntmps69
      go_wp2
      go_ret
      simp [inB, h1, h2]
  · have h1' : decide (lo ≤ n) = false := by simpa using h1
    go_enter Try.func69, Try.ntmps69
    go_wp2
    go_ret
    exact ⟨by rw [inB, h1']; rfl, rfl⟩

theorem to_any (lo hi high : Int) (w : World) :
    Calls Try.prog 70 #[.agg #[.int .i64 lo, .int .i64 hi], .int .i64 high] w fun e w' => e = .returned (.bool (toB lo hi high)) ∧ Below w.heap.size w w' := by
  by_cases h1 : 0 ≤ lo
  · by_cases h2 : lo ≤ hi
    · by_cases h3 : hi ≤ high
      · rw [show toB lo hi high = true by simp [toB, h1, h2, h3]]
        go_enter Try.func70, Try.ntmps70
        go_wp2
        go_ret
        exact ⟨rfl, ex_alloc (Below.refl _ _) _⟩
      · rw [show toB lo hi high = false by simp [toB, h1, h2, h3]]
        have h3' : decide (hi ≤ high) = false := by simpa using h3
        go_enter Try.func70, Try.ntmps70
        go_wp2
        go_ret
        exact ⟨rfl, ex_alloc (Below.refl _ _) _⟩
    · rw [show toB lo hi high = false by simp [toB, h1, h2]]
      have h2' : decide (lo ≤ hi) = false := by simpa using h2
      go_enter Try.func70, Try.ntmps70
      go_wp2
      go_ret
      exact ⟨rfl, ex_alloc (Below.refl _ _) _⟩
  · rw [show toB lo hi high = false by simp [toB, h1]]
    have h1' : decide (0 ≤ lo) = false := by simpa using h1
    go_enter Try.func70, Try.ntmps70
    go_wp2
    go_ret
    exact ⟨rfl, ex_alloc (Below.refl _ _) _⟩

theorem has_any (lo hi n : Int) (w : World) :
    Calls Try.prog 91 #[.agg #[.int .i64 lo, .int .i64 hi], .int .i64 n] w fun e w' => e = .returned (.bool (inB n lo hi)) ∧ Below w.heap.size w w' := by
  go_enter Try.func91, Try.ntmps91
  go_wp2_with (go_at_call 69; refine (within_any _ _ _ _).mono ?_; rintro e w' ⟨rfl, rfl⟩)
  go_ret
  exact ⟨rfl, ex_alloc (Below.refl _ _) _⟩

theorem zero_any (base a b rise sink : Int) (v1 v2 : Value) (w : World) (h0 : -100000 ≤ base ∧ base ≤ 100000)  (h1 : 0 ≤ rise ∧ rise ≤ 100000) (h2 : 0 ≤ sink ∧ sink ≤ 100000):
    Calls Try.prog 83 #[.agg #[.int .i64 base, v1, v2, .int .i64 a, .int .i64 b], .agg #[.int .i64 rise, .int .i64 sink]] w fun e w' => e = .returned (.int .i64 (base + rise - sink)) ∧ Below w.heap.size w w' := by
  obtain ⟨h01, h02⟩ := h0
  obtain ⟨h11, h12⟩ := h1
  obtain ⟨h21, h22⟩ := h2
  go_enter Try.func83, Try.ntmps83
  go_wp2
  go_ret
  exact ⟨rfl, ex_alloc (ex_alloc (Below.refl _ _) _) _⟩

theorem agrees_any (day zero err z : Int) (w : World) (h0 : -100000 ≤ zero ∧ zero ≤ 100000) (h1 : -1000000 ≤ z ∧ z ≤ 1000000) (h2 : 0 ≤ err ∧ err ≤ 100000) :
    Calls Try.prog 95 #[.agg #[.int .i64 day, .int .i64 zero, .int .i64 err], .int .i64 z] w fun e w' => e = .returned (.bool (inB (z - zero) (-err) err)) ∧ Below w.heap.size w w' := by
  obtain ⟨h01, h02⟩ := h0
  obtain ⟨h11, h12⟩ := h1
  obtain ⟨h21, h22⟩ := h2
  go_enter Try.func95, Try.ntmps95
  go_wp2_with (go_at_call 69; refine (within_any _ _ _ _).mono ?_; rintro e w' ⟨rfl, rfl⟩)
  go_ret
  exact ⟨rfl, ex_alloc (Below.refl _ _) _⟩

theorem low_any (lo hi n : Int) (w : World) :
    Calls Try.prog 98 #[.agg #[.int .i64 lo, .int .i64 hi], .int .i64 n] w fun e w' => e = .returned (.int .i64 (min lo n)) ∧ Below w.heap.size w w' := by
  go_enter Try.func98, Try.ntmps98
  go_wp2
  all_goals (go_ret; refine ⟨ret_int ?_, ex_alloc (Below.refl _ _) _⟩; (first | omega | (symm; apply Int.min_eq_left; omega) | (symm; apply Int.min_eq_right; omega) | (symm; apply Int.max_eq_left; omega) | (symm; apply Int.max_eq_right; omega)))
theorem high_any (lo hi n : Int) (w : World) :
    Calls Try.prog 99 #[.agg #[.int .i64 lo, .int .i64 hi], .int .i64 n] w fun e w' => e = .returned (.int .i64 (max hi n)) ∧ Below w.heap.size w w' := by
  go_enter Try.func99, Try.ntmps99
  go_wp2
  all_goals (go_ret; refine ⟨ret_int ?_, ex_alloc (Below.refl _ _) _⟩; (first | omega | (symm; apply Int.min_eq_left; omega) | (symm; apply Int.min_eq_right; omega) | (symm; apply Int.max_eq_left; omega) | (symm; apply Int.max_eq_right; omega)))

end Go.Proofs.Ytlgmeofpkfliaaa
end

section
namespace Go.Proofs.Ytlgmeofpkfliaaa
open Go.RowKit

set_option maxHeartbeats 400000 in
theorem max_any (A : Option Addr) (c B n : Nat) (xs : List Int) (w : World) (h1 : 1 ≤ n) (hl : n ≤ 1000000) (hA : SlAt w B 1 A n (fI xs)) :
    Calls Try.prog 108 #[.slice A n c] w fun e w' => e = .returned (.int .i64 (mxTo xs n)) ∧ w = w' := by
  obtain ⟨b, off, rfl, hb, hc⟩ := hA (by omega)
  have hc0 : w.cell? ⟨b, off, none⟩ = some (.int .i64 (gI xs 0)) := by simpa [fI] using hc 0 0 (by omega) (by omega)
  have hc : ∀ k, k < n → w.cell? ⟨b, off + k, none⟩ = some (.int .i64 (gI xs k)) := fun k hk => by simpa [fI] using hc k 0 hk (by omega)
  go_enter Try.func108, Try.ntmps108
  go_wp2
  go_loop [3, 4] (fun m i => ∃ k : Nat, 1 ≤ k ∧ k ≤ n ∧ i = .int .i64 k ∧ m = .int .i64 (mxTo xs k)) (fun _ i => n - (intOf i).toNat)
  case atStart => exact ⟨1, by omega, by omega, rfl, by simp [mxTo]⟩
  case round =>
    obtain ⟨k, hk1, hk, rfl, rfl⟩ := hrel
    by_cases hlt : k < n
    · have hcell := hc k hlt
      go_wp2
      go_round
      case rel => exact ⟨k + 1, by omega, by omega, by go_num, by simp only [mxTo]; congr 1; split <;> omega⟩
      case measure => simp [intOf]; omega
    · have : k = n := by omega
      subst this
      go_wp2
      go_ret
      exact ⟨rfl, rfl⟩

set_option maxHeartbeats 400000 in
theorem creep_any (base blo bhi day : Int) (Ab : Option Addr) (cb B n : Nat) (vd : Value) (l : List Bd) (w : World) (hB : B ≤ w.heap.size) (hl : n ≤ 1000000) (hA : SlAt w B 3 Ab n (fB l)) :
    Calls Try.prog 92 #[.agg #[.int .i64 base, .slice Ab n cb, vd, .int .i64 blo, .int .i64 bhi], .int .i64 day] w fun e w' =>
      e = .returned (.agg #[.int .i64 (creepTo l day n).lo, .int .i64 (creepTo l day n).hi]) ∧ Below w.heap.size w w' := by
  go_enter Try.func92, Try.ntmps92
  go_wp2
  go_loopw [10] (fun i wr => ∃ k : Nat, k ≤ n ∧ i = .int .i64 k ∧ Below w.heap.size w wr ∧ Blk wr (w.heap.size + 1) 37 #[.int .i64 (creepTo l day k).lo, .int .i64 (creepTo l day k).hi])
    (fun i _ => n - (intOf i).toNat)
  case atStart => exact ⟨0, by omega, rfl, ((Below.refl _ _).alloc (Nat.le_refl _) _).alloc (by simp) _, Blk.new' _ _ _ (by simp)⟩
  case round =>
    obtain ⟨k, hk, rfl, hbl, hblk⟩ := hrel
    have hc0 := hblk.cell 0
    have hc1 := hblk.cell 1
    have hf0 := hblk.frozen 0
    have hf1 := hblk.frozen 1
    have hlt0 := hblk.lt
    simp at hc0 hc1
    by_cases hlt : k < n
    · obtain ⟨b, off, rfl, hbB, h0, h1, h2⟩ := IsBds.at_ (hA.below (hbl.mono hB)) hlt
      by_cases hd : (gB l k).from_ ≤ day
      · go_wp2
        go_roundw
        case rel => exact ⟨k + 1, by omega, by go_num, ex_alloc (ex_set (ex_set hbl (by simp) _) (by simp) _) _, by rw [creepTo, if_pos hd]; exact ((hblk.set_ 0 _).set_ 1 _).alloc _⟩
        case measure => simp [intOf]; omega
      · go_wp2
        go_roundw
        case rel => exact ⟨k + 1, by omega, by go_num, ex_alloc hbl _, by rw [creepTo, if_neg hd]; exact hblk.alloc _⟩
        case measure => simp [intOf]; omega
    · obtain rfl : k = n := by omega
      go_wp2
      exact bodyPost_ret (v := .agg #[.int .i64 (creepTo l day k).lo, .int .i64 (creepTo l day k).hi]) (by simp [results, Try.results92, go_sem, hc0, hc1]) rfl ⟨rfl, ex_set (ex_set hbl (by simp) _) (by simp) _⟩

set_option maxHeartbeats 400000 in
theorem sinks_any (base blo bhi heat : Int) (A : Option Addr) (c B n : Nat) (vb : Value) (l : List Dp) (w : World) (hB : B ≤ w.heap.size) (hl : n ≤ 1000000) (hA : SlAt w B 2 A n (fD l)) :
    Calls Try.prog 94 #[.agg #[.int .i64 base, vb, .slice A n c, .int .i64 blo, .int .i64 bhi], .int .i64 heat] w fun e w' =>
      e = .returned (.int .i64 (sinksTo l heat n)) ∧ Below w.heap.size w w' := by
  go_enter Try.func94, Try.ntmps94
  go_wp2
  go_loopw [4, 10] (fun s i wr => ∃ k : Nat, k ≤ n ∧ i = .int .i64 k ∧ s = .int .i64 (sinksTo l heat k) ∧ Below w.heap.size w wr)
    (fun _ i _ => n - (intOf i).toNat)
  case atStart => exact ⟨0, by omega, rfl, rfl, ex_alloc (Below.refl _ _) _⟩
  case round =>
    obtain ⟨k, hk, rfl, rfl, hbl⟩ := hrel
    by_cases hlt : k < n
    · obtain ⟨b, off, rfl, hbB, h0, h1⟩ := IsDps.at_ (hA.below (hbl.mono hB)) hlt
      by_cases hd : (gD l k).from_ ≤ heat
      · go_wp2
        go_roundw
        case rel => exact ⟨k + 1, by omega, by go_num, by rw [sinksTo, if_pos hd], ex_alloc hbl _⟩
        case measure => simp [intOf]; omega
      · go_wp2
        go_roundw
        case rel => exact ⟨k + 1, by omega, by go_num, by rw [sinksTo, if_neg hd], ex_alloc hbl _⟩
        case measure => simp [intOf]; omega
    · obtain rfl : k = n := by omega
      go_wp2
      go_ret
      exact ⟨rfl, hbl⟩

theorem greatest_any (A : Option Addr) (c B n : Nat) (xs : List Int) (w : World) (h1 : 1 ≤ n) (hl : n ≤ 1000000) (hA : SlAt w B 1 A n (fI xs)) :
    Calls Try.prog 104 #[.slice A n c] w fun e w' => e = .returned (.int .i64 (mxTo xs n)) ∧ w = w' := by
  go_enter Try.func104, Try.ntmps104
  go_wp2_with (go_at_call 108; refine (max_any _ _ _ _ _ _ h1 hl hA).mono ?_; rintro e w' ⟨rfl, rfl⟩)
  go_ret
  exact ⟨rfl, rfl⟩

theorem greatest3 (b c : Nat) (x y z : Int) (w : World) (h0 : w.cell? ⟨b, 0, none⟩ = some (.int .i64 x)) (h1 : w.cell? ⟨b, 1, none⟩ = some (.int .i64 y)) (h2 : w.cell? ⟨b, 2, none⟩ = some (.int .i64 z)) :
    Calls Try.prog 104 #[.slice (some ⟨b, 0, none⟩) 3 c] w fun e w' => e = .returned (.int .i64 (mx3 x y z)) ∧ w = w' := by
  refine (greatest_any _ c (b + 1) 3 [x, y, z] w (by omega) (by omega) (fun _ => ⟨b, 0, rfl, by omega, fun k j hk hj => ?_⟩)).mono ?_
  · obtain rfl : j = 0 := by omega
    match k, hk with
    | 0, _ => simpa [fI, gI] using h0
    | 1, _ => simpa [fI, gI] using h1
    | 2, _ => simpa [fI, gI] using h2
  · rintro e w' ⟨rfl, rfl⟩
    exact ⟨ret_int (by simp [mxTo, gI, mx3]), rfl⟩

set_option maxHeartbeats 800000 in
theorem after_any (rise sink creep back sinks : Int) (w : World) (h1 : 0 ≤ rise ∧ rise ≤ 100000) (h2 : 0 ≤ sink ∧ sink ≤ 100000) (h3 : 0 ≤ creep ∧ creep ≤ 100000) (h4 : 0 ≤ back ∧ back ≤ 100000) :
    Calls Try.prog 93 #[.agg #[.int .i64 rise, .int .i64 sink], .int .i64 creep, .int .i64 back, .int .i64 sinks] w fun e w' =>
      e = .returned (.agg #[.int .i64 (rise + creep), .int .i64 (mx3 (sink - back) 0 sinks)]) ∧ Below w.heap.size w w' := by
  obtain ⟨h11, h12⟩ := h1
  obtain ⟨h21, h22⟩ := h2
  obtain ⟨h31, h32⟩ := h3
  obtain ⟨h41, h42⟩ := h4
  have hs1 : IntKind.i64.wrap (sink - back) = sink - back := IntWalk.i64_in _ (by omega)
  have hs2 : IntKind.i64.wrap (rise + creep) = rise + creep := IntWalk.i64_in _ (by omega)
  go_enter Try.func93, Try.ntmps93
  go_wp2
  go_region_held3 (fun w' => w'.cell? ⟨w.heap.size, 0, none⟩ = some (.int .i64 rise) ∧ w'.cell? ⟨w.heap.size, 1, none⟩ = some (.int .i64 sink)) (go_keep)
    ((go_at_call 104; refine (greatest3 _ _ (sink - back) 0 sinks _ ?_ ?_ ?_).mono ?_; (simp [go_sem]); (simp [go_sem]); (simp [go_sem]); rintro e w' ⟨rfl, rfl⟩))
  go_wp2
  exact bodyPost_ret (v := .agg #[.int .i64 (rise + creep), .int .i64 (mx3 (sink - back) 0 sinks)]) (by simp [results, Try.results93, go_sem]) rfl ⟨rfl, (ex_alloc (ex_alloc (ex_alloc (Below.refl _ _) _) _) _).drew⟩

end Go.Proofs.Ytlgmeofpkfliaaa
end

section
namespace Go.Proofs.Ytlgmeofpkfliaaa
open Go.RowKit
attribute [local go_sem] Ex.cell?

set_option maxHeartbeats 400000 in
theorem banded_any (base blo bhi : Int) (A : Option Addr) (c B n : Nat) (vd : Value) (l : List Bd) (w : World) (hB : B ≤ w.heap.size) (hl : n ≤ 1000000) (hA : SlAt w B 3 A n (fB l)) :
    Calls Try.prog 71 #[.agg #[.int .i64 base, .slice A n c, vd, .int .i64 blo, .int .i64 bhi]] w fun e w' =>
      e = .returned (.bool (bandsB l n)) ∧ Below w.heap.size w w' := by
  go_enter Try.func71, Try.ntmps71
  go_wp2
  go_loopw [8] (fun i wr => ∃ k : Nat, k ≤ n ∧ i = .int .i64 k ∧ (∀ j, j < k → bandOk l j = true) ∧ Below w.heap.size w wr ∧ Blk wr w.heap.size 39 #[.int .i64 base, .slice A n c, vd, .int .i64 blo, .int .i64 bhi])
    (fun i _ => n - (intOf i).toNat)
  case atStart => exact ⟨0, by omega, rfl, fun j hj => by omega, ex_alloc (Below.refl _ _) _, Blk.new _ _ _⟩
  case round =>
    obtain ⟨k, hk, rfl, hok, hbl, hblk⟩ := hrel
    have hc1 := hblk.cell 1
    have hlt0 := hblk.lt
    simp at hc1
    by_cases hlt : k < n
    · obtain ⟨b, off, rfl, hbB, h0, h1, h2⟩ := IsBds.at_ (hA.below (hbl.mono hB)) hlt
      have hbw : b < wr.heap.size := by have := hbl.size; omega
      have HF : bandOk l k = false → Hid (bandsB l n = false) := fun h => by unfold bandsB; rw [allTo_false hlt h]; exact Lib.hid rfl
      cases hi : inB (gB l k).from_ 0 16
      · replace HF := HF (by unfold bandOk; rw [hi]; rfl)
        go_wp2
        refine wp_region_ext (by kernel_rfl) (by kernel_rfl) ?_
        repeat (any_goals (first | go_big_quiet_step ((first | (go_at_call 69; exact Calls.ext_same (within_any _ _ _ _)) | (go_at_call 70; exact Calls.ext_of (to_any _ _ _ _))))))
        refine wpQuiet_nil ?_; intro _ hw'; obtain ⟨x, rfl⟩ := hw'; have hx := ex_trans (ex_alloc hbl _) x.h
        go_wp2
        go_ret
        exact ⟨ret_bool HF.out.symm, hx⟩
      cases ht : toB (gB l k).lo (gB l k).hi 3
      · replace HF := HF (by unfold bandOk; rw [ht]; simp)
        go_wp2
        refine wp_region_ext (by kernel_rfl) (by kernel_rfl) ?_
        repeat (any_goals (first | go_big_quiet_step ((first | (go_at_call 69; exact Calls.ext_same (within_any _ _ _ _)) | (go_at_call 70; exact Calls.ext_of (to_any _ _ _ _))))))
        refine wpQuiet_nil ?_; intro _ hw'; obtain ⟨x, rfl⟩ := hw'; have hx := ex_trans (ex_alloc hbl _) x.h
        go_wp2
        go_ret
        exact ⟨ret_bool HF.out.symm, hx⟩
      rcases Nat.eq_zero_or_pos k with h00 | h00
      · have g0 : decide (0 < k) = false := by simp [h00]
        clear h00
        have hOK : Hid (bandOk l k = true) := by unfold bandOk; rw [hi, ht, g0]; exact Lib.hid rfl
        go_wp2
        refine wp_region_ext (by kernel_rfl) (by kernel_rfl) ?_
        repeat (any_goals (first | go_big_quiet_step ((first | (go_at_call 69; exact Calls.ext_same (within_any _ _ _ _)) | (go_at_call 70; exact Calls.ext_of (to_any _ _ _ _))))))
        refine wpQuiet_nil ?_; intro _ hw'; obtain ⟨x, rfl⟩ := hw'; have hx := ex_trans (ex_alloc hbl _) x.h
        go_wp2
        go_roundw
        case rel => exact ⟨k + 1, by omega, by go_num, fun j hj => by rcases Nat.lt_succ_iff_lt_or_eq.1 hj with h | h; exact hok j h; exact h ▸ hOK.out, hx, (hblk.alloc _).below x.h (by simp; omega)⟩
        case measure => simp [intOf]; omega
      have g0 : decide (0 < k) = true := by simp [h00]
      obtain ⟨b', off', e', hbB', h3, _, _⟩ := IsBds.at_ (hA.below (hbl.mono hB)) (show k - 1 < n by omega)
      injection e' with e'
      injection e' with e1 e2
      subst e1 e2
      have h3' : wr.cell? ⟨b, off + (k - 1) * 3, none⟩ = some (.int .i64 (gB l (k - 1)).from_) := h3
      by_cases hp : (gB l k).from_ ≤ (gB l (k - 1)).from_
      · replace HF := HF (by unfold bandOk; rw [hi, ht, g0, decide_eq_true hp]; rfl)
        go_wp2
        refine wp_region_ext (by kernel_rfl) (by kernel_rfl) ?_
        repeat (any_goals (first | go_big_quiet_step ((first | (go_at_call 69; exact Calls.ext_same (within_any _ _ _ _)) | (go_at_call 70; exact Calls.ext_of (to_any _ _ _ _))))))
        refine wpQuiet_nil ?_; intro _ hw'; obtain ⟨x, rfl⟩ := hw'; have hx := ex_trans (ex_alloc hbl _) x.h
        go_wp2
        go_ret
        exact ⟨ret_bool HF.out.symm, hx⟩
      · have hp' : decide ((gB l k).from_ ≤ (gB l (k - 1)).from_) = false := decide_eq_false hp
        have hOK : Hid (bandOk l k = true) := by unfold bandOk; rw [hi, ht, g0, hp']; exact Lib.hid rfl
        go_wp2
        refine wp_region_ext (by kernel_rfl) (by kernel_rfl) ?_
        repeat (any_goals (first | go_big_quiet_step ((first | (go_at_call 69; exact Calls.ext_same (within_any _ _ _ _)) | (go_at_call 70; exact Calls.ext_of (to_any _ _ _ _))))))
        refine wpQuiet_nil ?_; intro _ hw'; obtain ⟨x, rfl⟩ := hw'; have hx := ex_trans (ex_alloc hbl _) x.h
        go_wp2
        go_roundw
        case rel => exact ⟨k + 1, by omega, by go_num, fun j hj => by rcases Nat.lt_succ_iff_lt_or_eq.1 hj with h | h; exact hok j h; exact h ▸ hOK.out, hx, (hblk.alloc _).below x.h (by simp; omega)⟩
        case measure => simp [intOf]; omega
    · obtain rfl : k = n := by omega
      have HA : Hid (allTo (bandOk l) k = true) := Lib.hid (allTo_iff.2 hok)
      rcases Nat.eq_zero_or_pos k with h00 | h00
      · have g0 : decide (0 < k) = false := by simp [h00]
        clear h00
        have HF : Hid (bandsB l k = false) := by unfold bandsB; rw [g0]; exact Lib.hid (by simp)
        go_wp2
        go_ret
        exact ⟨ret_bool HF.out.symm, hbl⟩
      have g0 : decide (0 < k) = true := by simp [h00]
      obtain ⟨b, off, rfl, hbB, h0, _, _⟩ := IsBds.at_ (hA.below (hbl.mono hB)) h00
      have h0' : wr.cell? ⟨b, off, none⟩ = some (.int .i64 (gB l 0).from_) := by simpa using h0
      clear h0
      cases hz : ((gB l 0).from_ == 0)
      · have HF : Hid (bandsB l k = false) := by unfold bandsB; rw [show decide ((gB l 0).from_ = 0) = false from by simpa using hz]; exact Lib.hid (by simp)
        go_wp2
        go_ret
        exact ⟨ret_bool HF.out.symm, hbl⟩
      · have HF : Hid (bandsB l k = true) := by unfold bandsB; rw [show decide ((gB l 0).from_ = 0) = true from by simpa using hz, HA.out, g0]; exact Lib.hid rfl
        go_wp2
        go_ret
        exact ⟨ret_bool HF.out.symm, hbl⟩

set_option maxHeartbeats 400000 in
theorem deep_any (base blo bhi : Int) (A : Option Addr) (c B n : Nat) (vb : Value) (l : List Dp) (w : World) (hB : B ≤ w.heap.size) (hl : n ≤ 1000000) (hA : SlAt w B 2 A n (fD l)) :
    Calls Try.prog 72 #[.agg #[.int .i64 base, vb, .slice A n c, .int .i64 blo, .int .i64 bhi]] w fun e w' =>
      e = .returned (.bool (deepsB l n)) ∧ Below w.heap.size w w' := by
  go_enter Try.func72, Try.ntmps72
  go_wp2
  go_loopw [8] (fun i wr => ∃ k : Nat, k ≤ n ∧ i = .int .i64 k ∧ (∀ j, j < k → deepOk l j = true) ∧ Below w.heap.size w wr ∧ Blk wr w.heap.size 39 #[.int .i64 base, vb, .slice A n c, .int .i64 blo, .int .i64 bhi])
    (fun i _ => n - (intOf i).toNat)
  case atStart => exact ⟨0, by omega, rfl, fun j hj => by omega, ex_alloc (Below.refl _ _) _, Blk.new _ _ _⟩
  case round =>
    obtain ⟨k, hk, rfl, hok, hbl, hblk⟩ := hrel
    have hc2 := hblk.cell 2
    have hlt0 := hblk.lt
    simp at hc2
    by_cases hlt : k < n
    · obtain ⟨b, off, rfl, hbB, h0, h1⟩ := IsDps.at_ (hA.below (hbl.mono hB)) hlt
      have hbw : b < wr.heap.size := by have := hbl.size; omega
      have HF : deepOk l k = false → Hid (deepsB l n = false) := fun h => by unfold deepsB; rw [allTo_false hlt h]; exact Lib.hid rfl
      cases hi : inB (gD l k).from_ 0 500
      · replace HF := HF (by unfold deepOk; rw [hi]; rfl)
        go_wp2_with (go_at_call 69; refine (within_any _ _ _ _).mono ?_; rintro e w' ⟨rfl, rfl⟩)
        go_ret
        exact ⟨ret_bool HF.out.symm, ex_alloc hbl _⟩
      cases ht : inB (gD l k).sink 0 30
      · replace HF := HF (by unfold deepOk; rw [ht]; simp)
        go_wp2_with (go_at_call 69; refine (within_any _ _ _ _).mono ?_; rintro e w' ⟨rfl, rfl⟩)
        go_ret
        exact ⟨ret_bool HF.out.symm, ex_alloc hbl _⟩
      rcases Nat.eq_zero_or_pos k with h00 | h00
      · have g0 : decide (0 < k) = false := by simp [h00]
        clear h00
        have hOK : Hid (deepOk l k = true) := by unfold deepOk; rw [hi, ht, g0]; exact Lib.hid rfl
        go_wp2_with (go_at_call 69; refine (within_any _ _ _ _).mono ?_; rintro e w' ⟨rfl, rfl⟩)
        refine wp_region_ext (by kernel_rfl) (by kernel_rfl) ?_
        repeat (any_goals (first | go_big_quiet_step (fail)))
        refine wpQuiet_nil ?_; intro _ hw'; obtain ⟨x, rfl⟩ := hw'; have hx := ex_trans (ex_alloc hbl _) x.h
        go_wp2
        go_roundw
        case rel => exact ⟨k + 1, by omega, by go_num, fun j hj => by rcases Nat.lt_succ_iff_lt_or_eq.1 hj with h | h; exact hok j h; exact h ▸ hOK.out, hx, (hblk.alloc _).below x.h (by simp; omega)⟩
        case measure => simp [intOf]; omega
      have g0 : decide (0 < k) = true := by simp [h00]
      obtain ⟨b', off', e', hbB', h3, h4⟩ := IsDps.at_ (hA.below (hbl.mono hB)) (show k - 1 < n by omega)
      injection e' with e'
      injection e' with e1 e2
      subst e1 e2
      by_cases hp : (gD l k).from_ ≤ (gD l (k - 1)).from_
      · replace HF := HF (by unfold deepOk; rw [hi, ht, g0, decide_eq_true hp]; rfl)
        go_wp2_with (go_at_call 69; refine (within_any _ _ _ _).mono ?_; rintro e w' ⟨rfl, rfl⟩)
        refine wp_region_ext (by kernel_rfl) (by kernel_rfl) ?_
        repeat (any_goals (first | go_big_quiet_step (fail)))
        refine wpQuiet_nil ?_; intro _ hw'; obtain ⟨x, rfl⟩ := hw'; have hx := ex_trans (ex_alloc hbl _) x.h
        go_wp2
        go_ret
        exact ⟨ret_bool HF.out.symm, hx⟩
      have hp' : decide ((gD l k).from_ ≤ (gD l (k - 1)).from_) = false := decide_eq_false hp
      by_cases hq : (gD l k).sink < (gD l (k - 1)).sink
      · replace HF := HF (by unfold deepOk; rw [hi, ht, g0, hp', decide_eq_true hq]; rfl)
        go_wp2_with (go_at_call 69; refine (within_any _ _ _ _).mono ?_; rintro e w' ⟨rfl, rfl⟩)
        refine wp_region_ext (by kernel_rfl) (by kernel_rfl) ?_
        repeat (any_goals (first | go_big_quiet_step (fail)))
        refine wpQuiet_nil ?_; intro _ hw'; obtain ⟨x, rfl⟩ := hw'; have hx := ex_trans (ex_alloc hbl _) x.h
        go_wp2
        go_ret
        exact ⟨ret_bool HF.out.symm, hx⟩
      · have hq' : decide ((gD l k).sink < (gD l (k - 1)).sink) = false := decide_eq_false hq
        have hOK : Hid (deepOk l k = true) := by unfold deepOk; rw [hi, ht, g0, hp', hq']; exact Lib.hid rfl
        go_wp2_with (go_at_call 69; refine (within_any _ _ _ _).mono ?_; rintro e w' ⟨rfl, rfl⟩)
        refine wp_region_ext (by kernel_rfl) (by kernel_rfl) ?_
        repeat (any_goals (first | go_big_quiet_step (fail)))
        refine wpQuiet_nil ?_; intro _ hw'; obtain ⟨x, rfl⟩ := hw'; have hx := ex_trans (ex_alloc hbl _) x.h
        go_wp2
        go_roundw
        case rel => exact ⟨k + 1, by omega, by go_num, fun j hj => by rcases Nat.lt_succ_iff_lt_or_eq.1 hj with h | h; exact hok j h; exact h ▸ hOK.out, hx, (hblk.alloc _).below x.h (by simp; omega)⟩
        case measure => simp [intOf]; omega
    · obtain rfl : k = n := by omega
      have HA : Hid (allTo (deepOk l) k = true) := Lib.hid (allTo_iff.2 hok)
      rcases Nat.eq_zero_or_pos k with h00 | h00
      · have g0 : decide (0 < k) = false := by simp [h00]
        clear h00
        have HF : Hid (deepsB l k = false) := by unfold deepsB; rw [g0]; exact Lib.hid (by simp)
        go_wp2
        go_ret
        exact ⟨ret_bool HF.out.symm, hbl⟩
      · have g0 : decide (0 < k) = true := by simp [h00]
        have HF : Hid (deepsB l k = true) := by unfold deepsB; rw [HA.out, g0]; exact Lib.hid rfl
        go_wp2
        go_ret
        exact ⟨ret_bool HF.out.symm, hbl⟩

end Go.Proofs.Ytlgmeofpkfliaaa
end

section
namespace Go.Proofs.Ytlgmeofpkfliaaa
open Go.RowKit

set_option maxHeartbeats 400000 in
theorem check_any (g : Gl) (Ab Ad : Option Addr) (cb cd : Nat) (w : World) (hg : GlIn w w.heap.size g Ab Ad) :
    Calls Try.prog 40 #[.agg #[.int .i64 g.base, .slice Ab g.bands.length cb, .slice Ad g.depths.length cd, .int .i64 g.blo, .int .i64 g.bhi]] w fun e w' =>
      e = .returned (.int .i64 (ckGlass g)) ∧ Below w.heap.size w w' := by
  obtain ⟨hb, hd⟩ := hg
  have hb1 := ex_alloc (Below.refl w.heap.size w) (.cells #[.int .i64 g.base, .slice Ab g.bands.length cb, .slice Ad g.depths.length cd, .int .i64 g.blo, .int .i64 g.bhi] 39)
  by_cases h1 : 3 < g.bands.length
  · have h1' : decide (3 < g.bands.length) = true := decide_eq_true h1
    have HR : Hid (ckGlass g = 3) := by unfold ckGlass; rw [if_pos (.inl h1)]; exact Lib.hid rfl
    go_enter Try.func40, Try.ntmps40
    go_wp2
    go_ret
    exact ⟨ret_int HR.out.symm, hb1⟩
  have h1' : decide (3 < g.bands.length) = false := decide_eq_false h1
  by_cases h2 : 4 < g.depths.length
  · have h2' : decide (4 < g.depths.length) = true := decide_eq_true h2
    have HR : Hid (ckGlass g = 3) := by unfold ckGlass; rw [if_pos (.inr h2)]; exact Lib.hid rfl
    go_enter Try.func40, Try.ntmps40
    go_wp2
    go_ret
    exact ⟨ret_int HR.out.symm, hb1⟩
  have h2' : decide (4 < g.depths.length) = false := decide_eq_false h2
  have HR : Hid (ckGlass g = if ckOk g = true then 0 else 1) := by unfold ckGlass; rw [if_neg (by omega)]; exact Lib.hid rfl
  cases ha : inB g.base (-1000) 1000
  · replace HR : Hid (ckGlass g = 1) := by rw [HR.out]; unfold ckOk; rw [ha]; exact Lib.hid rfl
    go_enter Try.func40, Try.ntmps40
    go_wp2_with (go_at_call 69; refine (within_any _ _ _ _).mono ?_; rintro e w' ⟨rfl, rfl⟩)
    go_ret
    exact ⟨ret_int HR.out.symm, hb1⟩
  cases ht : toB g.blo g.bhi 5
  · replace HR : Hid (ckGlass g = 1) := by rw [HR.out]; unfold ckOk; rw [ha, ht]; exact Lib.hid rfl
    go_enter Try.func40, Try.ntmps40
    go_wp2_with (first
      | (go_at_call 69; refine (within_any _ _ _ _).mono ?_; rintro e w' ⟨rfl, rfl⟩)
      | (go_at_call 70; refine (to_any _ _ _ _).mono ?_; rintro e w2 ⟨rfl, hb2⟩))
    go_ret
    exact ⟨ret_int HR.out.symm, ex_trans hb1 hb2⟩
  cases hbb : bandsB g.bands g.bands.length
  · replace HR : Hid (ckGlass g = 1) := by rw [HR.out]; unfold ckOk; rw [ha, ht, hbb]; exact Lib.hid rfl
    go_enter Try.func40, Try.ntmps40
    go_wp2_with (first
      | (go_at_call 69; refine (within_any _ _ _ _).mono ?_; rintro e w' ⟨rfl, rfl⟩)
      | (go_at_call 70; refine (to_any _ _ _ _).mono ?_; rintro e w2 ⟨rfl, hb2⟩; obtain ⟨hcc, _⟩ := bcell hb2; have hsz : w.heap.size < w2.heap.size := (by have := hb2.size; simp at this; omega))
      | (go_at_call 71; refine (banded_any _ _ _ _ _ _ _ _ g.bands _ (ex_trans hb1 hb2).size (by omega) (hb.below (ex_trans hb1 hb2))).mono ?_; rintro e w3 ⟨rfl, hb3⟩))
    go_ret
    exact ⟨ret_int HR.out.symm, ex_trans (ex_trans hb1 hb2) hb3⟩
  cases hdd : deepsB g.depths g.depths.length
  all_goals
    first
      | (have HR2 : Hid (ckGlass g = 1) := by rw [HR.out]; unfold ckOk; rw [ha, ht, hbb, hdd]; exact Lib.hid rfl)
      | (have HR2 : Hid (ckGlass g = 0) := by rw [HR.out]; unfold ckOk; rw [ha, ht, hbb, hdd]; exact Lib.hid rfl)
    go_enter Try.func40, Try.ntmps40
    go_wp2_with (first
      | (go_at_call 69; refine (within_any _ _ _ _).mono ?_; rintro e w' ⟨rfl, rfl⟩)
      | (go_at_call 70; refine (to_any _ _ _ _).mono ?_; rintro e w2 ⟨rfl, hb2⟩; obtain ⟨hcc, _⟩ := bcell hb2; have hsz : w.heap.size < w2.heap.size := (by have := hb2.size; simp at this; omega))
      | (go_at_call 71; refine (banded_any _ _ _ _ _ _ _ _ g.bands _ (ex_trans hb1 hb2).size (by omega) (hb.below (ex_trans hb1 hb2))).mono ?_; rintro e w3 ⟨rfl, hb3⟩; obtain ⟨hcc3, _⟩ := bcell hb3; have hsz3 : w.heap.size < w3.heap.size := (by have := hb3.size; omega))
      | (go_at_call 72; refine (deep_any _ _ _ _ _ _ _ _ g.depths _ (ex_trans (ex_trans hb1 hb2) hb3).size (by omega) (hd.below (ex_trans (ex_trans hb1 hb2) hb3))).mono ?_; rintro e w4 ⟨rfl, hb4⟩))
    go_ret
    exact ⟨ret_int HR2.out.symm, ex_trans (ex_trans (ex_trans hb1 hb2) hb3) hb4⟩

theorem check_is (g : Gl) (Ab Ad : Option Addr) (cb cd : Nat) (w : World) (r : Int) (hg : GlIn w w.heap.size g Ab Ad) (hr : Hid (ckGlass g = r)) :
    Calls Try.prog 40 #[.agg #[.int .i64 g.base, .slice Ab g.bands.length cb, .slice Ad g.depths.length cd, .int .i64 g.blo, .int .i64 g.bhi]] w fun e w' =>
      e = .returned (.int .i64 r) ∧ Below w.heap.size w w' := by
  have h := check_any g Ab Ad cb cd w hg
  rwa [hr.out] at h

end Go.Proofs.Ytlgmeofpkfliaaa
end

section
namespace Go.Proofs.Ytlgmeofpkfliaaa
open Go.RowKit
attribute [local go_sem] Ex.cell?

theorem lived1_any (lo hi : Int) (w : World) :
    Calls Try.prog 89 #[.agg #[.int .i64 lo, .int .i64 hi]] w fun e w' => e = .returned (.bool (toB lo hi 500)) ∧ Below w.heap.size w w' := by
  go_enter Try.func89, Try.ntmps89
  go_wp2_with (go_at_call 70; refine (to_any _ _ _ _).mono ?_; rintro e w2 ⟨rfl, hb2⟩)
  go_ret
  exact ⟨rfl, ex_trans (ex_alloc (Below.refl _ _) _) hb2⟩

theorem allR1_any (lo hi : Int) (pb : Nat) (w : World) (hp : pb < w.heap.size) (hc : w.cell? ⟨pb, 0, none⟩ = some (.func (.func 89) #[] #[])) :
    Calls Try.prog 103 #[.agg #[.int .i64 lo, .int .i64 hi], .pointer (some ⟨pb, 0, none⟩)] w fun e w' => e = .returned (.bool (!toB lo hi 500)) ∧ Below w.heap.size w w' := by
  go_enter Try.func103, Try.ntmps103
  go_wp2_with (go_at_call 89; refine (lived1_any _ _ _).mono ?_; rintro e w2 ⟨rfl, hb2⟩)
  go_ret
  exact ⟨rfl, ex_trans (ex_alloc (Below.refl _ _) _) hb2⟩

set_option maxHeartbeats 400000 in
theorem indexR_any (A : Option Addr) (c n pb : Nat) (l : List Rg) (w : World) (hl : n ≤ 1000000) (hA : SlAt w w.heap.size 2 A n (fR l)) (hp : pb < w.heap.size) (hc : w.cell? ⟨pb, 0, none⟩ = some (.func (.func 89) #[] #[])) :
    Calls Try.prog 107 #[.slice A n c, .func (.func 103) #[] #[.pointer (some ⟨pb, 0, none⟩)]] w fun e w' =>
      e = .returned (.int .i64 (firstOf (fun k => !heatOk l k) n)) ∧ Below w.heap.size w w' := by
  go_enter Try.func107, Try.ntmps107
  go_wp2
  go_loopw [8] (fun i wr => ∃ k : Nat, k ≤ n ∧ i = .int .i64 k ∧ (∀ j, j < k → heatOk l j = true) ∧ Below w.heap.size w wr)
    (fun i _ => n - (intOf i).toNat)
  case atStart => exact ⟨0, by omega, rfl, fun j hj => by omega, Below.refl _ _⟩
  case round =>
    obtain ⟨k, hk, rfl, hok, hbl⟩ := hrel
    by_cases hlt : k < n
    · obtain ⟨b, off, rfl, hbB, h0, h1⟩ := IsRgs.at_ (hA.below hbl) hlt
      have hcr : wr.cell? ⟨pb, 0, none⟩ = some (.func (.func 89) #[] #[]) := (hbl.cell (p := ⟨pb, 0, none⟩) hp).trans hc
      have hpr : pb < wr.heap.size := by have := hbl.size; omega
      have hOK := Lib.hid (show heatOk l k = toB (gR l k).lo (gR l k).hi 500 from rfl)
      cases ht : toB (gR l k).lo (gR l k).hi 500
      · have HF : Hid (firstOf (fun k => !heatOk l k) n = (k : Int)) := Lib.hid (firstOf_at hlt (fun j hj => by rw [hok j hj]; rfl) (by rw [hOK.out, ht]; rfl))
        go_wp2_with (go_at_call 103; refine (allR1_any _ _ _ _ hpr hcr).mono ?_; rintro e w2 ⟨rfl, hb2⟩)
        go_ret
        exact ⟨ret_int HF.out.symm, ex_trans hbl hb2⟩
      · go_wp2_with (go_at_call 103; refine (allR1_any _ _ _ _ hpr hcr).mono ?_; rintro e w2 ⟨rfl, hb2⟩)
        go_roundw
        case rel => exact ⟨k + 1, by omega, by go_num, fun j hj => by rcases Nat.lt_succ_iff_lt_or_eq.1 hj with h | h; exact hok j h; exact h ▸ hOK.out.trans ht, ex_trans hbl hb2⟩
        case measure => simp [intOf]; omega
    · obtain rfl : k = n := by omega
      have HF : Hid (firstOf (fun k => !heatOk l k) k = -1) := Lib.hid (firstOf_neg fun j hj => by rw [hok j hj]; rfl)
      go_wp2
      go_ret
      exact ⟨ret_int HF.out.symm, hbl⟩

theorem containsR_any (A : Option Addr) (c n pb : Nat) (l : List Rg) (w : World) (hl : n ≤ 1000000) (hA : SlAt w w.heap.size 2 A n (fR l)) (hp : pb < w.heap.size) (hc : w.cell? ⟨pb, 0, none⟩ = some (.func (.func 89) #[] #[])) :
    Calls Try.prog 102 #[.slice A n c, .func (.func 103) #[] #[.pointer (some ⟨pb, 0, none⟩)]] w fun e w' =>
      e = .returned (.bool (!allTo (heatOk l) n)) ∧ Below w.heap.size w w' := by
  have HF : Hid (decide (0 ≤ firstOf (fun k => !heatOk l k) n) = !allTo (heatOk l) n) := Lib.hid (by rw [firstOf_nonneg]; simp)
  go_enter Try.func102, Try.ntmps102
  go_wp2_with (go_at_call 107; refine (indexR_any _ _ _ _ l _ hl hA hp hc).mono ?_; rintro e w2 ⟨rfl, hb2⟩)
  go_ret
  exact ⟨ret_bool HF.out, hb2⟩

theorem allR_any (A : Option Addr) (c n : Nat) (l : List Rg) (w : World) (hl : n ≤ 1000000) (hA : SlAt w w.heap.size 2 A n (fR l)) :
    Calls Try.prog 90 #[.slice A n c, .func (.func 89) #[] #[]] w fun e w' =>
      e = .returned (.bool (allTo (heatOk l) n)) ∧ Below w.heap.size w w' := by
  have hb1 := ex_alloc (Below.refl w.heap.size w) (.cells #[.func (.func 89) #[] #[]] 154)
  have hA1 := (hA.below hb1).up hb1.size
  go_enter Try.func90, Try.ntmps90
  go_wp2_with (go_at_call 102; refine (containsR_any _ _ _ _ l _ hl hA1 (by simp) (by simp [go_sem])).mono ?_; rintro e w2 ⟨rfl, hb2⟩)
  go_ret
  exact ⟨by simp, ex_trans hb1 hb2⟩

end Go.Proofs.Ytlgmeofpkfliaaa
end

section
namespace Go.Proofs.Ytlgmeofpkfliaaa
open Go.RowKit

theorem allR_is (A : Option Addr) (c n : Nat) (l : List Rg) (w : World) (r : Bool) (hl : n ≤ 1000000) (hA : SlAt w w.heap.size 2 A n (fR l)) (hr : Hid (allTo (heatOk l) n = r)) :
    Calls Try.prog 90 #[.slice A n c, .func (.func 89) #[] #[]] w fun e w' =>
      e = .returned (.bool r) ∧ Below w.heap.size w w' := by
  have h := allR_any A c n l w hl hA
  rwa [hr.out] at h

set_option maxHeartbeats 800000 in
theorem lived_no (g : Gl) (Ab Ad Ah : Option Addr) (cb cd ch : Nat) (h : List Rg) (w : World) (hg : GlIn w w.heap.size g Ab Ad) (hh : SlAt w w.heap.size 2 Ah h.length (fR h)) (hne : lived g h ≠ 0) :
    Calls Try.prog 73 #[.agg #[.int .i64 g.base, .slice Ab g.bands.length cb, .slice Ad g.depths.length cd, .int .i64 g.blo, .int .i64 g.bhi], .slice Ah h.length ch] w fun e w' =>
      e = .returned (.tuple #[.agg #[.int .i64 0, .slice none 0 0, .slice none 0 0, .int .i64 0, .int .i64 0, .slice none 0 0], .int .i64 (lived g h)]) ∧ Below w.heap.size w w' := by
  have hb1 := ex_alloc (ex_alloc (Below.refl w.heap.size w) (.cells #[.int .i64 g.base, .slice Ab g.bands.length cb, .slice Ad g.depths.length cd, .int .i64 g.blo, .int .i64 g.bhi] 39)) (.cells #[.int .i64 0, .slice none 0 0, .slice none 0 0, .int .i64 0, .int .i64 0, .slice none 0 0] 101)
  have hg1 := (hg.below hb1).up hb1.size
  have hh1 := (hh.below hb1).up hb1.size
  have HNE := Lib.hid hne
  clear hne
  by_cases hc : ckGlass g = 0
  · have HC := Lib.hid hc
    clear hc
    by_cases hl : 16 < h.length
    · have HR : Hid (lived g h = 3) := by unfold lived; rw [if_neg (by simp [HC.out]), if_pos hl]; exact Lib.hid rfl
      have hlb : decide (16 < h.length) = true := decide_eq_true hl
      go_enter Try.func73, Try.ntmps73
      go_wp2_with (go_at_call 40; refine (check_is g _ _ _ _ _ _ hg1 HC).mono ?_; rintro e w2 ⟨rfl, hb2⟩; obtain ⟨hcc, hff⟩ := bcell hb2; have hsz : w.heap.size + 1 < w2.heap.size := (by have := hb2.size; simp at this; omega); have hsy : w.heap.size < w2.heap.size := (by omega))
      exact bodyPost_ret (v := .tuple #[.agg #[.int .i64 0, .slice none 0 0, .slice none 0 0, .int .i64 0, .int .i64 0, .slice none 0 0], .int .i64 3]) (by simp [results, Try.results73, go_sem, hcc, hsz]) rfl ⟨by rw [HR.out], (by have HB := ex_trans hb1 hb2; repeat (first | with_reducible exact HB | with_reducible refine ex_set ?_ ?_ _ | simp))⟩
    have hlb : decide (16 < h.length) = false := decide_eq_false hl
    by_cases hz : h.length = 0
    · have HR : Hid (lived g h = 2) := by unfold lived; rw [if_neg (by simp [HC.out]), if_neg hl, if_pos (.inl hz)]; exact Lib.hid rfl
      have hzb : (h.length == 0) = true := by simp [hz]
      have hzi : ((h.length : Int) == 0) = true := by simp [hz]
      have HZ := Lib.hid hz
      clear hz
      go_enter Try.func73, Try.ntmps73
      go_wp2_with (go_at_call 40; refine (check_is g _ _ _ _ _ _ hg1 HC).mono ?_; rintro e w2 ⟨rfl, hb2⟩; obtain ⟨hcc, hff⟩ := bcell hb2; have hsz : w.heap.size + 1 < w2.heap.size := (by have := hb2.size; simp at this; omega); have hsy : w.heap.size < w2.heap.size := (by omega))
      exact bodyPost_ret (v := .tuple #[.agg #[.int .i64 0, .slice none 0 0, .slice none 0 0, .int .i64 0, .int .i64 0, .slice none 0 0], .int .i64 2]) (by simp [results, Try.results73, go_sem, hcc, hsz]) rfl ⟨by rw [HR.out], (by have HB := ex_trans hb1 hb2; repeat (first | with_reducible exact HB | with_reducible refine ex_set ?_ ?_ _ | simp))⟩
    have hzb : (h.length == 0) = false := by simpa using hz
    have hzi : ((h.length : Int) == 0) = false := by simpa using hz
    cases ha : allTo (heatOk h) h.length
    · have HA := Lib.hid ha
      have HR : Hid (lived g h = 2) := by unfold lived; rw [if_neg (by simp [HC.out]), if_neg hl, if_pos (.inr ha)]; exact Lib.hid rfl
      clear ha
      go_enter Try.func73, Try.ntmps73
      go_wp2_with (first | (go_at_call 40; refine (check_is g _ _ _ _ _ _ hg1 HC).mono ?_; rintro e w2 ⟨rfl, hb2⟩; obtain ⟨hcc, hff⟩ := bcell hb2; have hsz : w.heap.size + 1 < w2.heap.size := (by have := hb2.size; simp at this; omega); have hsy : w.heap.size < w2.heap.size := (by omega)) | (go_at_call 90; refine (allR_is _ _ _ h _ _ (by omega) ((hh1.below hb2).up hb2.size) HA).mono ?_; rintro e w3 ⟨rfl, hb3⟩; obtain ⟨hcc3, hff3⟩ := bcell hb3; have hsz3 : w.heap.size + 1 < w3.heap.size := (by have := hb3.size; omega); have hsy3 : w.heap.size < w3.heap.size := (by omega)))
      exact bodyPost_ret (v := .tuple #[.agg #[.int .i64 0, .slice none 0 0, .slice none 0 0, .int .i64 0, .int .i64 0, .slice none 0 0], .int .i64 2]) (by simp [results, Try.results73, go_sem, hcc, hsz, hcc3, hsz3]) rfl ⟨by rw [HR.out], (by have HB := ex_trans (ex_trans hb1 hb2) hb3; repeat (first | with_reducible exact HB | with_reducible refine ex_set ?_ ?_ _ | simp))⟩
    · exact absurd (by unfold lived; rw [if_neg (by simp [HC.out]), if_neg hl, if_neg (by simp [hz, ha])]) HNE.out
  · have HC := Lib.hid (show ckGlass g = ckGlass g from rfl)
    have HR : Hid (lived g h = ckGlass g) := by unfold lived; rw [if_pos hc]; exact Lib.hid rfl
    have hcb : (ckGlass g == 0) = false := by simpa using hc
    have hcb' : (ckGlass g != 0) = true := by simpa using hc
    clear hc
    go_enter Try.func73, Try.ntmps73
    go_wp2_with (go_at_call 40; refine (check_is g _ _ _ _ _ _ hg1 HC).mono ?_; rintro e w2 ⟨rfl, hb2⟩; obtain ⟨hcc, hff⟩ := bcell hb2; have hsz : w.heap.size + 1 < w2.heap.size := (by have := hb2.size; simp at this; omega); have hsy : w.heap.size < w2.heap.size := (by omega))
    exact bodyPost_ret (v := .tuple #[.agg #[.int .i64 0, .slice none 0 0, .slice none 0 0, .int .i64 0, .int .i64 0, .slice none 0 0], .int .i64 (ckGlass g)]) (by simp [results, Try.results73, go_sem, hcc, hsz]) rfl ⟨by rw [HR.out], (by have HB := ex_trans hb1 hb2; repeat (first | with_reducible exact HB | with_reducible refine ex_set ?_ ?_ _ | simp))⟩

set_option maxHeartbeats 800000 in
theorem lived_ok (g : Gl) (Ab Ad Ah : Option Addr) (cb cd ch : Nat) (h : List Rg) (w : World) (hg : GlIn w w.heap.size g Ab Ad) (hh : SlAt w w.heap.size 2 Ah h.length (fR h)) (heq : lived g h = 0) :
    Calls Try.prog 73 #[.agg #[.int .i64 g.base, .slice Ab g.bands.length cb, .slice Ad g.depths.length cd, .int .i64 g.blo, .int .i64 g.bhi], .slice Ah h.length ch] w fun e w' =>
      e = .returned (.tuple #[.agg #[.int .i64 g.base, .slice Ab g.bands.length cb, .slice Ad g.depths.length cd, .int .i64 g.blo, .int .i64 g.bhi, .slice Ah h.length ch], .int .i64 0]) ∧ Below w.heap.size w w' := by
  have hb1 := ex_alloc (ex_alloc (Below.refl w.heap.size w) (.cells #[.int .i64 g.base, .slice Ab g.bands.length cb, .slice Ad g.depths.length cd, .int .i64 g.blo, .int .i64 g.bhi] 39)) (.cells #[.int .i64 0, .slice none 0 0, .slice none 0 0, .int .i64 0, .int .i64 0, .slice none 0 0] 101)
  have hg1 := (hg.below hb1).up hb1.size
  have hh1 := (hh.below hb1).up hb1.size
  have HC : Hid (ckGlass g = 0) := by
    by_cases hc : ckGlass g = 0
    · exact Lib.hid hc
    · unfold lived at heq; rw [if_pos hc] at heq; exact absurd heq hc
  have hl : ¬ 16 < h.length := fun hl => by unfold lived at heq; rw [if_neg (by simp [HC.out]), if_pos hl] at heq; cases heq
  have hlb : decide (16 < h.length) = false := decide_eq_false hl
  have hza : ¬ (h.length = 0 ∨ allTo (heatOk h) h.length = false) := fun hz => by unfold lived at heq; rw [if_neg (by simp [HC.out]), if_neg hl, if_pos hz] at heq; cases heq
  have hz : ¬ h.length = 0 := fun e => hza (.inl e)
  have HA : Hid (allTo (heatOk h) h.length = true) := by
    cases ha : allTo (heatOk h) h.length
    · exact absurd (.inr ha) hza
    · exact Lib.hid rfl
  have hzb : (h.length == 0) = false := by simpa using hz
  have hzi : ((h.length : Int) == 0) = false := by simpa using hz
  clear hza heq
  go_enter Try.func73, Try.ntmps73
  go_wp2_with (first | (go_at_call 40; refine (check_is g _ _ _ _ _ _ hg1 HC).mono ?_; rintro e w2 ⟨rfl, hb2⟩; obtain ⟨hcc, hff⟩ := bcell hb2; have hsz : w.heap.size + 1 < w2.heap.size := (by have := hb2.size; simp at this; omega); have hsy : w.heap.size < w2.heap.size := (by omega)) | (go_at_call 90; refine (allR_is _ _ _ h _ _ (by omega) ((hh1.below hb2).up hb2.size) HA).mono ?_; rintro e w3 ⟨rfl, hb3⟩; obtain ⟨hcc3, hff3⟩ := bcell hb3; have hsz3 : w.heap.size + 1 < w3.heap.size := (by have := hb3.size; omega); have hsy3 : w.heap.size < w3.heap.size := (by omega)))
  exact bodyPost_ret (v := .tuple #[.agg #[.int .i64 g.base, .slice Ab g.bands.length cb, .slice Ad g.depths.length cd, .int .i64 g.blo, .int .i64 g.bhi, .slice Ah h.length ch], .int .i64 0]) (by simp [results, Try.results73, go_sem, hcc, hsz, hcc3, hsz3]) rfl ⟨rfl, (by have HB := ex_trans (ex_trans hb1 hb2) hb3; repeat (first | with_reducible exact HB | with_reducible refine ex_set ?_ ?_ _ | simp))⟩

end Go.Proofs.Ytlgmeofpkfliaaa
end

section
namespace Go.Proofs.Ytlgmeofpkfliaaa
open Go.RowKit

def iceB (nh : Nat) (day zero err : Int) : Bool := inB day 0 ((nh : Int) - 1) && (inB zero (-2000) 2000 && inB err 0 20)

set_option maxHeartbeats 400000 in
theorem iced1_any (day zero err : Int) (nh ph ch : Nat) (Ah : Option Addr) (w : World) (hnh : nh ≤ 1000000) (hph : ph < w.heap.size) (hhc : w.cell? ⟨ph, 0, none⟩ = some (.slice Ah nh ch)) :
    Calls Try.prog 80 #[.agg #[.int .i64 day, .int .i64 zero, .int .i64 err], .pointer (some ⟨ph, 0, none⟩)] w fun e w' => e = .returned (.bool (iceB nh day zero err)) ∧ Below w.heap.size w w' := by
  have hb1 := ex_alloc (Below.refl w.heap.size w) (.cells #[.int .i64 day, .int .i64 zero, .int .i64 err] 95)
  cases h1 : inB day 0 ((nh : Int) - 1)
  · have HR : Hid (iceB nh day zero err = false) := by unfold iceB; rw [h1]; exact Lib.hid rfl
    go_enter Try.func80, Try.ntmps80
    go_wp2_with (go_at_call 69; refine (within_any _ _ _ _).mono ?_; rintro e w' ⟨rfl, rfl⟩)
    go_ret
    exact ⟨ret_bool HR.out.symm, hb1⟩
  cases h2 : inB zero (-2000) 2000
  · have HR : Hid (iceB nh day zero err = false) := by unfold iceB; rw [h1, h2]; exact Lib.hid rfl
    go_enter Try.func80, Try.ntmps80
    go_wp2_with (go_at_call 69; refine (within_any _ _ _ _).mono ?_; rintro e w' ⟨rfl, rfl⟩)
    go_ret
    exact ⟨ret_bool HR.out.symm, hb1⟩
  · have HR : Hid (iceB nh day zero err = inB err 0 20) := by unfold iceB; rw [h1, h2]; exact Lib.hid rfl
    go_enter Try.func80, Try.ntmps80
    go_wp2_with (go_at_call 69; refine (within_any _ _ _ _).mono ?_; rintro e w' ⟨rfl, rfl⟩)
    go_ret
    exact ⟨ret_bool HR.out.symm, hb1⟩

theorem allC1_any (day zero err : Int) (nh ph ch : Nat) (Ah : Option Addr) (pb : Nat) (w : World) (hnh : nh ≤ 1000000) (hph : ph < w.heap.size) (hhc : w.cell? ⟨ph, 0, none⟩ = some (.slice Ah nh ch)) (hp : pb < w.heap.size) (hc : w.cell? ⟨pb, 0, none⟩ = some (.func (.func 80) #[] #[.pointer (some ⟨ph, 0, none⟩)])) :
    Calls Try.prog 97 #[.agg #[.int .i64 day, .int .i64 zero, .int .i64 err], .pointer (some ⟨pb, 0, none⟩)] w fun e w' => e = .returned (.bool (!iceB nh day zero err)) ∧ Below w.heap.size w w' := by
  have hb1 := ex_alloc (Below.refl w.heap.size w) (.cells #[.int .i64 day, .int .i64 zero, .int .i64 err] 95)
  have hph1 := Nat.lt_of_lt_of_le hph hb1.size
  have hhc1 := (hb1.cell (p := ⟨ph, 0, none⟩) hph).trans hhc
  go_enter Try.func97, Try.ntmps97
  go_wp2_with (go_at_call 80; refine (iced1_any _ _ _ nh ph ch Ah _ hnh hph1 hhc1).mono ?_; rintro e w2 ⟨rfl, hb2⟩)
  go_ret
  exact ⟨rfl, ex_trans (ex_alloc (Below.refl _ _) _) hb2⟩

set_option maxHeartbeats 400000 in
theorem indexC_any (Ah A : Option Addr) (ph ch c n pb : Nat) (nh : Nat) (l : List Ic) (w : World) (hnh : nh ≤ 1000000) (hph : ph < w.heap.size) (hhc : w.cell? ⟨ph, 0, none⟩ = some (.slice Ah nh ch)) (hl : n ≤ 1000000) (hA : SlAt w w.heap.size 3 A n (fC l)) (hp : pb < w.heap.size) (hc : w.cell? ⟨pb, 0, none⟩ = some (.func (.func 80) #[] #[.pointer (some ⟨ph, 0, none⟩)])) :
    Calls Try.prog 105 #[.slice A n c, .func (.func 97) #[] #[.pointer (some ⟨pb, 0, none⟩)]] w fun e w' =>
      e = .returned (.int .i64 (firstOf (fun k => !iceOk nh l k) n)) ∧ Below w.heap.size w w' := by
  go_enter Try.func105, Try.ntmps105
  go_wp2
  go_loopw [8] (fun i wr => ∃ k : Nat, k ≤ n ∧ i = .int .i64 k ∧ (∀ j, j < k → iceOk nh l j = true) ∧ Below w.heap.size w wr)
    (fun i _ => n - (intOf i).toNat)
  case atStart => exact ⟨0, by omega, rfl, fun j hj => by omega, Below.refl _ _⟩
  case round =>
    obtain ⟨k, hk, rfl, hok, hbl⟩ := hrel
    by_cases hlt : k < n
    · obtain ⟨b, off, rfl, hbB, h0, h1, h2⟩ := IsIcs.at_ (hA.below hbl) hlt
      have hcr : wr.cell? ⟨pb, 0, none⟩ = some (.func (.func 80) #[] #[.pointer (some ⟨ph, 0, none⟩)]) := (hbl.cell (p := ⟨pb, 0, none⟩) hp).trans hc
      have hhr : wr.cell? ⟨ph, 0, none⟩ = some (.slice Ah nh ch) := (hbl.cell (p := ⟨ph, 0, none⟩) hph).trans hhc
      have hpr' : ph < wr.heap.size := by have := hbl.size; omega
      have hpr : pb < wr.heap.size := by have := hbl.size; omega
      have hOK := Lib.hid (show iceOk nh l k = iceB nh (gC l k).day (gC l k).zero (gC l k).err from rfl)
      cases ht : iceB nh (gC l k).day (gC l k).zero (gC l k).err
      · have HF : Hid (firstOf (fun k => !iceOk nh l k) n = (k : Int)) := Lib.hid (firstOf_at hlt (fun j hj => by rw [hok j hj]; rfl) (by rw [hOK.out, ht]; rfl))
        go_wp2_with (go_at_call 97; refine (allC1_any _ _ _ nh ph ch Ah _ _ hnh hpr' hhr hpr hcr).mono ?_; rintro e w2 ⟨rfl, hb2⟩)
        go_ret
        exact ⟨ret_int HF.out.symm, ex_trans hbl hb2⟩
      · go_wp2_with (go_at_call 97; refine (allC1_any _ _ _ nh ph ch Ah _ _ hnh hpr' hhr hpr hcr).mono ?_; rintro e w2 ⟨rfl, hb2⟩)
        go_roundw
        case rel => exact ⟨k + 1, by omega, by go_num, fun j hj => by rcases Nat.lt_succ_iff_lt_or_eq.1 hj with h | h; exact hok j h; exact h ▸ hOK.out.trans ht, ex_trans hbl hb2⟩
        case measure => simp [intOf]; omega
    · obtain rfl : k = n := by omega
      have HF : Hid (firstOf (fun k => !iceOk nh l k) k = -1) := Lib.hid (firstOf_neg fun j hj => by rw [hok j hj]; rfl)
      go_wp2
      go_ret
      exact ⟨ret_int HF.out.symm, hbl⟩

theorem containsC_any (Ah A : Option Addr) (ph ch c n pb : Nat) (nh : Nat) (l : List Ic) (w : World) (hnh : nh ≤ 1000000) (hph : ph < w.heap.size) (hhc : w.cell? ⟨ph, 0, none⟩ = some (.slice Ah nh ch)) (hl : n ≤ 1000000) (hA : SlAt w w.heap.size 3 A n (fC l)) (hp : pb < w.heap.size) (hc : w.cell? ⟨pb, 0, none⟩ = some (.func (.func 80) #[] #[.pointer (some ⟨ph, 0, none⟩)])) :
    Calls Try.prog 96 #[.slice A n c, .func (.func 97) #[] #[.pointer (some ⟨pb, 0, none⟩)]] w fun e w' =>
      e = .returned (.bool (!allTo (iceOk nh l) n)) ∧ Below w.heap.size w w' := by
  have HF : Hid (decide (0 ≤ firstOf (fun k => !iceOk nh l k) n) = !allTo (iceOk nh l) n) := Lib.hid (by rw [firstOf_nonneg]; simp)
  go_enter Try.func96, Try.ntmps96
  go_wp2_with (go_at_call 105; refine (indexC_any Ah _ ph ch _ _ _ nh l _ hnh hph hhc hl hA hp hc).mono ?_; rintro e w2 ⟨rfl, hb2⟩)
  go_ret
  exact ⟨ret_bool HF.out, hb2⟩

theorem allC_any (Ah A : Option Addr) (ph ch c n : Nat) (nh : Nat) (l : List Ic) (w : World) (hnh : nh ≤ 1000000) (hph : ph < w.heap.size) (hhc : w.cell? ⟨ph, 0, none⟩ = some (.slice Ah nh ch)) (hl : n ≤ 1000000) (hA : SlAt w w.heap.size 3 A n (fC l)) :
    Calls Try.prog 81 #[.slice A n c, .func (.func 80) #[] #[.pointer (some ⟨ph, 0, none⟩)]] w fun e w' =>
      e = .returned (.bool (allTo (iceOk nh l) n)) ∧ Below w.heap.size w w' := by
  have hb1 := ex_alloc (Below.refl w.heap.size w) (.cells #[.func (.func 80) #[] #[.pointer (some ⟨ph, 0, none⟩)]] 139)
  have hA1 := (hA.below hb1).up hb1.size
  have hph1 := Nat.lt_of_lt_of_le hph hb1.size
  have hhc1 := (hb1.cell (p := ⟨ph, 0, none⟩) hph).trans hhc
  go_enter Try.func81, Try.ntmps81
  go_wp2_with (go_at_call 96; refine (containsC_any Ah _ ph ch _ _ _ nh l _ hnh hph1 hhc1 hl hA1 (by simp) (by simp [go_sem])).mono ?_; rintro e w2 ⟨rfl, hb2⟩)
  go_ret
  exact ⟨by simp, ex_trans hb1 hb2⟩


theorem allC_is (Ah A : Option Addr) (ph ch c n : Nat) (nh : Nat) (l : List Ic) (w : World) (r : Bool) (hnh : nh ≤ 1000000) (hph : ph < w.heap.size) (hhc : w.cell? ⟨ph, 0, none⟩ = some (.slice Ah nh ch)) (hl : n ≤ 1000000) (hA : SlAt w w.heap.size 3 A n (fC l)) (hr : Hid (allTo (iceOk nh l) n = r)) :
    Calls Try.prog 81 #[.slice A n c, .func (.func 80) #[] #[.pointer (some ⟨ph, 0, none⟩)]] w fun e w' =>
      e = .returned (.bool r) ∧ Below w.heap.size w w' := by
  have h := allC_any Ah A ph ch c n nh l w hnh hph hhc hl hA
  rwa [hr.out] at h

end Go.Proofs.Ytlgmeofpkfliaaa
end

section
namespace Go.Proofs.Ytlgmeofpkfliaaa
open Go.RowKit

theorem iced_lived_ne {g : Gl} {h : List Rg} {l : List Ic} (hl : lived g h ≠ 0) : iced g h l = lived g h := by unfold iced; rw [if_pos hl]
theorem iced_eq {g : Gl} {h : List Rg} {l : List Ic} (hl : lived g h = 0) : iced g h l = if 8 < l.length then 3 else if allTo (iceOk h.length l) l.length = false then 2 else 0 := by unfold iced; rw [if_neg (by simp [hl])]
theorem lived_len {g : Gl} {h : List Rg} (hl : lived g h = 0) : h.length ≤ 16 := by
  unfold lived at hl
  by_cases hc : ckGlass g ≠ 0
  · rw [if_pos hc] at hl; exact absurd hl hc
  · rw [if_neg hc] at hl
    by_cases h16 : 16 < h.length
    · rw [if_pos h16] at hl; cases hl
    · omega
theorem iced_lived {g : Gl} {h : List Rg} {l : List Ic} (hl : iced g h l = 0) : lived g h = 0 := by
  by_cases hc : lived g h = 0
  · exact hc
  · rw [iced_lived_ne hc] at hl; exact hl
theorem iced_len {g : Gl} {h : List Rg} {l : List Ic} (hl : iced g h l = 0) : l.length ≤ 8 := by
  rw [iced_eq (iced_lived hl)] at hl
  by_cases h8 : 8 < l.length
  · rw [if_pos h8] at hl; cases hl
  · omega
theorem iced_all {g : Gl} {h : List Rg} {l : List Ic} (hl : iced g h l = 0) : allTo (iceOk h.length l) l.length = true := by
  have h8 := iced_len hl
  rw [iced_eq (iced_lived hl), if_neg (by omega)] at hl
  cases ha : allTo (iceOk h.length l) l.length
  · rw [if_pos ha] at hl; cases hl
  · rfl

set_option maxHeartbeats 800000 in
theorem iced_no (g : Gl) (Ab Ad Ah Ai : Option Addr) (cb cd ch ci : Nat) (h : List Rg) (l : List Ic) (w : World) (hg : GlIn w w.heap.size g Ab Ad) (hh : SlAt w w.heap.size 2 Ah h.length (fR h)) (hi : SlAt w w.heap.size 3 Ai l.length (fC l)) (hne : iced g h l ≠ 0) :
    Calls Try.prog 55 #[.agg #[.int .i64 g.base, .slice Ab g.bands.length cb, .slice Ad g.depths.length cd, .int .i64 g.blo, .int .i64 g.bhi], .slice Ah h.length ch, .slice Ai l.length ci] w fun e w' =>
      e = .returned (.tuple #[.agg #[.int .i64 0, .slice none 0 0, .slice none 0 0, .int .i64 0, .int .i64 0, .slice none 0 0, .slice none 0 0], .int .i64 (iced g h l)]) ∧ Below w.heap.size w w' := by
  have hb1 := ex_alloc (ex_alloc (ex_alloc (Below.refl w.heap.size w) (.cells #[.int .i64 g.base, .slice Ab g.bands.length cb, .slice Ad g.depths.length cd, .int .i64 g.blo, .int .i64 g.bhi] 39)) (.cells #[.slice Ah h.length ch] 41)) (.cells #[.int .i64 0, .slice none 0 0, .slice none 0 0, .int .i64 0, .int .i64 0, .slice none 0 0, .slice none 0 0] 103)
  have hg1 := (hg.below hb1).up hb1.size
  have hh1 := (hh.below hb1).up hb1.size
  have HNE := Lib.hid hne
  clear hne
  by_cases hc : lived g h = 0
  · have HL := Lib.hid hc
    have hnh : h.length ≤ 1000000 := by have := lived_len hc; omega
    have HE := Lib.hid (iced_eq (l := l) hc)
    clear hc
    by_cases hl : 8 < l.length
    · have HR : Hid (iced g h l = 3) := by rw [HE.out, if_pos hl]; exact Lib.hid rfl
      have hlb : decide (8 < l.length) = true := decide_eq_true hl
      go_enter Try.func55, Try.ntmps55
      go_wp2_with (go_at_call 73; refine (lived_ok g _ _ _ _ _ _ h _ hg1 hh1 HL.out).mono ?_; rintro e w2 ⟨rfl, hb2⟩; obtain ⟨hcc, hff⟩ := bcell hb2; have hsz : w.heap.size + 2 < w2.heap.size := (by have := hb2.size; simp at this; omega); have hsy : w.heap.size < w2.heap.size := (by omega); have hsx : w.heap.size + 1 < w2.heap.size := (by omega))
      exact bodyPost_ret (v := .tuple #[.agg #[.int .i64 0, .slice none 0 0, .slice none 0 0, .int .i64 0, .int .i64 0, .slice none 0 0, .slice none 0 0], .int .i64 3]) (by simp [results, Try.results55, go_sem, hcc, hsz]) rfl ⟨by rw [HR.out], (by have HB := ex_trans hb1 hb2; repeat (first | with_reducible exact HB | with_reducible refine ex_set ?_ ?_ _ | with_reducible refine ex_alloc ?_ _ | (simp; done) | (simp; omega)))⟩
    have hlb : decide (8 < l.length) = false := decide_eq_false hl
    cases ha : allTo (iceOk h.length l) l.length
    · have HA := Lib.hid ha
      have HR : Hid (iced g h l = 2) := by rw [HE.out, if_neg hl, if_pos ha]; exact Lib.hid rfl
      clear ha
      go_enter Try.func55, Try.ntmps55
      have hl6 : l.length ≤ 1000000 := by omega
      go_wp2_with (first | (go_at_call 73; refine (lived_ok g _ _ _ _ _ _ h _ hg1 hh1 HL.out).mono ?_; rintro e w2 ⟨rfl, hb2⟩; obtain ⟨hcc, hff⟩ := bcell hb2; have hsz : w.heap.size + 2 < w2.heap.size := (by have := hb2.size; simp at this; omega); have hsy : w.heap.size < w2.heap.size := (by omega); have hsx : w.heap.size + 1 < w2.heap.size := (by omega)) | (go_at_call 81; have hb2a := ex_alloc (ex_trans hb1 hb2) (.cells #[.int .i64 g.base, .slice Ab g.bands.length cb, .slice Ad g.depths.length cd, .int .i64 g.blo, .int .i64 g.bhi, .slice Ah h.length ch] 101); have q1 : w.heap.size + 1 < (w2.alloc (.cells #[.int .i64 g.base, .slice Ab g.bands.length cb, .slice Ad g.depths.length cd, .int .i64 g.blo, .int .i64 g.bhi, .slice Ah h.length ch] 101)).heap.size := (by simp; omega); have q2 : (w2.alloc (.cells #[.int .i64 g.base, .slice Ab g.bands.length cb, .slice Ad g.depths.length cd, .int .i64 g.blo, .int .i64 g.bhi, .slice Ah h.length ch] 101)).cell? ⟨w.heap.size + 1, 0, none⟩ = some (.slice Ah h.length ch) := (by simp [go_sem, hcc, hsx]); refine (allC_is Ah Ai (w.heap.size + 1) ch ci _ h.length l _ _ hnh q1 q2 hl6 ((hi.below hb2a).up hb2a.size) HA).mono ?_; clear q1 q2; rintro e w3 ⟨rfl, hb3⟩; obtain ⟨hcc3, hff3⟩ := bcell hb3; have hsz3 : w2.heap.size < w3.heap.size := (by have := hb3.size; simp at this; omega); have hsy3 : w.heap.size + 2 < w3.heap.size := (by omega)))
      exact bodyPost_ret (v := .tuple #[.agg #[.int .i64 0, .slice none 0 0, .slice none 0 0, .int .i64 0, .int .i64 0, .slice none 0 0, .slice none 0 0], .int .i64 2]) (by simp [results, Try.results55, go_sem, hcc, hsz, hcc3, (show w.heap.size + 1 + 1 < w2.heap.size + 1 by omega), (show w.heap.size + 1 + 1 < w2.heap.size by omega)]) rfl ⟨by first | rw [HR.out] | rfl, (by have HB := ex_trans hb2a hb3; repeat (first | with_reducible exact HB | with_reducible refine ex_set ?_ ?_ _ | with_reducible refine ex_alloc ?_ _ | (simp; done) | (simp; omega)))⟩
    · exact absurd (by rw [HE.out, if_neg hl, if_neg (by simp [ha])]) HNE.out
  · have HR := Lib.hid (iced_lived_ne (l := l) hc)
    have HL := Lib.hid hc
    have hcb : (lived g h == 0) = false := by simpa using hc
    have hcb' : (lived g h != 0) = true := by simpa using hc
    clear hc
    go_enter Try.func55, Try.ntmps55
    go_wp2_with (go_at_call 73; refine (lived_no g _ _ _ _ _ _ h _ hg1 hh1 HL.out).mono ?_; rintro e w2 ⟨rfl, hb2⟩; obtain ⟨hcc, hff⟩ := bcell hb2; have hsz : w.heap.size + 2 < w2.heap.size := (by have := hb2.size; simp at this; omega); have hsy : w.heap.size < w2.heap.size := (by omega); have hsx : w.heap.size + 1 < w2.heap.size := (by omega))
    exact bodyPost_ret (v := .tuple #[.agg #[.int .i64 0, .slice none 0 0, .slice none 0 0, .int .i64 0, .int .i64 0, .slice none 0 0, .slice none 0 0], .int .i64 (lived g h)]) (by simp [results, Try.results55, go_sem, hcc, hsz]) rfl ⟨by rw [HR.out], (by have HB := ex_trans hb1 hb2; repeat (first | with_reducible exact HB | with_reducible refine ex_set ?_ ?_ _ | with_reducible refine ex_alloc ?_ _ | (simp; done) | (simp; omega)))⟩

set_option maxHeartbeats 800000 in
theorem iced_ok (g : Gl) (Ab Ad Ah Ai : Option Addr) (cb cd ch ci : Nat) (h : List Rg) (l : List Ic) (w : World) (hg : GlIn w w.heap.size g Ab Ad) (hh : SlAt w w.heap.size 2 Ah h.length (fR h)) (hi : SlAt w w.heap.size 3 Ai l.length (fC l)) (heq : iced g h l = 0) :
    Calls Try.prog 55 #[.agg #[.int .i64 g.base, .slice Ab g.bands.length cb, .slice Ad g.depths.length cd, .int .i64 g.blo, .int .i64 g.bhi], .slice Ah h.length ch, .slice Ai l.length ci] w fun e w' =>
      e = .returned (.tuple #[.agg #[.int .i64 g.base, .slice Ab g.bands.length cb, .slice Ad g.depths.length cd, .int .i64 g.blo, .int .i64 g.bhi, .slice Ah h.length ch, .slice Ai l.length ci], .int .i64 0]) ∧ Below w.heap.size w w' := by
  have hb1 := ex_alloc (ex_alloc (ex_alloc (Below.refl w.heap.size w) (.cells #[.int .i64 g.base, .slice Ab g.bands.length cb, .slice Ad g.depths.length cd, .int .i64 g.blo, .int .i64 g.bhi] 39)) (.cells #[.slice Ah h.length ch] 41)) (.cells #[.int .i64 0, .slice none 0 0, .slice none 0 0, .int .i64 0, .int .i64 0, .slice none 0 0, .slice none 0 0] 103)
  have hg1 := (hg.below hb1).up hb1.size
  have hh1 := (hh.below hb1).up hb1.size
  have HL := Lib.hid (iced_lived heq)
  have hnh : h.length ≤ 1000000 := by have := lived_len (iced_lived heq); omega
  have h8 := iced_len heq
  have hlb : decide (8 < l.length) = false := decide_eq_false (by omega)
  have hl6 : l.length ≤ 1000000 := by omega
  have HA := Lib.hid (iced_all heq)
  clear heq
  go_enter Try.func55, Try.ntmps55
  go_wp2_with (first | (go_at_call 73; refine (lived_ok g _ _ _ _ _ _ h _ hg1 hh1 HL.out).mono ?_; rintro e w2 ⟨rfl, hb2⟩; obtain ⟨hcc, hff⟩ := bcell hb2; have hsz : w.heap.size + 2 < w2.heap.size := (by have := hb2.size; simp at this; omega); have hsy : w.heap.size < w2.heap.size := (by omega); have hsx : w.heap.size + 1 < w2.heap.size := (by omega)) | (go_at_call 81; have hb2a := ex_alloc (ex_trans hb1 hb2) (.cells #[.int .i64 g.base, .slice Ab g.bands.length cb, .slice Ad g.depths.length cd, .int .i64 g.blo, .int .i64 g.bhi, .slice Ah h.length ch] 101); have q1 : w.heap.size + 1 < (w2.alloc (.cells #[.int .i64 g.base, .slice Ab g.bands.length cb, .slice Ad g.depths.length cd, .int .i64 g.blo, .int .i64 g.bhi, .slice Ah h.length ch] 101)).heap.size := (by simp; omega); have q2 : (w2.alloc (.cells #[.int .i64 g.base, .slice Ab g.bands.length cb, .slice Ad g.depths.length cd, .int .i64 g.blo, .int .i64 g.bhi, .slice Ah h.length ch] 101)).cell? ⟨w.heap.size + 1, 0, none⟩ = some (.slice Ah h.length ch) := (by simp [go_sem, hcc, hsx]); refine (allC_is Ah Ai (w.heap.size + 1) ch ci _ h.length l _ _ hnh q1 q2 hl6 ((hi.below hb2a).up hb2a.size) HA).mono ?_; clear q1 q2; rintro e w3 ⟨rfl, hb3⟩; obtain ⟨hcc3, hff3⟩ := bcell hb3; have hsz3 : w2.heap.size < w3.heap.size := (by have := hb3.size; simp at this; omega); have hsy3 : w.heap.size + 2 < w3.heap.size := (by omega)))
  exact bodyPost_ret (v := .tuple #[.agg #[.int .i64 g.base, .slice Ab g.bands.length cb, .slice Ad g.depths.length cd, .int .i64 g.blo, .int .i64 g.bhi, .slice Ah h.length ch, .slice Ai l.length ci], .int .i64 0]) (by simp [results, Try.results55, go_sem, hcc, hsz, hcc3, (show w.heap.size + 1 + 1 < w2.heap.size + 1 by omega), (show w.heap.size + 1 + 1 < w2.heap.size by omega)]) rfl ⟨by first | rw [HR.out] | rfl, (by have HB := ex_trans hb2a hb3; repeat (first | with_reducible exact HB | with_reducible refine ex_set ?_ ?_ _ | with_reducible refine ex_alloc ?_ _ | (simp; done) | (simp; omega)))⟩

end Go.Proofs.Ytlgmeofpkfliaaa
end

section
namespace Go.Proofs.Ytlgmeofpkfliaaa
open Go.RowKit

set_option maxHeartbeats 800000 in
theorem fits_any (base blo bhi day zero : Int) (vb vd vh : Value) (Ai : Option Addr) (ci : Nat) (l : List Ic) (o : Nat → Bool) (w : World) (hi : SlAt w w.heap.size 3 Ai l.length (fC l)) (h8 : l.length ≤ 8) (hbd : IcesBd l)
    (hz : -1000000 ≤ zero ∧ zero ≤ 1000000) :
    Calls Try.prog 78 #[.agg #[.int .i64 base, vb, vd, .int .i64 blo, .int .i64 bhi, vh, .slice Ai l.length ci], .int .i64 day, .int .i64 zero, .agg #[.bool (o 0), .bool (o 1), .bool (o 2), .bool (o 3), .bool (o 4), .bool (o 5), .bool (o 6), .bool (o 7)]] w fun e w' =>
      e = .returned (.bool (fitsB l o day zero)) ∧ Below w.heap.size w w' := by
  go_enter Try.func78, Try.ntmps78
  go_wp2
  go_loopw [15] (fun i wr => ∃ k : Nat, k ≤ l.length ∧ i = .int .i64 k ∧ (∀ j, j < k → fitOk l o day zero j = true) ∧ Below w.heap.size w wr ∧ Blk wr (w.heap.size + 1) 108 (offV o))
    (fun i _ => l.length - (intOf i).toNat)
  case atStart => exact ⟨0, by omega, rfl, fun j hj => by omega, ex_alloc (ex_alloc (Below.refl _ _) _) _, Blk.new' _ _ _ (by simp)⟩
  case round =>
    obtain ⟨k, hk, rfl, hok, hbl, hblk⟩ := hrel
    have hlt0 := hblk.lt
    by_cases hlt : k < l.length
    · obtain ⟨b, off, rfl, hbB, h0, h1, h2⟩ := IsIcs.at_ (hi.below hbl) hlt
      have hk8 : k < 8 := by omega
      have hco := (hblk.cell k).trans (offV_at o hk8)
      have hF := Lib.hid (show fitOk l o day zero k = !(((gC l k).day == day) && (!o k && !inB (zero - (gC l k).zero) (-(gC l k).err) (gC l k).err)) from rfl)
      have hN : fitOk l o day zero k = false → Hid (fitsB l o day zero = false) := fun h => by unfold fitsB; rw [allTo_false hlt h]; exact Lib.hid rfl
      have hbd' := hbd k hlt
      obtain ⟨⟨e1, e2⟩, e3, e4⟩ := hbd'
      cases hd : ((gC l k).day == day)
      · have hOK : Hid (fitOk l o day zero k = true) := by rw [hF.out, hd]; exact Lib.hid rfl
        go_wp2
        go_roundw
        case rel => exact ⟨k + 1, by omega, by go_num, fun j hj => by rcases Nat.lt_succ_iff_lt_or_eq.1 hj with h | h; exact hok j h; exact h ▸ hOK.out, ex_alloc hbl _, hblk.alloc _⟩
        case measure => simp [intOf]; omega
      cases ho : o k
      · cases ha : inB (zero - (gC l k).zero) (-(gC l k).err) (gC l k).err
        · replace hN := hN (by rw [hF.out, hd, ho, ha]; rfl)
          go_wp2_with (go_at_call 95; refine (agrees_any _ _ _ _ _ ⟨e1, e2⟩ hz ⟨e3, e4⟩).mono ?_; rintro e w2 ⟨rfl, hb2⟩)
          go_ret
          exact ⟨ret_bool hN.out.symm, ex_trans (ex_alloc hbl _) hb2⟩
        · have hOK : Hid (fitOk l o day zero k = true) := by rw [hF.out, hd, ho, ha]; exact Lib.hid rfl
          go_wp2_with (go_at_call 95; refine (agrees_any _ _ _ _ _ ⟨e1, e2⟩ hz ⟨e3, e4⟩).mono ?_; rintro e w2 ⟨rfl, hb2⟩)
          go_roundw
          case rel => exact ⟨k + 1, by omega, by go_num, fun j hj => by rcases Nat.lt_succ_iff_lt_or_eq.1 hj with h | h; exact hok j h; exact h ▸ hOK.out, ex_trans (ex_alloc hbl _) hb2, (hblk.alloc _).below hb2 (by simp; omega)⟩
          case measure => simp [intOf]; omega
      · have hOK : Hid (fitOk l o day zero k = true) := by rw [hF.out, hd, ho]; exact Lib.hid rfl
        go_wp2
        go_roundw
        case rel => exact ⟨k + 1, by omega, by go_num, fun j hj => by rcases Nat.lt_succ_iff_lt_or_eq.1 hj with h | h; exact hok j h; exact h ▸ hOK.out, ex_alloc hbl _, hblk.alloc _⟩
        case measure => simp [intOf]; omega
    · have hkn : k = l.length := by omega
      have HF : Hid (fitsB l o day zero = true) := Lib.hid (allTo_iff.2 fun j hj => hok j (by omega))
      clear hkn
      go_wp2
      go_ret
      exact ⟨ret_bool HF.out.symm, hbl⟩

end Go.Proofs.Ytlgmeofpkfliaaa
end

section
namespace Go.Proofs.Ytlgmeofpkfliaaa
open Go.RowKit
attribute [local go_sem] Ex.cell?

theorem SlAt.ext {w : World} {B sz n : Nat} {A : Option Addr} {f : Nat → Nat → Value} (h : SlAt w B sz A n f) (hB : B ≤ w.heap.size) (x : Ex w) : SlAt x.W B sz A n f := h.below (x.h.mono hB)
theorem ExLe {w : World} {B : Nat} (hB : B ≤ w.heap.size) (x : Ex w) : B ≤ x.W.heap.size := Nat.le_trans hB x.h.size

/-- the Creep of a day; what a heat sinks. -/
def creep (g : Gl) (d : Nat) : Rg := creepTo g.bands (d : Int) g.bands.length
def sinks (g : Gl) (heat : Int) : Int := sinksTo g.depths heat g.depths.length
def dayOk (g : Gl) (h : List Rg) (t1 t2 t3 : List Int) (d : Nat) : Bool := inB (gI t1 d) (gR h d).lo (gR h d).hi && (inB (gI t2 d) (creep g d).lo (creep g d).hi && inB (gI t3 d) g.blo g.bhi)
def truthB (g : Gl) (h : List Rg) (t1 t2 t3 : List Int) : Bool := (decide (t1.length = h.length) && (decide (t2.length = h.length) && decide (t3.length = h.length))) && allTo (dayOk g h t1 t2 t3) h.length

set_option maxHeartbeats 1600000 in
theorem truth_any (g : Gl) (Ab Ad Ah A1 A2 A3 : Option Addr) (cb cd ch c1 c2 c3 : Nat) (h : List Rg) (t1 t2 t3 : List Int) (w : World) (hg : GlIn w w.heap.size g Ab Ad) (hh : SlAt w w.heap.size 2 Ah h.length (fR h))
    (k1 : SlAt w w.heap.size 1 A1 t1.length (fI t1)) (k2 : SlAt w w.heap.size 1 A2 t2.length (fI t2)) (k3 : SlAt w w.heap.size 1 A3 t3.length (fI t3)) (hl5 : g.bands.length ≤ 1000000) (hl6 : h.length ≤ 1000000) :
    Calls Try.prog 74 #[.agg #[.int .i64 g.base, .slice Ab g.bands.length cb, .slice Ad g.depths.length cd, .int .i64 g.blo, .int .i64 g.bhi, .slice Ah h.length ch], .agg #[.slice A1 t1.length c1, .slice A2 t2.length c2, .slice A3 t3.length c3]] w fun e w' =>
      e = .returned (.bool (truthB g h t1 t2 t3)) ∧ Below w.heap.size w w' := by
  have hb1 := ex_alloc (ex_alloc (Below.refl w.heap.size w) (.cells #[.int .i64 g.base, .slice Ab g.bands.length cb, .slice Ad g.depths.length cd, .int .i64 g.blo, .int .i64 g.bhi, .slice Ah h.length ch] 101)) (.cells #[.slice A1 t1.length c1, .slice A2 t2.length c2, .slice A3 t3.length c3] 79)
  have HT : ∀ b1 b2 b3 b4, decide (t1.length = h.length) = b1 → decide (t2.length = h.length) = b2 → decide (t3.length = h.length) = b3 → allTo (dayOk g h t1 t2 t3) h.length = b4 → truthB g h t1 t2 t3 = ((b1 && (b2 && b3)) && b4) := by
    rintro _ _ _ _ rfl rfl rfl rfl; rfl
  have HT := Lib.hid HT
  by_cases e1 : t1.length = h.length
  case neg =>
    have HR : Hid (truthB g h t1 t2 t3 = false) := by rw [HT.out false _ _ _ (by simpa using e1) rfl rfl rfl]; exact Lib.hid rfl
    have q : ((t1.length : Int) != (h.length : Int)) = true := by rw [bne_iff_ne]; omega
    clear HT
    go_enter Try.func74, Try.ntmps74
    go_wp2
    go_ret
    exact ⟨ret_bool HR.out.symm, hb1⟩
  have q1 : ((t1.length : Int) != (h.length : Int)) = false := by simp [e1]
  have E1 := Lib.hid e1
  clear e1
  by_cases e2 : t2.length = h.length
  case neg =>
    have HR : Hid (truthB g h t1 t2 t3 = false) := by rw [HT.out true false _ _ (by simp [E1.out]) (by simpa using e2) rfl rfl]; exact Lib.hid rfl
    have q : ((t2.length : Int) != (h.length : Int)) = true := by rw [bne_iff_ne]; omega
    clear HT
    go_enter Try.func74, Try.ntmps74
    go_wp2
    go_ret
    exact ⟨ret_bool HR.out.symm, hb1⟩
  have q2 : ((t2.length : Int) != (h.length : Int)) = false := by simp [e2]
  have E2 := Lib.hid e2
  clear e2
  by_cases e3 : t3.length = h.length
  case neg =>
    have HR : Hid (truthB g h t1 t2 t3 = false) := by rw [HT.out true true false _ (by simp [E1.out]) (by simp [E2.out]) (by simpa using e3) rfl]; exact Lib.hid rfl
    have q : ((t3.length : Int) != (h.length : Int)) = true := by rw [bne_iff_ne]; omega
    clear HT
    go_enter Try.func74, Try.ntmps74
    go_wp2
    go_ret
    exact ⟨ret_bool HR.out.symm, hb1⟩
  have q3 : ((t3.length : Int) != (h.length : Int)) = false := by simp [e3]
  have E3 := Lib.hid e3
  clear e3
  replace HT : Hid (∀ b, allTo (dayOk g h t1 t2 t3) h.length = b → truthB g h t1 t2 t3 = b) := Lib.hid fun b hb => by rw [HT.out true true true b (by simp [E1.out]) (by simp [E2.out]) (by simp [E3.out]) hb]; rfl
  go_enter Try.func74, Try.ntmps74
  go_wp2
  go_loopw [30] (fun i wr => ∃ k : Nat, k ≤ h.length ∧ i = .int .i64 k ∧ (∀ j, j < k → dayOk g h t1 t2 t3 j = true) ∧ Below w.heap.size w wr ∧
      Blk wr w.heap.size 101 #[.int .i64 g.base, .slice Ab g.bands.length cb, .slice Ad g.depths.length cd, .int .i64 g.blo, .int .i64 g.bhi, .slice Ah h.length ch] ∧
      Blk wr (w.heap.size + 1) 79 #[.slice A1 t1.length c1, .slice A2 t2.length c2, .slice A3 t3.length c3])
    (fun i _ => h.length - (intOf i).toNat)
  case atStart => exact ⟨0, by omega, rfl, fun j hj => by omega, hb1, (Blk.new _ _ _).alloc _, Blk.new' _ _ _ (by simp)⟩
  case round =>
    obtain ⟨k, hk, rfl, hok, hbl, hq1, hq2⟩ := hrel
    by_cases hlt : k < h.length
    · have a0 := hq1.cell 0
      have a1 := hq1.cell 1
      have a2 := hq1.cell 2
      have a3 := hq1.cell 3
      have a4 := hq1.cell 4
      have a5 := hq1.cell 5
      have d0 := hq2.cell 0
      have d1 := hq2.cell 1
      have d2 := hq2.cell 2
      have l1 := hq1.lt
      have l2 := hq2.lt
      simp at a0 a1 a2 a3 a4 a5 d0 d1 d2
      obtain ⟨b0, o0, rfl, hb0, p1, p2⟩ := IsRgs.at_ (hh.below hbl) hlt
      have lt1 : k < t1.length := by rw [E1.out]; exact hlt
      have lt2 : k < t2.length := by rw [E2.out]; exact hlt
      have lt3 : k < t3.length := by rw [E3.out]; exact hlt
      obtain ⟨b1, o1, rfl, hbb1, p3⟩ := IsInts.at_ (k1.below hbl) lt1
      obtain ⟨b2, o2, rfl, hbb2, p4⟩ := IsInts.at_ (k2.below hbl) lt2
      obtain ⟨b3, o3, rfl, hbb3, p5⟩ := IsInts.at_ (k3.below hbl) lt3
      have hBr : w.heap.size ≤ wr.heap.size := hbl.size
      have hbr : SlAt wr w.heap.size 3 Ab g.bands.length (fB g.bands) := hg.b.below hbl
      have m0 : b0 < wr.heap.size := by omega
      have m1 : b1 < wr.heap.size := by omega
      have m2 : b2 < wr.heap.size := by omega
      have m3 : b3 < wr.heap.size := by omega
      have hF := Lib.hid (show dayOk g h t1 t2 t3 k = (inB (gI t1 k) (gR h k).lo (gR h k).hi && (inB (gI t2 k) (creepTo g.bands (k : Int) g.bands.length).lo (creepTo g.bands (k : Int) g.bands.length).hi && inB (gI t3 k) g.blo g.bhi)) from rfl)
      have hN : dayOk g h t1 t2 t3 k = false → Hid (truthB g h t1 t2 t3 = false) := fun h => by rw [HT.out false (allTo_false hlt h)]; exact Lib.hid rfl
      cases x1 : inB (gI t1 k) (gR h k).lo (gR h k).hi
      · replace hN := hN (by rw [hF.out, x1]; rfl)
        go_wp2
        refine wp_region_ext (by kernel_rfl) (by kernel_rfl) ?_
        repeat (any_goals (first | go_big_quiet_step ((first | (go_at_call 91; exact Calls.ext_of (has_any _ _ _ _)) | (go_at_call 92; exact Calls.ext_of (creep_any _ _ _ _ _ _ _ _ _ g.bands _ (ExLe hBr _) hl5 (SlAt.ext hbr hBr _)))))))
        refine wpQuiet_nil ?_; intro _ hw'; obtain ⟨x, rfl⟩ := hw'; have hx := ex_trans hbl x.h
        go_wp2
        go_ret
        exact ⟨ret_bool hN.out.symm, hx⟩
      cases x2 : inB (gI t2 k) (creepTo g.bands (k : Int) g.bands.length).lo (creepTo g.bands (k : Int) g.bands.length).hi
      · replace hN := hN (by rw [hF.out, x2]; simp)
        go_wp2
        refine wp_region_ext (by kernel_rfl) (by kernel_rfl) ?_
        repeat (any_goals (first | go_big_quiet_step ((first | (go_at_call 91; exact Calls.ext_of (has_any _ _ _ _)) | (go_at_call 92; exact Calls.ext_of (creep_any _ _ _ _ _ _ _ _ _ g.bands _ (ExLe hBr _) hl5 (SlAt.ext hbr hBr _)))))))
        refine wpQuiet_nil ?_; intro _ hw'; obtain ⟨x, rfl⟩ := hw'; have hx := ex_trans hbl x.h
        go_wp2
        go_ret
        exact ⟨ret_bool hN.out.symm, hx⟩
      cases x3 : inB (gI t3 k) g.blo g.bhi
      · replace hN := hN (by rw [hF.out, x3]; simp)
        go_wp2
        refine wp_region_ext (by kernel_rfl) (by kernel_rfl) ?_
        repeat (any_goals (first | go_big_quiet_step ((first | (go_at_call 91; exact Calls.ext_of (has_any _ _ _ _)) | (go_at_call 92; exact Calls.ext_of (creep_any _ _ _ _ _ _ _ _ _ g.bands _ (ExLe hBr _) hl5 (SlAt.ext hbr hBr _)))))))
        refine wpQuiet_nil ?_; intro _ hw'; obtain ⟨x, rfl⟩ := hw'; have hx := ex_trans hbl x.h
        go_wp2
        go_ret
        exact ⟨ret_bool hN.out.symm, hx⟩
      · have hOK : Hid (dayOk g h t1 t2 t3 k = true) := by rw [hF.out, x1, x2, x3]; exact Lib.hid rfl
        go_wp2
        refine wp_region_ext (by kernel_rfl) (by kernel_rfl) ?_
        repeat (any_goals (first | go_big_quiet_step ((first | (go_at_call 91; exact Calls.ext_of (has_any _ _ _ _)) | (go_at_call 92; exact Calls.ext_of (creep_any _ _ _ _ _ _ _ _ _ g.bands _ (ExLe hBr _) hl5 (SlAt.ext hbr hBr _)))))))
        refine wpQuiet_nil ?_; intro _ hw'; obtain ⟨x, rfl⟩ := hw'; have hx := ex_trans hbl x.h
        go_wp2
        go_roundw
        case rel => exact ⟨k + 1, by omega, by go_num, fun j hj => by rcases Nat.lt_succ_iff_lt_or_eq.1 hj with h | h; exact hok j h; exact h ▸ hOK.out, hx, hq1.below x.h l1, hq2.below x.h l2⟩
        case measure => simp [intOf]; omega
    · have HR : Hid (truthB g h t1 t2 t3 = true) := Lib.hid (HT.out true (allTo_iff.2 fun j hj => hok j (by omega)))
      go_wp2
      go_ret
      exact ⟨ret_bool HR.out.symm, hbl⟩

end Go.Proofs.Ytlgmeofpkfliaaa
end

section
namespace Go.Proofs.Ytlgmeofpkfliaaa
open Go.RowKit

structure Ok (g : Gl) (h : List Rg) : Prop where
  base : -1000 ≤ g.base ∧ g.base ≤ 1000
  back : 0 ≤ g.blo ∧ g.blo ≤ g.bhi ∧ g.bhi ≤ 5
  nb : 0 < g.bands.length ∧ g.bands.length ≤ 3
  nd : 0 < g.depths.length ∧ g.depths.length ≤ 4
  bands : ∀ k, k < g.bands.length → bandOk g.bands k = true
  first : (gB g.bands 0).from_ = 0
  depths : ∀ k, k < g.depths.length → deepOk g.depths k = true
  nh : 0 < h.length ∧ h.length ≤ 16
  heats : ∀ k, k < h.length → 0 ≤ (gR h k).lo ∧ (gR h k).lo ≤ (gR h k).hi ∧ (gR h k).hi ≤ 500

theorem ok_of_lived {g : Gl} {h : List Rg} (hl : lived g h = 0) : Ok g h := by
  have h16 := lived_len hl
  unfold lived at hl
  by_cases hc : ckGlass g ≠ 0
  · rw [if_pos hc] at hl; exact absurd hl hc
  rw [if_neg hc, if_neg (by omega)] at hl
  have hc : ckGlass g = 0 := by simpa using hc
  unfold ckGlass at hc
  by_cases hn : 3 < g.bands.length ∨ 4 < g.depths.length
  · rw [if_pos hn] at hc; cases hc
  rw [if_neg hn] at hc
  have hk : ckOk g = true := by
    cases hh : ckOk g
    · rw [hh] at hc; simp at hc
    · rfl
  unfold ckOk at hk
  simp only [Bool.and_eq_true] at hk
  obtain ⟨k1, k2, k3, k4⟩ := hk
  unfold bandsB at k3
  unfold deepsB at k4
  simp only [Bool.and_eq_true, decide_eq_true_eq] at k3 k4
  have hx : ¬ (h.length = 0 ∨ allTo (heatOk h) h.length = false) := fun hx => by rw [if_pos hx] at hl; cases hl
  have hy : allTo (heatOk h) h.length = true := by
    cases hh : allTo (heatOk h) h.length
    · exact absurd (.inr hh) hx
    · rfl
  refine ⟨inB_iff.1 k1, toB_iff.1 k2, ⟨k3.2.1, by omega⟩, ⟨k4.2, by omega⟩, allTo_iff.1 k3.1, k3.2.2, allTo_iff.1 k4.1, ⟨by omega, h16⟩, fun k hk => ?_⟩
  have := allTo_iff.1 hy k hk
  exact toB_iff.1 this

theorem creepTo_bd {l : List Bd} {day : Int} {n : Nat} (h : ∀ k, k < n → bandOk l k = true) : 0 ≤ (creepTo l day n).lo ∧ (creepTo l day n).lo ≤ (creepTo l day n).hi ∧ (creepTo l day n).hi ≤ 3 := by
  induction n with
  | zero => simp [creepTo]
  | succ n ih =>
    rw [creepTo]
    split
    · have := h n (by omega)
      unfold bandOk at this
      simp only [Bool.and_eq_true] at this
      exact toB_iff.1 this.2.1
    · exact ih fun k hk => h k (by omega)
theorem sinksTo_bd {l : List Dp} {heat : Int} {n : Nat} (h : ∀ k, k < n → deepOk l k = true) : 0 ≤ sinksTo l heat n ∧ sinksTo l heat n ≤ 30 := by
  induction n with
  | zero => simp [sinksTo]
  | succ n ih =>
    rw [sinksTo]
    split
    · have := h n (by omega)
      unfold deepOk at this
      simp only [Bool.and_eq_true] at this
      exact inB_iff.1 this.2.1
    · exact ih fun k hk => h k (by omega)
theorem Ok.creep {g : Gl} {h : List Rg} (k : Ok g h) (d : Nat) : 0 ≤ (creep g d).lo ∧ (creep g d).lo ≤ (creep g d).hi ∧ (creep g d).hi ≤ 3 := creepTo_bd k.bands
theorem Ok.sinks {g : Gl} {h : List Rg} (k : Ok g h) (x : Int) : 0 ≤ sinks g x ∧ sinks g x ≤ 30 := sinksTo_bd k.depths

/-- rise and sink behind so many days. -/
def riseTo (t2 : List Int) : Nat → Int
  | 0 => 0
  | d + 1 => riseTo t2 d + gI t2 d
def sinkTo (g : Gl) (t1 t3 : List Int) : Nat → Int
  | 0 => 0
  | d + 1 => mx3 (sinkTo g t1 t3 d - gI t3 d) 0 (sinks g (gI t1 d))
def zAt (g : Gl) (t1 t2 t3 : List Int) (d : Nat) : Int := g.base + riseTo t2 (d + 1) - sinkTo g t1 t3 (d + 1)
def playTo (g : Gl) (t1 t2 t3 : List Int) (n : Nat) : List Int := (List.range n).map (zAt g t1 t2 t3)
theorem playTo_len {g : Gl} {t1 t2 t3 : List Int} {n : Nat} : (playTo g t1 t2 t3 n).length = n := by simp [playTo]
theorem playTo_succ {g : Gl} {t1 t2 t3 : List Int} {n : Nat} : playTo g t1 t2 t3 (n + 1) = playTo g t1 t2 t3 n ++ [zAt g t1 t2 t3 n] := by simp [playTo, List.range_succ]

theorem dayOk_iff {g : Gl} {h : List Rg} {t1 t2 t3 : List Int} {d : Nat} : dayOk g h t1 t2 t3 d = true ↔
    ((gR h d).lo ≤ gI t1 d ∧ gI t1 d ≤ (gR h d).hi) ∧ ((creep g d).lo ≤ gI t2 d ∧ gI t2 d ≤ (creep g d).hi) ∧ (g.blo ≤ gI t3 d ∧ gI t3 d ≤ g.bhi) := by
  unfold dayOk; simp only [Bool.and_eq_true, inB_iff]
theorem truthB_iff {g : Gl} {h : List Rg} {t1 t2 t3 : List Int} : truthB g h t1 t2 t3 = true ↔ (t1.length = h.length ∧ t2.length = h.length ∧ t3.length = h.length) ∧ ∀ d, d < h.length → dayOk g h t1 t2 t3 d = true := by
  unfold truthB; simp only [Bool.and_eq_true, decide_eq_true_eq, allTo_iff]

theorem riseTo_bd {g : Gl} {h : List Rg} {t1 t2 t3 : List Int} (k : Ok g h) (ht : ∀ d, d < h.length → dayOk g h t1 t2 t3 d = true) : ∀ {d : Nat}, d ≤ h.length → 0 ≤ riseTo t2 d ∧ riseTo t2 d ≤ 3 * d
  | 0, _ => by simp [riseTo]
  | d + 1, hd => by
    have ih := riseTo_bd k ht (d := d) (by omega)
    have h2 := (dayOk_iff.1 (ht d (by omega))).2.1
    have h3 := k.creep d
    rw [riseTo]; omega
theorem sinkTo_bd {g : Gl} {h : List Rg} {t1 t2 t3 : List Int} (k : Ok g h) (ht : ∀ d, d < h.length → dayOk g h t1 t2 t3 d = true) : ∀ {d : Nat}, d ≤ h.length → 0 ≤ sinkTo g t1 t3 d ∧ sinkTo g t1 t3 d ≤ 30
  | 0, _ => by simp [sinkTo]
  | d + 1, hd => by
    have ih := sinkTo_bd k ht (d := d) (by omega)
    have h2 := (dayOk_iff.1 (ht d (by omega))).2.2
    have h3 := k.sinks (gI t1 d)
    have h4 := k.back
    have h5 := mx3_bd (sinkTo g t1 t3 d - gI t3 d) 0 (Go.Proofs.Ytlgmeofpkfliaaa.sinks g (gI t1 d))
    rw [sinkTo]; omega

/-- a list that the call owns, as a list that is read. -/
theorem own_sl {w : World} {base : Nat} {e : TypeId} {v : Value} {l : List Int} (h : w.ownsRow base e 1 v l.length (l.map (Value.int .i64))) : ∃ A c, v = .slice A l.length c ∧ l.length ≤ c ∧ SlAt w w.heap.size 1 A l.length (fI l) := by
  rcases h.2 with ⟨rfl, h0⟩ | ⟨g, cap, cur, rfl, hb, hh, hn, hm, hs, hc⟩
  · exact ⟨none, 0, by rw [h0], by omega, fun h1 => by omega⟩
  · refine ⟨_, cap, rfl, hn, fun _ => ⟨g, 0, rfl, (Array.getElem?_eq_some_iff.1 hh).1, fun k j hk hj => ?_⟩⟩
    obtain rfl : j = 0 := by omega
    rw [cell_of_row w g _ cur e (0, 0) hh]
    simp only [Nat.mul_one, Nat.add_zero, Nat.zero_add]
    have := congrArg (fun x : List Value => x[k]?) hc
    simp only [List.getElem?_take, Nat.mul_one, hk, if_true, List.getElem?_map] at this
    rw [← Array.getElem?_toList, this, List.getElem?_eq_getElem hk]
    simp [fI, gI, List.getElem?_eq_getElem hk]

end Go.Proofs.Ytlgmeofpkfliaaa
end

section
namespace Go.Proofs.Ytlgmeofpkfliaaa
open Go.RowKit
section
variable {P : Program} {ops : Array Oper} {md : Region.Mode} {C : World → Prop}

def wpAnyLQ (P : Program) (md : Region.Mode) (ops : Array Oper) (C : World → Prop) (n : Nat) (L : Array Bool → Act → Prop) : Nat → Array Bool → Act → Prop
  | 0, listed, a => L listed a
  | f + 1, listed, a =>
    Region.ready md ops listed ≠ [] ∧ ∀ i ∈ Region.ready md ops listed, i < n ∧ qOp P ops C i (wpAnyLQ P md ops C n L f (listed.setIfInBounds i true)) a

theorem wpAny_of_headQ {n g : Nat} {L : Array Bool → Act → Prop} {Q' : Exit → Act → World → Prop} (hL : ∀ listed a w, C w → L listed a → wpAny P md ops Q' g listed a w) :
    ∀ (f : Nat) (listed : Array Bool) (a : Act) (w : World), C w → wpAnyLQ P md ops C n L f listed a → wpAny P md ops Q' (f + g) listed a w
  | 0, listed, a, w, hw, h => by rw [Nat.zero_add]; exact hL _ _ _ hw h
  | f + 1, listed, a, w, hw, h => by
    rw [show f + 1 + g = (f + g) + 1 by omega]
    exact ⟨fun h0 => absurd h0 h.1, fun i hi => wpOp_of_qOp hw (fun a' w' hw' h' => wpAny_of_headQ hL f _ a' w' hw' h') (h.2 i hi).2⟩

theorem wpAnyLQ_first {n i : Nat} {oi : Oper} {v : Value} {L : Array Bool → Act → Prop} (hi : ops[i]? = some oi) (hsel : ∀ (j : Nat) (o : Oper) cs b, ops[j]? = some o → o.op ≠ .select cs b)
    (hs : Region.sinkB md ops n = true) (hc : Region.chainB md ops n = true) (hn : n < ops.size) (hin : i < n)
    (hdone : ∀ listed a, L listed a → ∀ j ∈ Region.ready md ops listed, n ≤ j) :
    ∀ (f : Nat) (listed : Array Bool) (a : Act), HeadInv md ops n listed →
      (∀ j oj, ops[j]? = some oj → j ≠ i → listed.getD j true = false → (∀ e ∈ oj.after, Region.binds md e = true → e.on ≠ i) → oi.apart ops oj = true) →
      i ∈ Region.ready md ops listed → YieldsIn P ops C oi v a →
      wpAnyLQ P md ops C n L f (listed.setIfInBounds i true) (a.put oi.dst v) → wpAnyLQ P md ops C n L (f + 1) listed a := by
  intro f
  induction f with
  | zero =>
    intro listed a inv _ hr hy H
    have hun := (mem_ready.1 hr).1
    refine ⟨fun h => (by rw [h] at hr; cases hr), fun j hj => ?_⟩
    have hjn : j < n := by
      rcases Nat.lt_or_ge j n with h | h
      · exact h
      · exact absurd hj (tail_waits hs hc hn inv _ i rfl hin hun j h)
    refine ⟨hjn, ?_⟩
    by_cases hji : j = i
    · subst hji; exact hy.qOp hi H
    · have := hdone _ _ H j (ready_mono hj hji)
      omega
  | succ f ih =>
    intro listed a inv hfree hr hy H
    have hun := (mem_ready.1 hr).1
    refine ⟨fun h => (by rw [h] at hr; cases hr), fun j hj => ?_⟩
    have hjn : j < n := by
      rcases Nat.lt_or_ge j n with h | h
      · exact h
      · exact absurd hj (tail_waits hs hc hn inv _ i rfl hin hun j h)
    refine ⟨hjn, ?_⟩
    by_cases hji : j = i
    · subst hji; exact hy.qOp hi H
    · have h1 := (H.2 j (ready_mono hj hji)).2
      obtain ⟨hjun, oj, hoj, hall⟩ := mem_ready.1 hj
      have hnot : ∀ e ∈ oj.after, Region.binds md e = true → e.on ≠ i := fun e he hb heq => by
        have h1 := hall e he hb
        rw [heq, getD_both hun] at h1
        cases h1
      have h2 := qOp_put hoj (hfree j oj hoj hji hjun hnot) (fun cs b => hsel i oi cs b hi) (fun cs b => hsel j oj cs b hoj) hy h1
      have hfree' : ∀ k ok, ops[k]? = some ok → k ≠ i → (listed.setIfInBounds j true).getD k true = false →
          (∀ e ∈ ok.after, Region.binds md e = true → e.on ≠ i) → oi.apart ops ok = true := fun k ok hk hki hun hno => by
        refine hfree k ok hk hki ?_ hno
        by_cases hjk : j = k
        · subst hjk; exact hjun
        · rw [getD_set_ne true hjk] at hun; exact hun
      refine qOp_mono (fun a' h3 => ih (listed.setIfInBounds j true) a' (inv.set hj hjn) hfree' (ready_mono hr (Ne.symm hji)) h3.1 ?_) h2
      rw [Array.setIfInBounds_comm _ _ hji]
      exact h3.2

theorem wpAnyLQ_lex {n g : Nat} {Lq : Act → Prop} (hsel : Region.noSelect ops = true) (hs : Region.sinkB md ops n = true) (hc : Region.chainB md ops n = true) (hn : n < ops.size) :
    ∀ (l : List Oper) (k : Nat) (listed : Array Bool) (a : Act), (∀ j, j < l.length → l[j]? = ops[k + j]?) → k + l.length = n → HeadInv md ops n listed →
    Region.lexHead md ops g l.length k listed = true → wpQuiet P ops C Lq l a →
    wpAnyLQ P md ops C n (fun listed' a' => Region.seqB md ops g n listed' = true ∧ Lq a') l.length listed a
  | [], k, listed, a, _, hk, _, hB, h => by
    have : k = n := by simpa using hk
    subst this
    exact ⟨by simpa [Region.lexHead] using hB, h⟩
  | o :: l, k, listed, a, hl, hk, inv, hB, h => by
    have h0 : ops[k]? = some o := by simpa using (hl 0 (by simp)).symm
    simp only [List.length_cons, Region.lexHead, Bool.and_eq_true] at hB
    obtain ⟨⟨hr, hf⟩, hB'⟩ := hB
    have hkn : k < n := by simp only [List.length_cons] at hk; omega
    have hr' : k ∈ Region.ready md ops listed := by simpa using hr
    have hst : qOp P ops C k (wpQuiet P ops C Lq l) a := by unfold qOp; simp only [h0]; exact h
    obtain ⟨v, hy, hK⟩ := yieldsIn_of_qOp h0 hst
    exact wpAnyLQ_first h0 (Region.noSelect_spec hsel) hs hc hn hkn (fun listed' a' hL => seqB_ready hL.1) l.length listed a inv (Region.free_spec h0 hf) hr' hy
      (wpAnyLQ_lex hsel hs hc hn l (k + 1) _ _ (fun j hj => by have := hl (j + 1) (by simp; omega); simpa [Nat.add_assoc, Nat.add_comm 1 j] using this) (by simp only [List.length_cons] at hk; omega) (inv.set hr' hkn) hB' hK)

theorem wp_region_quiet_tail {id : Nat} {Q : Exit → Act → World → Prop} {a : Act} {w : World} {l : List Oper} (n : Nat) (hm : P.follows .mixedOrders = true) (hB : Region.lexTailB .any l.toArray n = true)
    (hC : C { w with drawn := w.drawn + 1 })
    (h : wpQuiet P l.toArray C (fun a' => ∀ w', C w' → wpList P l.toArray Q (l.drop n) a' w') (l.take n) a) : (Code.region id l.toArray true).wp P Q a w := by
  simp only [Region.lexTailB, Bool.and_eq_true, decide_eq_true_eq] at hB
  obtain ⟨⟨⟨⟨hsel, hn⟩, hs⟩, hc⟩, hlex⟩ := hB
  have hn' : n < l.length := by simpa using hn
  have htl : (l.take n).length = n := by simp; omega
  have hdl : (l.drop n).length = l.toArray.size - n := by simp
  have inv0 : HeadInv .any l.toArray n (Array.replicate l.toArray.size false) :=
    ⟨by simp, fun j oj _ hl => (by rw [getD_replicate_false] at hl; cases hl), fun t _ ht => getD_in (by simpa using ht) (getD_replicate_false _ _)⟩
  have H := wpAnyLQ_lex (md := .any) (g := l.toArray.size - n) hsel hs hc hn (l.take n) 0 _ a (fun j hj => by
    have hj' : j < n := by rw [htl] at hj; exact hj
    simp [hj']) (by simpa using htl) inv0 (by rw [htl]; exact hlex) h
  refine wp_region_any hm ?_
  have := wpAny_of_headQ (Q' := Q) (g := l.toArray.size - n) (fun listed a' w' hw' hL => by
    have := wpAny_of_seq (md := .any) (Q' := Q) (l.drop n) n listed a' w' (fun j => by simp [List.getElem?_drop]) (by rw [hdl]; exact hL.1) (hL.2 w' hw')
    rwa [hdl] at this) _ _ _ _ hC H
  rw [htl, show n + (l.toArray.size - n) = l.toArray.size by omega] at this
  exact this

theorem Ex.frozen? {w : World} (x : Ex w) (b o : Nat) (hb : b < w.heap.size) : x.W.frozen? ⟨b, o, none⟩ = w.frozen? ⟨b, o, none⟩ := x.h.frozen (p := ⟨b, o, none⟩) hb
theorem Ex.size {w : World} (x : Ex w) : w.heap.size ≤ x.W.heap.size := x.h.size

/-- The same, at the class of the worlds that have grown out of w. -/
theorem wp_region_ext_tail {id : Nat} {Q : Exit → Act → World → Prop} {a : Act} {w : World} {l : List Oper} (n : Nat) (hm : P.follows .mixedOrders = true) (hB : Region.lexTailB .any l.toArray n = true)
    (h : wpQuiet P l.toArray (fun w' => ∃ x : Ex w, w' = x.W) (fun a' => ∀ w', (∃ x : Ex w, w' = x.W) → wpList P l.toArray Q (l.drop n) a' w') (l.take n) a) : (Code.region id l.toArray true).wp P Q a w :=
  wp_region_quiet_tail (C := fun w' => ∃ x : Ex w, w' = x.W) n hm hB ⟨⟨_, (Below.refl w.heap.size w).drew⟩, rfl⟩ h
end
end Go.Proofs.Ytlgmeofpkfliaaa
end

section
namespace Go.Proofs.Ytlgmeofpkfliaaa
open Go.RowKit
attribute [local go_sem] Ex.cell? Ex.frozen?

theorem int_info : (Try.prog.info? 3).map (fun i => (i.zero, i.size, i.bytes)) = some (some (.int .i64 0), 1, 8) := by kernel_rfl

theorem own_snoc {w : World} {base : Nat} {e : TypeId} {v : Value} {l : List Int} {x : Int} {n : Nat} (hn : n = l.length + 1) (h : w.ownsRow base e 1 v n (l.map (Value.int .i64) ++ [.int .i64 x])) :
    w.ownsRow base e 1 v (l ++ [x]).length ((l ++ [x]).map (Value.int .i64)) := by
  subst hn
  simpa using h

theorem own_below {w w' : World} {base : Nat} {e : TypeId} {sz n : Nat} {v : Value} {xs : List Value} (h : w.ownsRow base e sz v n xs) (hb : Below w.heap.size w w') : w'.ownsRow base e sz v n xs := by
  refine ⟨h.1, h.2.imp id ?_⟩
  rintro ⟨g, cap, cur, rfl, hb', hh, rest⟩
  exact ⟨g, cap, cur, rfl, hb', (hb.block g (Array.getElem?_eq_some_iff.1 hh).1).trans hh, rest⟩
theorem own_far {w : World} {base : Nat} {e : TypeId} {sz n : Nat} {v : Value} {xs : List Value} (h : w.ownsRow base e sz v n xs) {p : Addr} (hp : p.block < base) (u : Value) : (w.setCell p u).ownsRow base e sz v n xs := ownsRow_setCell_below h hp u
theorem own_blk {w : World} {base : Nat} {e : TypeId} {sz n : Nat} {v : Value} {xs : List Value} {g : Nat} (h : w.ownsRow base e sz v n xs) (hg : g < base) : some g ≠ v.ownBlock := by
  rcases h.2 with ⟨rfl, _⟩ | ⟨g', cap, cur, rfl, hb, _⟩
  · simp [Value.ownBlock]
  · simp [Value.ownBlock]; omega

theorem own_ge {w : World} {base : Nat} {e : TypeId} {sz n : Nat} {v : Value} {xs : List Value} (h : w.ownsRow base e sz v n xs) {g : Nat} (hg : v.ownBlock = some g) : base ≤ g := by
  rcases h.2 with ⟨rfl, _⟩ | ⟨g', cap, cur, rfl, hb, _⟩
  · simp [Value.ownBlock] at hg
  · simp [Value.ownBlock] at hg; omega
theorem own_base {w : World} {base base' : Nat} {e : TypeId} {sz n : Nat} {v : Value} {xs : List Value} (h : w.ownsRow base e sz v n xs) (hb : base' ≤ base) : w.ownsRow base' e sz v n xs :=
  ⟨h.1, h.2.imp id fun ⟨g, cap, cur, e, hb', rest⟩ => ⟨g, cap, cur, e, Nat.le_trans hb hb', rest⟩⟩

set_option maxRecDepth 100000 in
set_option maxHeartbeats 3200000 in
theorem play_any (g : Gl) (Ab Ad Ah A1 A2 A3 : Option Addr) (cb cd ch c1 c2 c3 : Nat) (h : List Rg) (t1 t2 t3 : List Int) (w : World) (hg : GlIn w w.heap.size g Ab Ad) (hh : SlAt w w.heap.size 2 Ah h.length (fR h))
    (k1 : SlAt w w.heap.size 1 A1 t1.length (fI t1)) (k2 : SlAt w w.heap.size 1 A2 t2.length (fI t2)) (k3 : SlAt w w.heap.size 1 A3 t3.length (fI t3)) (hok : Ok g h) (ht : truthB g h t1 t2 t3 = true) :
    Calls Try.prog 75 #[.agg #[.int .i64 g.base, .slice Ab g.bands.length cb, .slice Ad g.depths.length cd, .int .i64 g.blo, .int .i64 g.bhi, .slice Ah h.length ch], .agg #[.slice A1 t1.length c1, .slice A2 t2.length c2, .slice A3 t3.length c3]] w fun e w' =>
      (∃ v, e = .returned v ∧ w'.ownsRow w.heap.size 3 1 v (playTo g t1 t2 t3 h.length).length ((playTo g t1 t2 t3 h.length).map (Value.int .i64))) ∧ Below w.heap.size w w' := by
  obtain ⟨i0, hi0, hz0, hz1, hz2⟩ := info_parts int_info
  have HI := Lib.hid hi0
  have hb1 := ex_alloc (ex_alloc (ex_alloc (Below.refl w.heap.size w) (.cells #[.int .i64 g.base, .slice Ab g.bands.length cb, .slice Ad g.depths.length cd, .int .i64 g.blo, .int .i64 g.bhi, .slice Ah h.length ch] 101)) (.cells #[.slice A1 t1.length c1, .slice A2 t2.length c2, .slice A3 t3.length c3] 79)) (.cells #[.int .i64 0, .int .i64 0] 145)
  have HT := Lib.hid (truthB_iff.1 ht)
  have HK := Lib.hid hok
  have hnh := hok.nh.2
  clear ht hok hi0
  go_enter Try.func75, Try.ntmps75
  go_wp2
  go_loopw [4, 10] (fun v i wr => ∃ k : Nat, k ≤ h.length ∧ i = .int .i64 k ∧ Below w.heap.size w wr ∧
      Blk wr w.heap.size 101 #[.int .i64 g.base, .slice Ab g.bands.length cb, .slice Ad g.depths.length cd, .int .i64 g.blo, .int .i64 g.bhi, .slice Ah h.length ch] ∧ Blk wr (w.heap.size + 1) 79 #[.slice A1 t1.length c1, .slice A2 t2.length c2, .slice A3 t3.length c3] ∧ Blk wr (w.heap.size + 1 + 1) 145 #[.int .i64 (riseTo t2 k), .int .i64 (sinkTo g t1 t3 k)] ∧
      wr.ownsRow (w.heap.size + 1 + 1 + 1) 3 1 v (playTo g t1 t2 t3 k).length ((playTo g t1 t2 t3 k).map (Value.int .i64)))
    (fun _ i _ => h.length - (intOf i).toNat)
  case atStart => exact ⟨0, by omega, rfl, hb1, ((Blk.new _ _ _).alloc _).alloc _, (Blk.new' _ _ _ (by simp)).alloc _, Blk.new' _ _ _ (by simp), by simp [playTo], .inl ⟨rfl, by simp [playTo]⟩⟩
  case round =>
    obtain ⟨k, hk, rfl, hbl, hq1, hq2, hq3, hown⟩ := hrel
    by_cases hlt : k < h.length
    · have a0 := hq1.cell 0
      have a1 := hq1.cell 1
      have a2 := hq1.cell 2
      have a3 := hq1.cell 3
      have a4 := hq1.cell 4
      have d0 := hq2.cell 0
      have d1 := hq2.cell 1
      have d2 := hq2.cell 2
      have s0 := hq3.cell 0
      have s1 := hq3.cell 1
      have f0 := hq3.frozen 0
      have f1 := hq3.frozen 1
      have l1 := hq1.lt
      have l2 := hq2.lt
      have l3 := hq3.lt
      simp at a0 a1 a2 a3 a4 d0 d1 d2 s0 s1
      obtain ⟨b1, o1, rfl, hbb1, p3⟩ := IsInts.at_ (k1.below hbl) (show k < t1.length by rw [HT.out.1.1]; exact hlt)
      obtain ⟨b2, o2, rfl, hbb2, p4⟩ := IsInts.at_ (k2.below hbl) (show k < t2.length by rw [HT.out.1.2.1]; exact hlt)
      obtain ⟨b3, o3, rfl, hbb3, p5⟩ := IsInts.at_ (k3.below hbl) (show k < t3.length by rw [HT.out.1.2.2]; exact hlt)
      have z1 : k < t1.length := by rw [HT.out.1.1]; exact hlt
      have z2 : k < t2.length := by rw [HT.out.1.2.1]; exact hlt
      have z3 : k < t3.length := by rw [HT.out.1.2.2]; exact hlt
      have hBr : w.heap.size ≤ wr.heap.size := hbl.size
      have m1 : b1 < wr.heap.size := by omega
      have m2 : b2 < wr.heap.size := by omega
      have m3 : b3 < wr.heap.size := by omega
      have hdr : SlAt wr w.heap.size 2 Ad g.depths.length (fD g.depths) := hg.d.below hbl
      have hl5 : g.depths.length ≤ 1000000 := by have := HK.out.nd; omega
      have r0 := dayOk_iff.1 (HT.out.2 k hlt)
      have r1 : 0 ≤ riseTo t2 k ∧ riseTo t2 k ≤ 100000 := by have := riseTo_bd HK.out HT.out.2 hk; omega
      have r2 : 0 ≤ sinkTo g t1 t3 k ∧ sinkTo g t1 t3 k ≤ 100000 := by have := sinkTo_bd HK.out HT.out.2 hk; omega
      have r3 : 0 ≤ gI t2 k ∧ gI t2 k ≤ 100000 := by have := HK.out.creep k; omega
      have r4 : 0 ≤ gI t3 k ∧ gI t3 k ≤ 100000 := by have := HK.out.back; omega
      clear r0
      go_wp2
      refine wp_region_ext_tail 20 (by kernel_rfl) (by kernel_rfl) ?_
      simp only [List.take_succ_cons, List.take_zero, List.drop_succ_cons, List.drop_zero]
      repeat (any_goals (first | go_big_quiet_step ((first
        | (go_at_call 94; exact Calls.ext_of (sinks_any _ _ _ _ _ _ _ _ _ g.depths _ (ExLe hBr _) hl5 (SlAt.ext hdr hBr _)))
        | (go_at_call 93; exact Calls.ext_of (after_any _ _ _ _ _ _ r1 r2 r3 r4))))))
      refine wpQuiet_nil ?_; intro _ hw'; obtain ⟨x, rfl⟩ := hw'; have hx := ex_trans hbl x.h
      have hR := Lib.hid (show riseTo t2 (k + 1) = riseTo t2 k + gI t2 k from rfl)
      have hS := Lib.hid (show sinkTo g t1 t3 (k + 1) = mx3 (sinkTo g t1 t3 k - gI t3 k) 0 (sinksTo g.depths (gI t1 k) g.depths.length) from rfl)
      generalize mx3 (sinkTo g t1 t3 k - gI t3 k) 0 (sinksTo g.depths (gI t1 k) g.depths.length) = sk at *
      generalize riseTo t2 k + gI t2 k = rk at *
      have hW2b : Below w.heap.size w ((x.W.setCell ⟨w.heap.size + 1 + 1, 0, none⟩ (.int .i64 rk)).setCell ⟨w.heap.size + 1 + 1, 1, none⟩ (.int .i64 sk)) := ex_set (ex_set hx (by first | (simp; done) | (simp; omega)) _) (by first | (simp; done) | (simp; omega)) _
      have y1 : Blk ((x.W.setCell ⟨w.heap.size + 1 + 1, 0, none⟩ (.int .i64 rk)).setCell ⟨w.heap.size + 1 + 1, 1, none⟩ (.int .i64 sk)) w.heap.size 101 #[.int .i64 g.base, .slice Ab g.bands.length cb, .slice Ad g.depths.length cd, .int .i64 g.blo, .int .i64 g.bhi, .slice Ah h.length ch] := ((hq1.below x.h l1).far (by first | (simp; done) | (simp; omega)) _).far (by first | (simp; done) | (simp; omega)) _
      have y2 : Blk ((x.W.setCell ⟨w.heap.size + 1 + 1, 0, none⟩ (.int .i64 rk)).setCell ⟨w.heap.size + 1 + 1, 1, none⟩ (.int .i64 sk)) (w.heap.size + 1) 79 #[.slice (some ⟨b1, o1, none⟩) t1.length c1, .slice (some ⟨b2, o2, none⟩) t2.length c2, .slice (some ⟨b3, o3, none⟩) t3.length c3] := ((hq2.below x.h l2).far (by first | (simp; done) | (simp; omega)) _).far (by first | (simp; done) | (simp; omega)) _
      have y3 : Blk ((x.W.setCell ⟨w.heap.size + 1 + 1, 0, none⟩ (.int .i64 rk)).setCell ⟨w.heap.size + 1 + 1, 1, none⟩ (.int .i64 sk)) (w.heap.size + 1 + 1) 145 #[.int .i64 rk, .int .i64 sk] := ((hq3.below x.h l3).set_ 0 _).set_ 1 _
      have y4 : ((x.W.setCell ⟨w.heap.size + 1 + 1, 0, none⟩ (.int .i64 rk)).setCell ⟨w.heap.size + 1 + 1, 1, none⟩ (.int .i64 sk)).ownsRow (w.heap.size + 1 + 1 + 1) 3 1 u4 (playTo g t1 t2 t3 k).length ((playTo g t1 t2 t3 k).map (Value.int .i64)) := own_far (own_far (own_below hown x.h) (by first | (simp; done) | (simp; omega)) _) (by first | (simp; done) | (simp; omega)) _
      go_wp2_with fail
      generalize hW : ((x.W.setCell ⟨w.heap.size + 1 + 1, 0, none⟩ (.int .i64 rk)).setCell ⟨w.heap.size + 1 + 1, 1, none⟩ (.int .i64 sk)) = W2 at *
      clear hW
      have hrk : 0 ≤ rk ∧ rk ≤ 100000 := by have := riseTo_bd HK.out HT.out.2 (d := k + 1) (by omega); rw [hR.out] at this; omega
      have hsk : 0 ≤ sk ∧ sk ≤ 100000 := by have := sinkTo_bd HK.out HT.out.2 (d := k + 1) (by omega); rw [hS.out] at this; omega
      refine (zero_any _ _ _ _ _ _ _ _ (by have := HK.out.base; omega) hrk hsk).mono ?_
      rintro e w3 ⟨rfl, hb3⟩
      have hB3 := ex_trans hW2b hb3
      have hsz3 := hB3.size
      have y4' := (own_below y4 hb3).alloc (.cells #[.int .i64 (g.base + rk - sk)] 3)
      have hlen : (playTo g t1 t2 t3 k).length = k := playTo_len
      have c63 : (playTo g t1 t2 t3 k).length + 1 ≤ maxLen := by rw [hlen]; unfold maxLen; omega
      have cby : ((playTo g t1 t2 t3 k).length + 1) * 8 ≤ 140737488355328 := by rw [hlen]; omega
      have HLEN := Lib.hid hlen
      clear hlen
      have hbase3 : w.heap.size + 1 + 1 + 1 ≤ w3.heap.size + 1 := by have := y3.lt; have := hb3.size; omega
      go_wp2_with (at_builtin; refine wpList_append_lies _ rfl _ _ _ rfl (w.heap.size + 1 + 1 + 1) 3 i0 _ 1 8 Try.underlying54 HI.out hz0 hz1 hz2 rfl (by omega) u4 _ _ rfl y4' ⟨w3.heap.size, 0, none⟩ 1 1 [.int .i64 (g.base + rk - sk)] rfl rfl (World.news_of_block (heap_alloc_new w3 _)) (by simp [Value.oneCell']) (by omega) c63 cby (by simpa using hbase3) (w3.heap.size + 1) (by simp) ?_; intro gg cap w1 hown' hgrow hat hlt')
      go_roundw
      case rel =>
        have hz : zAt g t1 t2 t3 k = g.base + rk - sk := by unfold zAt; rw [hR.out, hS.out]
        refine ⟨k + 1, by omega, by go_num, (ex_alloc hB3 _).grown hgrow (by simp; omega) (fun j hj => Nat.le_trans (by omega) (own_ge y4 hj)), ((y1.below hb3 y1.lt).alloc _).grown hgrow (own_blk y4 (by omega)), ((y2.below hb3 y2.lt).alloc _).grown hgrow (own_blk y4 (by omega)), ?_, ?_⟩
        · rw [hR.out, hS.out]; exact ((y3.below hb3 y3.lt).alloc _).grown hgrow (own_blk y4 (by omega))
        · rw [playTo_succ, hz]; exact own_snoc rfl hown'
      case measure => simp [intOf]; omega
    · obtain rfl : k = h.length := by omega
      go_wp2
      go_ret
      exact ⟨⟨_, rfl, own_base hown (by omega)⟩, hbl⟩

end Go.Proofs.Ytlgmeofpkfliaaa
end

section
namespace Go.Proofs.Ytlgmeofpkfliaaa
open Go.RowKit

theorem truth_is (g : Gl) (Ab Ad Ah A1 A2 A3 : Option Addr) (cb cd ch c1 c2 c3 : Nat) (h : List Rg) (t1 t2 t3 : List Int) (w : World) (r : Bool) (hg : GlIn w w.heap.size g Ab Ad) (hh : SlAt w w.heap.size 2 Ah h.length (fR h))
    (k1 : SlAt w w.heap.size 1 A1 t1.length (fI t1)) (k2 : SlAt w w.heap.size 1 A2 t2.length (fI t2)) (k3 : SlAt w w.heap.size 1 A3 t3.length (fI t3)) (hl5 : g.bands.length ≤ 1000000) (hl6 : h.length ≤ 1000000) (hr : Hid (truthB g h t1 t2 t3 = r)) :
    Calls Try.prog 74 #[.agg #[.int .i64 g.base, .slice Ab g.bands.length cb, .slice Ad g.depths.length cd, .int .i64 g.blo, .int .i64 g.bhi, .slice Ah h.length ch], .agg #[.slice A1 t1.length c1, .slice A2 t2.length c2, .slice A3 t3.length c3]] w fun e w' => e = .returned (.bool r) ∧ Below w.heap.size w w' := by
  have := truth_any g Ab Ad Ah A1 A2 A3 cb cd ch c1 c2 c3 h t1 t2 t3 w hg hh k1 k2 k3 hl5 hl6
  rwa [hr.out] at this

set_option maxHeartbeats 800000 in
theorem Play_no (g : Gl) (Ab Ad Ah A1 A2 A3 : Option Addr) (cb cd ch c1 c2 c3 : Nat) (h : List Rg) (t1 t2 t3 : List Int) (w : World) (hg : GlIn w w.heap.size g Ab Ad) (hh : SlAt w w.heap.size 2 Ah h.length (fR h)) (k1 : SlAt w w.heap.size 1 A1 t1.length (fI t1)) (k2 : SlAt w w.heap.size 1 A2 t2.length (fI t2)) (k3 : SlAt w w.heap.size 1 A3 t3.length (fI t3)) (hne : lived g h ≠ 0) :
    Calls Try.prog 41 #[.agg #[.int .i64 g.base, .slice Ab g.bands.length cb, .slice Ad g.depths.length cd, .int .i64 g.blo, .int .i64 g.bhi], .slice Ah h.length ch, .agg #[.slice A1 t1.length c1, .slice A2 t2.length c2, .slice A3 t3.length c3]] w fun e w' => e = .returned (.tuple #[.slice none 0 0, .int .i64 (lived g h)]) ∧ Below w.heap.size w w' := by
  have hb1 := ex_alloc (ex_alloc (Below.refl w.heap.size w) (.cells #[.int .i64 g.base, .slice Ab g.bands.length cb, .slice Ad g.depths.length cd, .int .i64 g.blo, .int .i64 g.bhi] 39)) (.cells #[.slice A1 t1.length c1, .slice A2 t2.length c2, .slice A3 t3.length c3] 79)
  have hg1 := (hg.below hb1).up hb1.size
  have hh1 := (hh.below hb1).up hb1.size
  have HL := Lib.hid hne
  have hcb : (lived g h == 0) = false := by simpa using hne
  have hcb' : (lived g h != 0) = true := by simpa using hne
  clear hne
  go_enter Try.func41, Try.ntmps41
  go_wp2_with (go_at_call 73; refine (lived_no g _ _ _ _ _ _ h _ hg1 hh1 HL.out).mono ?_; rintro e w2 ⟨rfl, hb2⟩; obtain ⟨hcc, hff⟩ := bcell hb2; have hsz : w.heap.size + 1 < w2.heap.size := (by have := hb2.size; simp at this; omega); have hsy : w.heap.size < w2.heap.size := (by omega))
  go_ret2
  exact ⟨rfl, ex_alloc (ex_trans hb1 hb2) _⟩

set_option maxHeartbeats 800000 in
theorem Play_nt (g : Gl) (Ab Ad Ah A1 A2 A3 : Option Addr) (cb cd ch c1 c2 c3 : Nat) (h : List Rg) (t1 t2 t3 : List Int) (w : World) (hg : GlIn w w.heap.size g Ab Ad) (hh : SlAt w w.heap.size 2 Ah h.length (fR h)) (k1 : SlAt w w.heap.size 1 A1 t1.length (fI t1)) (k2 : SlAt w w.heap.size 1 A2 t2.length (fI t2)) (k3 : SlAt w w.heap.size 1 A3 t3.length (fI t3)) (hl : lived g h = 0) (ht : truthB g h t1 t2 t3 = false) :
    Calls Try.prog 41 #[.agg #[.int .i64 g.base, .slice Ab g.bands.length cb, .slice Ad g.depths.length cd, .int .i64 g.blo, .int .i64 g.bhi], .slice Ah h.length ch, .agg #[.slice A1 t1.length c1, .slice A2 t2.length c2, .slice A3 t3.length c3]] w fun e w' => e = .returned (.tuple #[.slice none 0 0, .int .i64 2]) ∧ Below w.heap.size w w' := by
  have hb1 := ex_alloc (ex_alloc (Below.refl w.heap.size w) (.cells #[.int .i64 g.base, .slice Ab g.bands.length cb, .slice Ad g.depths.length cd, .int .i64 g.blo, .int .i64 g.bhi] 39)) (.cells #[.slice A1 t1.length c1, .slice A2 t2.length c2, .slice A3 t3.length c3] 79)
  have hg1 := (hg.below hb1).up hb1.size
  have hh1 := (hh.below hb1).up hb1.size
  have HL := Lib.hid hl
  have HT := Lib.hid ht
  have hl5 : g.bands.length ≤ 1000000 := by have := (ok_of_lived hl).nb; omega
  have hl6 : h.length ≤ 1000000 := by have := (ok_of_lived hl).nh; omega
  clear hl ht
  go_enter Try.func41, Try.ntmps41
  go_wp2_with (first | (go_at_call 73; refine (lived_ok g _ _ _ _ _ _ h _ hg1 hh1 HL.out).mono ?_; rintro e w2 ⟨rfl, hb2⟩; obtain ⟨hcc, hff⟩ := bcell hb2; have hsz : w.heap.size + 1 < w2.heap.size := (by have := hb2.size; simp at this; omega); have hsy : w.heap.size < w2.heap.size := (by omega)) | (go_at_call 74; have hB2 := ex_alloc (ex_trans hb1 hb2) (.cells #[.int .i64 g.base, .slice Ab g.bands.length cb, .slice Ad g.depths.length cd, .int .i64 g.blo, .int .i64 g.bhi, .slice Ah h.length ch] 101); refine (truth_is g _ _ _ _ _ _ _ _ _ _ _ _ h t1 t2 t3 _ _ ((hg.below hB2).up hB2.size) ((hh.below hB2).up hB2.size) ((k1.below hB2).up hB2.size) ((k2.below hB2).up hB2.size) ((k3.below hB2).up hB2.size) hl5 hl6 HT).mono ?_; rintro e w3 ⟨rfl, hb3⟩; obtain ⟨hcc3, hff3⟩ := bcell hb3; have hsz3 : w2.heap.size < w3.heap.size := (by have := hb3.size; simp at this; omega); have hsy3 : w.heap.size + 1 < w3.heap.size := (by omega); have hsx3 : w.heap.size < w3.heap.size := (by omega)))
  go_ret2
  exact ⟨rfl, ex_trans hB2 hb3⟩

set_option maxHeartbeats 800000 in
theorem Play_ok (g : Gl) (Ab Ad Ah A1 A2 A3 : Option Addr) (cb cd ch c1 c2 c3 : Nat) (h : List Rg) (t1 t2 t3 : List Int) (w : World) (hg : GlIn w w.heap.size g Ab Ad) (hh : SlAt w w.heap.size 2 Ah h.length (fR h)) (k1 : SlAt w w.heap.size 1 A1 t1.length (fI t1)) (k2 : SlAt w w.heap.size 1 A2 t2.length (fI t2)) (k3 : SlAt w w.heap.size 1 A3 t3.length (fI t3)) (hl : lived g h = 0) (ht : truthB g h t1 t2 t3 = true) :
    Calls Try.prog 41 #[.agg #[.int .i64 g.base, .slice Ab g.bands.length cb, .slice Ad g.depths.length cd, .int .i64 g.blo, .int .i64 g.bhi], .slice Ah h.length ch, .agg #[.slice A1 t1.length c1, .slice A2 t2.length c2, .slice A3 t3.length c3]] w fun e w' => (∃ v, e = .returned (.tuple #[v, .int .i64 0]) ∧ w'.ownsRow w.heap.size 3 1 v (playTo g t1 t2 t3 h.length).length ((playTo g t1 t2 t3 h.length).map (Value.int .i64))) ∧ Below w.heap.size w w' := by
  have hb1 := ex_alloc (ex_alloc (Below.refl w.heap.size w) (.cells #[.int .i64 g.base, .slice Ab g.bands.length cb, .slice Ad g.depths.length cd, .int .i64 g.blo, .int .i64 g.bhi] 39)) (.cells #[.slice A1 t1.length c1, .slice A2 t2.length c2, .slice A3 t3.length c3] 79)
  have hg1 := (hg.below hb1).up hb1.size
  have hh1 := (hh.below hb1).up hb1.size
  have HL := Lib.hid hl
  have HK := Lib.hid (ok_of_lived hl)
  have HT := Lib.hid ht
  have hl5 : g.bands.length ≤ 1000000 := by have := (ok_of_lived hl).nb; omega
  have hl6 : h.length ≤ 1000000 := by have := (ok_of_lived hl).nh; omega
  clear hl ht
  go_enter Try.func41, Try.ntmps41
  go_wp2_with (first | (go_at_call 73; refine (lived_ok g _ _ _ _ _ _ h _ hg1 hh1 HL.out).mono ?_; rintro e w2 ⟨rfl, hb2⟩; obtain ⟨hcc, hff⟩ := bcell hb2; have hsz : w.heap.size + 1 < w2.heap.size := (by have := hb2.size; simp at this; omega); have hsy : w.heap.size < w2.heap.size := (by omega)) | (go_at_call 74; have hB2 := ex_alloc (ex_trans hb1 hb2) (.cells #[.int .i64 g.base, .slice Ab g.bands.length cb, .slice Ad g.depths.length cd, .int .i64 g.blo, .int .i64 g.bhi, .slice Ah h.length ch] 101); refine (truth_is g _ _ _ _ _ _ _ _ _ _ _ _ h t1 t2 t3 _ _ ((hg.below hB2).up hB2.size) ((hh.below hB2).up hB2.size) ((k1.below hB2).up hB2.size) ((k2.below hB2).up hB2.size) ((k3.below hB2).up hB2.size) hl5 hl6 HT).mono ?_; rintro e w3 ⟨rfl, hb3⟩; obtain ⟨hcc3, hff3⟩ := bcell hb3; have hsz3 : w2.heap.size < w3.heap.size := (by have := hb3.size; simp at this; omega); have hsy3 : w.heap.size + 1 < w3.heap.size := (by omega); have hsx3 : w.heap.size < w3.heap.size := (by omega)) | (go_at_call 75; have hB3 := ex_trans hB2 hb3; refine (play_any g _ _ _ _ _ _ _ _ _ _ _ _ h t1 t2 t3 _ ((hg.below hB3).up hB3.size) ((hh.below hB3).up hB3.size) ((k1.below hB3).up hB3.size) ((k2.below hB3).up hB3.size) ((k3.below hB3).up hB3.size) HK.out HT.out).mono ?_; rintro e w4 ⟨⟨v, rfl, hown⟩, hb4⟩))
  go_ret2
  exact ⟨⟨_, rfl, own_base hown hB3.size⟩, ex_trans hB3 hb4⟩

end Go.Proofs.Ytlgmeofpkfliaaa
end
