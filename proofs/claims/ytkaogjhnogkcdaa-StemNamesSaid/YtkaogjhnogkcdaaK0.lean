/- Glass: the plain model (no program in sight): data, and what they look like in memory. -/
import Derived.WalkKit
import Derived.Lib.Hide
import Derived.Below
import Derived.Laws.OwnMore
import Derived.Deep.Draws
import Derived.Laws.Rows
set_option linter.unusedVariables false
set_option linter.unusedSimpArgs false
set_option linter.unusedSectionVars false
section
namespace Go.Proofs.Ytkaogjhnogkcdaa
open Go.RowKit

theorem ret_int {k : IntKind} {a b : Int} (h : a = b) : Ending.returned (.int k a) = .returned (.int k b) := by rw [h]
theorem ret_bool {a b : Bool} (h : a = b) : Ending.returned (.bool a) = .returned (.bool b) := by rw [h]

def gI (l : List Int) (k : Nat) : Int := l.getD k 0

structure Rg where
 lo : Int
 hi : Int
 deriving DecidableEq, Inhabited
structure Bd where
 from_ : Int
 lo : Int
 hi : Int
 deriving DecidableEq, Inhabited
structure Dp where
 from_ : Int
 sink : Int
 deriving DecidableEq, Inhabited
structure Ic where
 day : Int
 zero : Int
 err : Int
 deriving DecidableEq, Inhabited

def gR (l : List Rg) (k : Nat) : Rg := l.getD k ⟨0, 0⟩
def gB (l : List Bd) (k : Nat) : Bd := l.getD k ⟨0, 0, 0⟩
def gD (l : List Dp) (k : Nat) : Dp := l.getD k ⟨0, 0⟩
def gC (l : List Ic) (k : Nat) : Ic := l.getD k ⟨0, 0, 0⟩

def SlAt (w : World) (B : Nat) (sz : Nat) (A : Option Addr) (n : Nat) (f : Nat → Nat → Value) : Prop :=
 0 < n → ∃ b off, A = some ⟨b, off, none⟩ ∧ b < B ∧ ∀ k j, k < n → j < sz → w.cell? ⟨b, off + (k * sz + j), none⟩ = some (f k j)

theorem SlAt.keep {w w' : World} {B B' sz n : Nat} {A : Option Addr} {f : Nat → Nat → Value} (h : SlAt w B sz A n f) (hB : B ≤ B') (hk : ∀ p : Addr, p.block < B → w'.cell? p = w.cell? p) : SlAt w' B' sz A n f :=
 fun hn => let ⟨b, off, e, hb, hc⟩ := h hn; ⟨b, off, e, by omega, fun k j hk' hj => (hk _ hb).trans (hc k j hk' hj)⟩
theorem SlAt.below {w w' : World} {B sz n : Nat} {A : Option Addr} {f : Nat → Nat → Value} (h : SlAt w B sz A n f) (hb : Below B w w') : SlAt w' B sz A n f := h.keep (Nat.le_refl _) fun _ hp => hb.cell hp
theorem SlAt.up {w : World} {B B' sz n : Nat} {A : Option Addr} {f : Nat → Nat → Value} (h : SlAt w B sz A n f) (hB : B ≤ B') : SlAt w B' sz A n f := h.keep hB fun _ _ => rfl
def fI (l : List Int) : Nat → Nat → Value := fun k _ => .int .i64 (gI l k)
def fR (l : List Rg) : Nat → Nat → Value := fun k j => match j with | 0 => .int .i64 (gR l k).lo | _ => .int .i64 (gR l k).hi
def fB (l : List Bd) : Nat → Nat → Value := fun k j => match j with | 0 => .int .i64 (gB l k).from_ | 1 => .int .i64 (gB l k).lo | _ => .int .i64 (gB l k).hi
def fD (l : List Dp) : Nat → Nat → Value := fun k j => match j with | 0 => .int .i64 (gD l k).from_ | _ => .int .i64 (gD l k).sink
def fC (l : List Ic) : Nat → Nat → Value := fun k j => match j with | 0 => .int .i64 (gC l k).day | 1 => .int .i64 (gC l k).zero | _ => .int .i64 (gC l k).err


section
variable {w : World} {B n : Nat} {A : Option Addr} {k : Nat}
theorem IsInts.at_ {l : List Int} (h : SlAt w B 1 A n (fI l)) (hk : k < n) :
  ∃ b off, A = some ⟨b, off, none⟩ ∧ b < B ∧ w.cell? ⟨b, off + k, none⟩ = some (.int .i64 (gI l k)) := by
 obtain ⟨b, off, e, hb, hc⟩ := h (by omega)
 exact ⟨b, off, e, hb, by simpa [fI] using hc k 0 hk (by omega)⟩
theorem IsRgs.at_ {l : List Rg} (h : SlAt w B 2 A n (fR l)) (hk : k < n) :
  ∃ b off, A = some ⟨b, off, none⟩ ∧ b < B ∧ w.cell? ⟨b, off + k * 2, none⟩ = some (.int .i64 (gR l k).lo) ∧ w.cell? ⟨b, off + k * 2 + 1, none⟩ = some (.int .i64 (gR l k).hi) := by
 obtain ⟨b, off, e, hb, hc⟩ := h (by omega)
 exact ⟨b, off, e, hb, hc k 0 hk (by omega), hc k 1 hk (by omega)⟩
theorem IsDps.at_ {l : List Dp} (h : SlAt w B 2 A n (fD l)) (hk : k < n) :
  ∃ b off, A = some ⟨b, off, none⟩ ∧ b < B ∧ w.cell? ⟨b, off + k * 2, none⟩ = some (.int .i64 (gD l k).from_) ∧ w.cell? ⟨b, off + k * 2 + 1, none⟩ = some (.int .i64 (gD l k).sink) := by
 obtain ⟨b, off, e, hb, hc⟩ := h (by omega)
 exact ⟨b, off, e, hb, hc k 0 hk (by omega), hc k 1 hk (by omega)⟩
theorem IsBds.at_ {l : List Bd} (h : SlAt w B 3 A n (fB l)) (hk : k < n) :
  ∃ b off, A = some ⟨b, off, none⟩ ∧ b < B ∧ w.cell? ⟨b, off + k * 3, none⟩ = some (.int .i64 (gB l k).from_) ∧ w.cell? ⟨b, off + k * 3 + 1, none⟩ = some (.int .i64 (gB l k).lo) ∧ w.cell? ⟨b, off + k * 3 + 2, none⟩ = some (.int .i64 (gB l k).hi) := by
 obtain ⟨b, off, e, hb, hc⟩ := h (by omega)
 exact ⟨b, off, e, hb, hc k 0 hk (by omega), hc k 1 hk (by omega), hc k 2 hk (by omega)⟩
theorem IsIcs.at_ {l : List Ic} (h : SlAt w B 3 A n (fC l)) (hk : k < n) :
  ∃ b off, A = some ⟨b, off, none⟩ ∧ b < B ∧ w.cell? ⟨b, off + k * 3, none⟩ = some (.int .i64 (gC l k).day) ∧ w.cell? ⟨b, off + k * 3 + 1, none⟩ = some (.int .i64 (gC l k).zero) ∧ w.cell? ⟨b, off + k * 3 + 2, none⟩ = some (.int .i64 (gC l k).err) := by
 obtain ⟨b, off, e, hb, hc⟩ := h (by omega)
 exact ⟨b, off, e, hb, hc k 0 hk (by omega), hc k 1 hk (by omega), hc k 2 hk (by omega)⟩
end

theorem bcell {W w1 : World} (hb : Below W.heap.size W w1) : (∀ b o, b < W.heap.size → w1.cell? ⟨b, o, none⟩ = W.cell? ⟨b, o, none⟩) ∧ (∀ b o, b < W.heap.size → w1.frozen? ⟨b, o, none⟩ = W.frozen? ⟨b, o, none⟩) :=
 ⟨fun b o h => hb.cell (p := ⟨b, o, none⟩) h, fun b o h => hb.frozen (p := ⟨b, o, none⟩) h⟩

def Blk (w : World) (g : Nat) (t : TypeId) (cs : Array Value) : Prop := w.heap[g]? = some (.cells cs t (0, 0))
section
variable {w w' : World} {g : Nat} {t : TypeId} {cs : Array Value}
theorem Blk.lt (h : Blk w g t cs) : g < w.heap.size := by
 rcases Nat.lt_or_ge g w.heap.size with hlt | hge
 ·
  exact hlt
 ·
  unfold Blk at h; rw [Array.getElem?_eq_none hge] at h; cases h
theorem Blk.cell (h : Blk w g t cs) (i : Nat) : w.cell? ⟨g, i, none⟩ = cs[i]? := cell_of_row w g i cs t (0, 0) h
theorem Blk.frozen (h : Blk w g t cs) (i : Nat) : w.frozen? ⟨g, i, none⟩ = false := by
 unfold Blk at h
 simp [World.frozen?, h]
theorem Blk.new (w : World) (t : TypeId) (cs : Array Value) : Blk (w.alloc (.cells cs t)) w.heap.size t cs := heap_alloc_new w _
theorem Blk.new' (w : World) (t : TypeId) (cs : Array Value) {g : Nat} (hg : w.heap.size = g) : Blk (w.alloc (.cells cs t)) g t cs := hg ▸ heap_alloc_new w _
theorem Blk.drew (h : Blk w g t cs) : Blk w.drew g t cs := h
theorem Blk.drewN (h : Blk w g t cs) (n : Nat) : Blk (w.drewN n) g t cs := h
theorem Blk.alloc (h : Blk w g t cs) (o : Obj) : Blk (w.alloc o) g t cs := (Below.heap_alloc w o g h.lt).trans h
theorem Blk.set_ (h : Blk w g t cs) (i : Nat) (u : Value) : Blk (w.setCell ⟨g, i, none⟩ u) g t (cs.setIfInBounds i u) := by
 unfold Blk at h ⊢
 simp [World.setCell, Array.getElem?_modify, h]
theorem Blk.far (h : Blk w g t cs) {p : Addr} (hp : g ≠ p.block) (u : Value) : Blk (w.setCell p u) g t cs := (Below.heap_setCell w p u g hp).trans h
theorem Blk.below {B : Nat} (h : Blk w g t cs) (hb : Below B w w') (hg : g < B) : Blk w' g t cs := (hb.block g hg).trans h
theorem Blk.grown {row : Option Nat} (h : Blk w g t cs) (hb : w.grownBy w' row) (hg : some g ≠ row) : Blk w' g t cs := (hb.block g h.lt hg).trans h
end

def mxTo (xs : List Int) : Nat → Int
 | 0 => gI xs 0
 | k + 1 => max (mxTo xs k) (gI xs k)

def mx3 (x y z : Int) : Int := max (max x y) z
theorem mx3_bd (x y z : Int) : x ≤ mx3 x y z ∧ y ≤ mx3 x y z ∧ z ≤ mx3 x y z ∧ (mx3 x y z = x ∨ mx3 x y z = y ∨ mx3 x y z = z) := by unfold mx3; omega

def inB (n lo hi : Int) : Bool := decide (lo ≤ n) && decide (n ≤ hi)
def toB (lo hi high : Int) : Bool := decide (0 ≤ lo) && (decide (lo ≤ hi) && decide (hi ≤ high))
theorem inB_iff {n lo hi : Int} : inB n lo hi = true ↔ lo ≤ n ∧ n ≤ hi := by simp [inB]
theorem toB_iff {lo hi high : Int} : toB lo hi high = true ↔ 0 ≤ lo ∧ lo ≤ hi ∧ hi ≤ high := by simp [toB]

def allTo (f : Nat → Bool) : Nat → Bool
 | 0 => true
 | k + 1 => allTo f k && f k
theorem allTo_iff {f : Nat → Bool} {n : Nat} : allTo f n = true ↔ ∀ k, k < n → f k = true := by
 induction n with
 | zero => simp [allTo]
 | succ n ih =>
  simp only [allTo, Bool.and_eq_true, ih]
  constructor
  ·
   rintro ⟨h1, h2⟩ k hk
   rcases Nat.lt_succ_iff_lt_or_eq.1 hk with h | h
   ·
    exact h1 k h
   ·
    exact h ▸ h2
  ·
   intro h
   exact ⟨fun k hk => h k (by omega), h n (by omega)⟩
theorem allTo_false {f : Nat → Bool} {n k : Nat} (hk : k < n) (h : f k = false) : allTo f n = false := by
 cases hh : allTo f n
 ·
  rfl
 ·
  rw [allTo_iff.1 hh k hk] at h; cases h

def bandOk (l : List Bd) (i : Nat) : Bool := inB (gB l i).from_ 0 16 && (toB (gB l i).lo (gB l i).hi 3 && !(decide (0 < i) && decide ((gB l i).from_ ≤ (gB l (i - 1)).from_)))
def bandsB (l : List Bd) (n : Nat) : Bool := allTo (bandOk l) n && (decide (0 < n) && decide ((gB l 0).from_ = 0))
def deepOk (l : List Dp) (i : Nat) : Bool := inB (gD l i).from_ 0 500 && (inB (gD l i).sink 0 30 && !(decide (0 < i) && (decide ((gD l i).from_ ≤ (gD l (i - 1)).from_) || decide ((gD l i).sink < (gD l (i - 1)).sink))))
def deepsB (l : List Dp) (n : Nat) : Bool := allTo (deepOk l) n && decide (0 < n)

structure Gl where
 base : Int
 bands : List Bd
 depths : List Dp
 blo : Int
 bhi : Int
def ckOk (g : Gl) : Bool := inB g.base (-1000) 1000 && (toB g.blo g.bhi 5 && (bandsB g.bands g.bands.length && deepsB g.depths g.depths.length))
def ckGlass (g : Gl) : Int := if 3 < g.bands.length ∨ 4 < g.depths.length then 3 else if ckOk g = true then 0 else 1
structure GlIn (w : World) (B : Nat) (g : Gl) (Ab Ad : Option Addr) : Prop where
 b : SlAt w B 3 Ab g.bands.length (fB g.bands)
 d : SlAt w B 2 Ad g.depths.length (fD g.depths)
theorem GlIn.keep {w w' : World} {B B' : Nat} {g : Gl} {Ab Ad : Option Addr} (h : GlIn w B g Ab Ad) (hB : B ≤ B') (hk : ∀ p : Addr, p.block < B → w'.cell? p = w.cell? p) : GlIn w' B' g Ab Ad := ⟨h.b.keep hB hk, h.d.keep hB hk⟩
theorem GlIn.below {w w' : World} {B : Nat} {g : Gl} {Ab Ad : Option Addr} (h : GlIn w B g Ab Ad) (hb : Below B w w') : GlIn w' B g Ab Ad := ⟨h.b.below hb, h.d.below hb⟩
theorem GlIn.up {w : World} {B B' : Nat} {g : Gl} {Ab Ad : Option Addr} (h : GlIn w B g Ab Ad) (hB : B ≤ B') : GlIn w B' g Ab Ad := ⟨h.b.up hB, h.d.up hB⟩
def heatOk (h : List Rg) (k : Nat) : Bool := toB (gR h k).lo (gR h k).hi 500
def lived (g : Gl) (h : List Rg) : Int := if ckGlass g ≠ 0 then ckGlass g else if 16 < h.length then 3 else if h.length = 0 ∨ allTo (heatOk h) h.length = false then 2 else 0
def iceOk (n : Nat) (l : List Ic) (k : Nat) : Bool := inB (gC l k).day 0 ((n : Int) - 1) && (inB (gC l k).zero (-2000) 2000 && inB (gC l k).err 0 20)
def iced (g : Gl) (h : List Rg) (l : List Ic) : Int := if lived g h ≠ 0 then lived g h else if 8 < l.length then 3 else if allTo (iceOk h.length l) l.length = false then 2 else 0
def firstOf (f : Nat → Bool) : Nat → Int
 | 0 => -1
 | k + 1 => if firstOf f k < 0 then (if f k then (k : Int) else -1) else firstOf f k
theorem firstOf_neg {f : Nat → Bool} {n : Nat} (h : ∀ k, k < n → f k = false) : firstOf f n = -1 := by
 induction n with
 | zero => rfl
 | succ n ih => rw [firstOf, ih fun k hk => h k (by omega), if_pos (by omega), h n (by omega)]; simp
theorem firstOf_at {f : Nat → Bool} {n k : Nat} (hk : k < n) (h : ∀ j, j < k → f j = false) (hf : f k = true) : firstOf f n = (k : Int) := by
 induction n with
 | zero => omega
 | succ n ih =>
  rcases Nat.lt_succ_iff_lt_or_eq.1 hk with h' | h'
  ·
   rw [firstOf, ih h', if_neg (by omega)]
  ·
   subst h'
   rw [firstOf, firstOf_neg h, if_pos (by omega), hf]; simp
theorem firstOf_nonneg {f : Nat → Bool} {n : Nat} : decide (0 ≤ firstOf f n) = !(allTo (fun k => !f k) n) := by
 induction n with
 | zero => rfl
 | succ n ih =>
  rw [firstOf, allTo]
  by_cases h : firstOf f n < 0
  ·
   rw [if_pos h]
   have : decide (0 ≤ firstOf f n) = false := decide_eq_false (by omega)
   rw [this] at ih
   have h2 : allTo (fun k => !f k) n = true := by
    cases hh : allTo (fun k => !f k) n
    ·
     rw [hh] at ih; cases ih
    ·
     rfl
   rw [h2]
   cases f n <;> simp <;> omega
  ·
   rw [if_neg h, ih]
   have : decide (0 ≤ firstOf f n) = true := decide_eq_true (by omega)
   rw [this] at ih
   rw [show allTo (fun k => !f k) n = false from by
    cases hh : allTo (fun k => !f k) n
    ·
     rfl
    ·
     rw [hh] at ih; cases ih]
   rfl

def creepTo (l : List Bd) (day : Int) : Nat → Rg
 | 0 => ⟨0, 0⟩
 | k + 1 => if (gB l k).from_ ≤ day then ⟨(gB l k).lo, (gB l k).hi⟩ else creepTo l day k
def sinksTo (l : List Dp) (heat : Int) : Nat → Int
 | 0 => 0
 | k + 1 => if (gD l k).from_ ≤ heat then (gD l k).sink else sinksTo l heat k

def offV (o : Nat → Bool) : Array Value := #[.bool (o 0), .bool (o 1), .bool (o 2), .bool (o 3), .bool (o 4), .bool (o 5), .bool (o 6), .bool (o 7)]
theorem offV_at (o : Nat → Bool) {k : Nat} (hk : k < 8) : (offV o)[k]? = some (.bool (o k)) := by
 match k, hk with
 | 0, _ => rfl
 | 1, _ => rfl
 | 2, _ => rfl
 | 3, _ => rfl
 | 4, _ => rfl
 | 5, _ => rfl
 | 6, _ => rfl
 | 7, _ => rfl
def fitOk (l : List Ic) (o : Nat → Bool) (day zero : Int) (k : Nat) : Bool := !(((gC l k).day == day) && (!o k && !inB (zero - (gC l k).zero) (-(gC l k).err) (gC l k).err))
def fitsB (l : List Ic) (o : Nat → Bool) (day zero : Int) : Bool := allTo (fitOk l o day zero) l.length
def IcesBd (l : List Ic) : Prop := ∀ k, k < l.length → (-100000 ≤ (gC l k).zero ∧ (gC l k).zero ≤ 100000) ∧ (0 ≤ (gC l k).err ∧ (gC l k).err ≤ 100000)

end Go.Proofs.Ytkaogjhnogkcdaa
end
