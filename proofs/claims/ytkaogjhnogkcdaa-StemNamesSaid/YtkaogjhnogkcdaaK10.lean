/- Glass: an append onto a row of the call's own, of which the elder row is told, too. · Glass: pick's loop (walk). · Glass: lists (walk). · Glass: Fewest, Blame (walks). · Glass: Blame (walk). · Glass: the example's glass, history and ices (walks). · Glass: what the chapter's example comes to (plain). · Glass: ints (walk). · Glass: awake (walk): the chapter's example. · The law's and the reference's small helpers (walks): In, span, Thin, to. · The reference's Fault, IcesFault; the law's fault, lived, iced, ready (walks). · The law's fault, lived, iced, ready (walks). · The law's conversions of lists (walks): History, Ices, list. · The law's conversions (walks): list, Truth. · The law's conversion of a glass (walk). · The reference's Has (walk). · The reference's Agrees and Fits (walks). · Stem (plain): what the reference reckons comes to the same. · Stem (plain): readings of one bath, stale readings, ices that are meant. · Stem's reference and law: conversions, and what is valid (walks). -/
import Derived.ArgAppend
import Derived.Test.YtkaogjhnogkcdaaK9
import Derived.Test.YtkaogjhnogkcdaaK8
import Derived.Test.YtkaogjhnogkcdaaK1
import Derived.Test.YtkaogjhnogkcdaaK14
set_option linter.unusedVariables false
set_option linter.unusedSimpArgs false
set_option linter.unusedSectionVars false
section
namespace Go.Proofs.Ytkaogjhnogkcdaa
open Go.RowKit

end Go.Proofs.Ytkaogjhnogkcdaa
end

section
namespace Go.Proofs.Ytkaogjhnogkcdaa
open Go.RowKit
attribute [local go_sem] Ex.cell? Ex.frozen? Gx.cell?

end Go.Proofs.Ytkaogjhnogkcdaa
end

section
namespace Go.Proofs.Ytkaogjhnogkcdaa
open Go.RowKit
attribute [local go_sem] Ex.cell? Ex.frozen? run_store_func

theorem RowsAre.base {w : World} {base base' : Nat} (hb : base' ≤ base) : ∀ {vs : List Value} {ls : List (List Int)}, RowsAre w base vs ls → RowsAre w base' vs ls
 | [], [], _ => trivial
 | _ :: _, _ :: _, h => ⟨own_base h.1 hb, RowsAre.base hb h.2⟩

noncomputable def listsL (g : Gl) (h : List Rg) (l : List Ic) (many : Nat) : List (List Int) := pickL (agreeB g h l) many l.length [] off0 0

end Go.Proofs.Ytkaogjhnogkcdaa
end

section
namespace Go.Proofs.Ytkaogjhnogkcdaa
open Go.RowKit
attribute [local go_sem] Ex.cell? Ex.frozen?

def seqL (n : Nat) : List Int := (List.range n).map fun k : Nat => (k : Int)
def FewIs (L : Nat → List (List Int)) (n : Nat) (r : List Int) : Prop :=
 (∃ k, k < n ∧ (∀ j, j < k → L j = []) ∧ ∃ ls, L k = r :: ls) ∨ ((∀ j, j < n → L j = []) ∧ r = seqL n)

end Go.Proofs.Ytkaogjhnogkcdaa
end

section
namespace Go.Proofs.Ytkaogjhnogkcdaa
open Go.RowKit
attribute [local go_sem] Ex.cell? Ex.frozen?

def BlameIs (agrees : Bool) (L1 : List (List Int)) (e : Ending) : Prop :=
 ((agrees = true ∨ L1.length ≠ 1) ∧ e = .returned (.tuple #[.int .i64 0, .int .i64 7])) ∨ (agrees = false ∧ ∃ x : Int, L1 = [[x]] ∧ e = .returned (.tuple #[.int .i64 x, .int .i64 0]))

end Go.Proofs.Ytkaogjhnogkcdaa
end

section
namespace Go.Proofs.Ytkaogjhnogkcdaa
open Go.RowKit
attribute [local go_sem] Ex.cell? Ex.frozen?

def tubeG : Gl := ⟨0, [⟨0, 1, 2⟩, ⟨3, 0, 1⟩], [⟨100, 10⟩, ⟨300, 25⟩], 2, 4⟩
def springH : List Rg := [⟨0, 0⟩, ⟨150, 150⟩, ⟨0, 20⟩, ⟨0, 350⟩]
def threeC : List Ic := [⟨1, -6, 0⟩, ⟨3, 4, 0⟩, ⟨2, -3, 0⟩]

theorem Fr.andSet {R : Nat → Prop} {a w : World} (h : Fr R a w) {b i : Nat} {v : Value} (hb : R b) : Fr R a (w.setCell ⟨b, i, none⟩ v) := h.trans (Fr.set w b i v hb) (fun _ _ h => h)

end Go.Proofs.Ytkaogjhnogkcdaa
end

section
namespace Go.Proofs.Ytkaogjhnogkcdaa
open Go.RowKit

def goFilter (g : Gl) (h : List Rg) (d : Nat) (nxt : List St) : List St → List St
 | [] => []
 | s :: L => if (nextL g h d s).any (fun t => decide (t ∈ nxt)) then s :: goFilter g h d nxt L else goFilter g h d nxt L
def goesL (g : Gl) (h : List Rg) (l : List Ic) (o : Nat → Bool) : Nat → Nat → List St
 | 0, d => canL g h l o d
 | k + 1, d => goFilter g h d (goesL g h l o k (d + 1)) (canL g h l o d)
theorem mem_goFilter {g : Gl} {h : List Rg} {d : Nat} {nxt : List St} {s : St} : ∀ {L : List St}, s ∈ goFilter g h d nxt L ↔ s ∈ L ∧ ∃ t, t ∈ nextL g h d s ∧ t ∈ nxt
 | [] => by simp [goFilter]
 | s' :: L => by
  rw [goFilter]
  split
  ·
   rename_i hp
   simp only [List.any_eq_true, decide_eq_true_eq] at hp
   rw [List.mem_cons, mem_goFilter, List.mem_cons]
   constructor
   ·
    rintro (rfl | ⟨h1, h2⟩)
    ·
     exact ⟨.inl rfl, hp⟩
    ·
     exact ⟨.inr h1, h2⟩
   ·
    rintro ⟨rfl | h1, h2⟩
    ·
     exact .inl rfl
    ·
     exact .inr ⟨h1, h2⟩
  ·
   rename_i hp
   simp only [List.any_eq_true, decide_eq_true_eq] at hp
   rw [mem_goFilter, List.mem_cons]
   constructor
   ·
    rintro ⟨h1, h2⟩; exact ⟨.inr h1, h2⟩
   ·
    rintro ⟨rfl | h1, h2⟩
    ·
     exact absurd h2 hp
    ·
     exact ⟨h1, h2⟩
theorem mem_goesL {g : Gl} {h : List Rg} {l : List Ic} {o : Nat → Bool} : ∀ {k d : Nat} {s : St}, s ∈ goesL g h l o k d ↔ Goes g h l o k d s
 | 0, d, s => mem_canL
 | k + 1, d, s => by
  rw [goesL, mem_goFilter, Goes, mem_canL]
  constructor
  ·
   rintro ⟨h1, t, h2, h3⟩; exact ⟨h1, t, h2, mem_goesL.1 h3⟩
  ·
   rintro ⟨h1, t, h2, h3⟩; exact ⟨h1, t, h2, mem_goesL.2 h3⟩
def endsC (g : Gl) (L : List St) (a b : Int) : Bool := L.any (fun s => zero g s == a) && (L.any (fun s => zero g s == b) && L.all (fun s => decide (a ≤ zero g s) && decide (zero g s ≤ b)))
theorem endsC_iff {g : Gl} {h : List Rg} {l : List Ic} {o : Nat → Bool} {k d : Nat} {a b : Int} (hc : endsC g (goesL g h l o k d) a b = true) : EndsOf (fun z => ∃ s, Goes g h l o k d s ∧ z = zero g s) a b := by
 unfold endsC at hc
 simp only [Bool.and_eq_true, List.any_eq_true, List.all_eq_true, beq_iff_eq, decide_eq_true_eq] at hc
 obtain ⟨⟨s, h1, h2⟩, ⟨t, h3, h4⟩, h5⟩ := hc
 refine ⟨⟨s, mem_goesL.1 h1, h2.symm⟩, ⟨t, mem_goesL.1 h3, h4.symm⟩, ?_⟩
 rintro z ⟨s, hs, rfl⟩
 exact h5 s (mem_goesL.2 hs)
theorem EndsOf.uniq {Z : Int → Prop} {a b a' b' : Int} (h : EndsOf Z a b) (k : EndsOf Z a' b') : a = a' ∧ b = b' := by
 have h1 := h.2.2 _ k.1
 have h2 := h.2.2 _ k.2.1
 have h3 := k.2.2 _ h.1
 have h4 := k.2.2 _ h.2.1
 omega
def zsC (g : Gl) (h : List Rg) (l : List Ic) (zs : List Rg) : Bool := decide (zs.length = h.length) && (List.range h.length).all fun i => endsC g (goesL g h l off0 (h.length - 1 - i) (i + 1)) (gR zs i).lo (gR zs i).hi
theorem ZsOf.uniq {g : Gl} {h : List Rg} {l : List Ic} {zs zs' : List Rg} (k : ZsOf g h l zs) (k' : ZsOf g h l zs') : zs = zs' := by
 refine List.ext_getElem (by rw [k.1, k'.1]) (fun i h1 h2 => ?_)
 have := (k.2 i (by rw [← k.1]; exact h1)).uniq (k'.2 i (by rw [← k.1]; exact h1))
 have e1 : gR zs i = zs[i] := by simp [gR, h1]
 have e2 : gR zs' i = zs'[i] := by simp [gR, h2]
 rw [e1, e2] at this
 cases hz : zs[i]; cases hz' : zs'[i]
 rw [hz, hz'] at this
 simp only at this
 rw [this.1, this.2]
theorem zsC_iff {g : Gl} {h : List Rg} {l : List Ic} {zs : List Rg} (hc : zsC g h l zs = true) : ZsOf g h l zs := by
 unfold zsC at hc
 simp only [Bool.and_eq_true, decide_eq_true_eq, List.all_eq_true, List.mem_range] at hc
 exact ⟨hc.1, fun i hi => endsC_iff (hc.2 i hi)⟩

theorem zs0 : ZsOf tubeG springH [] [⟨1, 2⟩, ⟨-8, -6⟩, ⟨-5, 0⟩, ⟨-22, 5⟩] := zsC_iff (by decide +kernel)
theorem can0 : ∃ s, Can tubeG springH [] off0 springH.length s := agreeB_iff.1 ((agreeB_eq _ _ _ _).trans (by decide +kernel))
end Go.Proofs.Ytkaogjhnogkcdaa
end

section
namespace Go.Proofs.Ytkaogjhnogkcdaa
open Go.RowKit
attribute [local go_sem] Ex.cell? Ex.frozen?

def intsB (l m : List Int) : Bool := decide (l = m)
end Go.Proofs.Ytkaogjhnogkcdaa
end

section
namespace Go.Proofs.Ytkaogjhnogkcdaa
open Go.RowKit
attribute [local go_sem] Ex.cell? Ex.frozen?

end Go.Proofs.Ytkaogjhnogkcdaa
end

section
namespace Go.Proofs.Ytkaogjhnogkcdaa
open Go.RowKit
attribute [local go_sem] Ex.cell? Ex.frozen?

def thinB (nb nd nh ni : Nat) : Bool := decide (nb ≤ 5) && (decide (nd ≤ 6) && (decide (nh ≤ 20) && decide (ni ≤ 11)))
def hisF (h : List Rg) : Int := if 16 < h.length then 3 else if h.length = 0 ∨ allTo (heatOk h) h.length = false then 2 else 0
def icsF (n : Nat) (l : List Ic) : Int := if 8 < l.length then 3 else if allTo (iceOk n l) l.length = false then 2 else 0
end Go.Proofs.Ytkaogjhnogkcdaa
end

section
namespace Go.Proofs.Ytkaogjhnogkcdaa
open Go.RowKit
attribute [local go_sem] Ex.cell? Ex.frozen?

end Go.Proofs.Ytkaogjhnogkcdaa
end

section
namespace Go.Proofs.Ytkaogjhnogkcdaa
open Go.RowKit
attribute [local go_sem] Ex.cell? Ex.frozen?

def readyB (g : Gl) (h : List Rg) : Bool := thinB g.bands.length g.depths.length h.length 0 && decide (lived g h = 0)
end Go.Proofs.Ytkaogjhnogkcdaa
end

section
namespace Go.Proofs.Ytkaogjhnogkcdaa
open Go.RowKit
attribute [local go_sem] Ex.cell? Ex.frozen? Gx.cell?

def cR (r : Rg) : List Value := [.int .i64 r.lo, .int .i64 r.hi]
def cC (r : Ic) : List Value := [.int .i64 r.day, .int .i64 r.zero, .int .i64 r.err]
def cB (r : Bd) : List Value := [.int .i64 r.from_, .int .i64 r.lo, .int .i64 r.hi]
def cD (r : Dp) : List Value := [.int .i64 r.from_, .int .i64 r.sink]
end Go.Proofs.Ytkaogjhnogkcdaa
end

section
namespace Go.Proofs.Ytkaogjhnogkcdaa
open Go.RowKit
attribute [local go_sem] Ex.cell? Ex.frozen? Gx.cell?

end Go.Proofs.Ytkaogjhnogkcdaa
end

section
namespace Go.Proofs.Ytkaogjhnogkcdaa
open Go.RowKit
attribute [local go_sem] Ex.cell? Ex.frozen? Gx.cell?

end Go.Proofs.Ytkaogjhnogkcdaa
end

section
namespace Go.Proofs.Ytkaogjhnogkcdaa
open Go.RowKit
attribute [local go_sem] Ex.cell? Ex.frozen?

def hasB (l : List Int) (n : Int) : Bool := decide (n ∈ l)
end Go.Proofs.Ytkaogjhnogkcdaa
end

section
namespace Go.Proofs.Ytkaogjhnogkcdaa
open Go.RowKit
attribute [local go_sem] Ex.cell? Ex.frozen?

end Go.Proofs.Ytkaogjhnogkcdaa
end

section
namespace Go.Proofs.Ytkaogjhnogkcdaa

section
variable {t : Tb} {r : Rd} {q : Ki}
theorem bnd_ends (ht : TbBd t) (hr : RdBd r) : EndsOf (SayP t r) (bndP t r).lo (bndP t r).hi := bnd_say ht hr
def SayK (r : Rd) (q : Ki) (z : Int) : Prop := ∃ air rate off, (r.air.lo ≤ air ∧ air ≤ r.air.hi) ∧ (r.rate.lo ≤ rate ∧ rate ≤ r.rate.hi) ∧ (-r.err ≤ off ∧ off ≤ r.err) ∧ z = woP r q air rate off
theorem say_iff {z : Int} : SayP t r z ↔ ∃ q, KiIn t q ∧ SayK r q z := by
 constructor
 ·
  rintro ⟨q, a, b, c, h1, h2⟩; exact ⟨q, h1, a, b, c, h2⟩
 ·
  rintro ⟨q, h1, a, b, c, h2⟩; exact ⟨q, a, b, c, h1, h2⟩
def bareP (r : Rd) (q : Ki) : Rg := ⟨woP r q r.air.hi r.rate.lo (-r.err), woP r q r.air.lo r.rate.hi r.err⟩
theorem bare_ends (hq : KiBd q) (hr : RdBd r) : EndsOf (SayK r q) (bareP r q).lo (bareP r q).hi := by
 have h1 := hr.air; have h2 := hr.rate; have h3 := hr.err
 refine ⟨⟨_, _, _, ⟨h1.2.1, Int.le_refl _⟩, ⟨Int.le_refl _, h2.2.1⟩, ⟨Int.le_refl _, by omega⟩, rfl⟩, ⟨_, _, _, ⟨Int.le_refl _, h1.2.1⟩, ⟨h2.2.1, Int.le_refl _⟩, ⟨by omega, Int.le_refl _⟩, rfl⟩, ?_⟩
 rintro z ⟨air, rate, off, ha, hra, ho, rfl⟩
 have e1 := stem_air (r := r) hr.bare.1 hq.k.1 ha.1
 have e2 := stem_air (r := r) hr.bare.1 hq.k.1 ha.2
 have e3 : r.rate.lo * q.lag ≤ rate * q.lag := Int.mul_le_mul_of_nonneg_right hra.1 hq.lag.1
 have e4 : rate * q.lag ≤ r.rate.hi * q.lag := Int.mul_le_mul_of_nonneg_right hra.2 hq.lag.1
 unfold bareP woP
 try simp only
 omega
end

def WideIs (S : Int → Prop) (o : Rg) : Prop := (∀ z, S z → o.lo ≤ z ∧ z ≤ o.hi) ∧ (o.lo = 1073741824 ∨ S o.lo) ∧ (o.hi = -1073741824 ∨ S o.hi)
theorem WideIs.congr {S S' : Int → Prop} {o : Rg} (h : WideIs S o) (e : ∀ z, S z ↔ S' z) : WideIs S' o :=
 ⟨fun z hz => h.1 z ((e z).2 hz), h.2.1.imp id (e _).1, h.2.2.imp id (e _).1⟩
theorem WideIs.ends {S : Int → Prop} {o : Rg} (h : WideIs S o) {z : Int} (hz : S z) (hb : ∀ z, S z → -1000000 ≤ z ∧ z ≤ 1000000) : EndsOf S o.lo o.hi := by
 obtain ⟨h1, h2, h3⟩ := h
 have e := h1 z hz
 have e2 := hb z hz
 refine ⟨h2.resolve_left (by omega), h3.resolve_left (by omega), h1⟩
theorem WideIs.bd {S : Int → Prop} {o : Rg} (h : WideIs S o) (hb : ∀ z, S z → -1000000 ≤ z ∧ z ≤ 1000000) : (-1000000 ≤ o.lo ∧ o.lo ≤ 1073741824) ∧ (-1073741824 ≤ o.hi ∧ o.hi ≤ 1000000) := by
 obtain ⟨h1, h2, h3⟩ := h
 constructor
 ·
  rcases h2 with h2 | h2
  ·
   omega
  ·
   have := hb _ h2; omega
 ·
  rcases h3 with h3 | h3
  ·
   omega
  ·
   have := hb _ h3; omega
def wdTo (f : Nat → Int) : Nat → Rg
 | 0 => ⟨1073741824, -1073741824⟩
 | n + 1 => ⟨min (wdTo f n).lo (f n), max (wdTo f n).hi (f n)⟩
section
variable {t : Tb} {r : Rd} {q : Ki}
def KiBef (t : Tb) (K L S : Int) (q : Ki) : Prop := KiIn t q ∧ (q.k < K ∨ q.k = K ∧ (q.lag < L ∨ q.lag = L ∧ q.sq < S))
def BareEnd (t : Tb) (r : Rd) (K L S : Int) (z : Int) : Prop := ∃ q, KiBef t K L S q ∧ (z = (bareP r q).lo ∨ z = (bareP r q).hi)
theorem bef_step {K L S : Int} (hK : t.k.lo ≤ K ∧ K ≤ t.k.hi) (hL : t.lag.lo ≤ L ∧ L ≤ t.lag.hi) (hS : t.sq.lo ≤ S ∧ S ≤ t.sq.hi) (q : Ki) : KiBef t K L (S + 1) q ↔ KiBef t K L S q ∨ q = ⟨K, L, S⟩ := by
 unfold KiBef
 constructor
 ·
  rintro ⟨h1, h2⟩
  by_cases h3 : q.k = K ∧ q.lag = L ∧ q.sq = S
  ·
   right
   obtain ⟨a, b, c⟩ := q
   obtain ⟨rfl, rfl, rfl⟩ := h3
   rfl
  ·
   left; exact ⟨h1, by omega⟩
 ·
  rintro (⟨h1, h2⟩ | rfl)
  ·
   exact ⟨h1, by omega⟩
  ·
   exact ⟨⟨hK, hL, hS⟩, .inr ⟨rfl, .inr ⟨rfl, by show S < S + 1; omega⟩⟩⟩
theorem bef_row {K L S : Int} (hS : t.sq.hi < S) (q : Ki) : KiBef t K L S q ↔ KiBef t K (L + 1) t.sq.lo q := by
 unfold KiBef
 refine and_congr_right fun h1 => ?_
 have := h1.sq
 omega
theorem bef_plane {K L S : Int} (hL : t.lag.hi < L) (q : Ki) : KiBef t K L S q ↔ KiBef t (K + 1) t.lag.lo t.sq.lo q := by
 unfold KiBef
 refine and_congr_right fun h1 => ?_
 have := h1.lag; have := h1.sq
 omega
theorem bef_all {K L S : Int} (hK : t.k.hi < K) (q : Ki) : KiBef t K L S q ↔ KiIn t q := by
 unfold KiBef
 refine ⟨fun h => h.1, fun h1 => ⟨h1, ?_⟩⟩
 have := h1.k
 omega
def corK (t : Tb) (n : Nat) : Ki := ⟨endOf t.k n, endOf t.lag (n / 2), endOf t.sq (n / 4)⟩
def corP (t : Tb) (r : Rd) (n : Nat) : Int := woP r (corK t n) (endOf r.air (n / 8)) (endOf r.rate (n / 16)) 0
def corTo (t : Tb) (r : Rd) : Nat → Rg
 | 0 => ⟨1073741824, -1073741824⟩
 | n + 1 => ⟨min (corTo t r n).lo (corP t r n - r.err), max (corTo t r n).hi (corP t r n + r.err)⟩
end
end Go.Proofs.Ytkaogjhnogkcdaa
end

section
namespace Go.Proofs.Ytkaogjhnogkcdaa

def someTo (f : Nat → Bool) (n : Nat) : Bool := !(allTo (fun k => !f k) n)
theorem someTo_iff {f : Nat → Bool} {n : Nat} : someTo f n = true ↔ ∃ k, k < n ∧ f k = true := by
 unfold someTo
 constructor
 ·
  intro h
  refine Classical.byContradiction fun hc => ?_
  have : allTo (fun k => !f k) n = true := allTo_iff.2 fun k hk => by
   cases hf : f k
   ·
    rfl
   ·
    exact absurd ⟨k, hk, hf⟩ hc
  rw [this] at h; cases h
 ·
  rintro ⟨k, hk, hf⟩
  rw [allTo_false hk (by rw [hf]; rfl)]; rfl
theorem someTo_false {f : Nat → Bool} {n : Nat} : someTo f n = false ↔ ∀ k, k < n → f k = false := by
 unfold someTo
 rw [Bool.not_eq_false', allTo_iff]
 exact forall_congr' fun k => forall_congr' fun _ => by simp

def gE (l : List Rd) (k : Nat) : Rd := l.getD k ⟨0, 0, 0, 0, ⟨0, 0⟩, ⟨0, 0⟩, 0, false⟩
def sayAt (r : Rd) (q : Ki) (n rate : Int) : Bool := inB n (spanP r q rate).lo (spanP r q rate).hi
def saysB (r : Rd) (q : Ki) (n : Int) : Bool := someTo (fun j => sayAt r q n (r.rate.lo + (j : Int))) (r.rate.hi - r.rate.lo + 1).toNat
theorem says_iff {r : Rd} {q : Ki} {n : Int} : saysB r q n = true ↔ ∃ rate, (r.rate.lo ≤ rate ∧ rate ≤ r.rate.hi) ∧ (spanP r q rate).lo ≤ n ∧ n ≤ (spanP r q rate).hi := by
 unfold saysB
 rw [someTo_iff]
 constructor
 ·
  rintro ⟨j, hj, h⟩
  exact ⟨_, by omega, inB_iff.1 h⟩
 ·
  rintro ⟨rate, h1, h2⟩
  refine ⟨(rate - r.rate.lo).toNat, by omega, ?_⟩
  rw [show r.rate.lo + ((rate - r.rate.lo).toNat : Int) = rate by omega]
  exact inB_iff.2 h2
def stillR (r : Rd) : Rd := { r with rate := ⟨0, 0⟩ }
section
variable {t : Tb} {r : Rd} {q : Ki}
theorem says_bare (hq : KiBd q) (hr : RdBd r) {n : Int} (h : saysB r q n = true) : (bareP r q).lo ≤ n ∧ n ≤ (bareP r q).hi := by
 obtain ⟨rate, hra, h1, h2⟩ := says_iff.1 h
 have h3 := hr.air; have h4 := hr.err
 have a1 := (bare_ends hq hr).2.2 (woP r q r.air.lo rate (-r.err)) ⟨_, _, _, by omega, hra, by omega, rfl⟩
 have a2 := (bare_ends hq hr).2.2 (woP r q r.air.lo rate r.err) ⟨_, _, _, by omega, hra, by omega, rfl⟩
 have a3 := (bare_ends hq hr).2.2 (woP r q r.air.hi rate (-r.err)) ⟨_, _, _, by omega, hra, by omega, rfl⟩
 have a4 := (bare_ends hq hr).2.2 (woP r q r.air.hi rate r.err) ⟨_, _, _, by omega, hra, by omega, rfl⟩
 rw [woP_off] at a1 a2 a3 a4
 unfold spanP at h1 h2
 simp only at h1 h2
 omega
theorem says_bnd (ht : TbBd t) (hr : RdBd r) (hq : KiIn t q) {n : Int} (h : saysB r q n = true) : (bndP t r).lo ≤ n ∧ n ≤ (bndP t r).hi := by
 have h1 := says_bare (hq.bd ht) hr h
 have h2 := bare_ends (hq.bd ht) hr
 have h3 := (bnd_ends ht hr).2.2 _ (say_iff.2 ⟨q, hq, h2.1⟩)
 have h4 := (bnd_ends ht hr).2.2 _ (say_iff.2 ⟨q, hq, h2.2.1⟩)
 omega
end

def sayAll (l : List Rd) (q : Ki) (n : Int) : Bool := allTo (fun k => saysB (gE l k) q n) l.length
theorem sayAll_iff {l : List Rd} {q : Ki} {n : Int} : sayAll l q n = true ↔ ∀ k, k < l.length → saysB (gE l k) q n = true := allTo_iff
def SameK (t : Tb) (l : List Rd) (n : Int) : Prop := ∃ q, KiIn t q ∧ sayAll l q n = true
def RdsBd (l : List Rd) : Prop := ∀ k, k < l.length → RdBd (gE l k)

def LeftIs (l : List Rd) (q : Ki) (a N : Int) : Option Rg → Prop
 | none => ∀ n, a ≤ n → n < N → sayAll l q n = false
 | some R => EndsOf (fun n => (a ≤ n ∧ n < N) ∧ sayAll l q n = true) R.lo R.hi
theorem left_none {l : List Rd} {q : Ki} {a : Int} : LeftIs l q a a none := fun n h1 h2 => by omega
theorem left_no {l : List Rd} {q : Ki} {a N : Int} {o : Option Rg} (h : LeftIs l q a N o) (hn : sayAll l q N = false) : LeftIs l q a (N + 1) o := by
 cases o with
 | none =>
  intro n h1 h2
  by_cases e : n = N
  ·
   rw [e]; exact hn
  ·
   exact h n h1 (by omega)
 | some R =>
  show EndsOf (fun n => (a ≤ n ∧ n < N + 1) ∧ sayAll l q n = true) R.lo R.hi
  refine EndsOf.congr (Z := fun n => (a ≤ n ∧ n < N) ∧ sayAll l q n = true) h fun z => ⟨fun ⟨h1, h2⟩ => ⟨by omega, h2⟩, fun ⟨h1, h2⟩ => ⟨?_, h2⟩⟩
  have : z ≠ N := fun e => by rw [e, hn] at h2; cases h2
  omega
theorem left_yes {l : List Rd} {q : Ki} {a N : Int} {o : Option Rg} (h : LeftIs l q a N o) (ha : a ≤ N) (hn : sayAll l q N = true) : LeftIs l q a (N + 1) (some ⟨(match o with | none => N | some R => R.lo), N⟩) := by
 cases o with
 | none =>
  refine ⟨⟨by (try simp only); omega, hn⟩, ⟨by (try simp only); omega, hn⟩, fun z ⟨h1, h2⟩ => ?_⟩
  have : z = N := Classical.byContradiction fun e => by
   have := h z h1.1 (by omega)
   rw [this] at h2; cases h2
  (try simp only); omega
 | some R =>
  obtain ⟨h1, h2, h3⟩ := h
  refine ⟨⟨by have := h1.1; simp only; omega, h1.2⟩, ⟨by (try simp only); omega, hn⟩, fun z ⟨h4, h5⟩ => ?_⟩
  by_cases e : z = N
  ·
   have := h1.1; simp only; omega
  ·
   have := h3 z ⟨by omega, h5⟩
   have := h2.1
   (try simp only); omega

section
variable {t : Tb} {l : List Rd}
theorem sayAll_bnd (ht : TbBd t) (hl : RdsBd l) {q : Ki} (hq : KiIn t q) {n : Int} (h : sayAll l q n = true) {k : Nat} (hk : k < l.length) : (bndP t (gE l k)).lo ≤ n ∧ n ≤ (bndP t (gE l k)).hi := says_bnd ht (hl k hk) hq (sayAll_iff.1 h k hk)
def SameB (t : Tb) (l : List Rd) (K L S N : Int) (q : Ki) (n : Int) : Prop := sayAll l q n = true ∧ (KiBef t K L S q ∨ KiIn t q ∧ q = ⟨K, L, S⟩ ∧ n < N)
def SameE (t : Tb) (l : List Rd) (z : Rg) (K L S N : Int) (x : Int) : Prop := ∃ q n, SameB t l K L S N q n ∧ (x = n - z.hi ∨ x = n - z.lo)
end

def lastTo (l : List Ic) (d : Int) : Nat → Int
 | 0 => 0
 | k + 1 => if (gC l k).day ≤ d then max (lastTo l d k) (gC l k).day else lastTo l d k
def staleB (t : Tb) (l : List Ic) (d : Int) : Bool := decide (t.term < d - lastTo l d l.length)
theorem lastTo_bd {l : List Ic} {d : Int} (hd : 0 ≤ d) : ∀ {k : Nat}, 0 ≤ lastTo l d k ∧ lastTo l d k ≤ d
 | 0 => ⟨Int.le_refl _, hd⟩
 | k + 1 => by
  have := lastTo_bd (l := l) hd (k := k)
  rw [lastTo]
  split <;> omega

def iceAt (b : Rg) (e : Nat) : Bool := decide (max (b.hi - (e : Int)) (-2000) ≤ min (b.lo + (e : Int)) 2000)
def iceE (b : Rg) : Int := firstOf (iceAt b) 21
def iceZ (b : Rg) : Int := max (b.hi - iceE b) (-2000)
def useE (t : Tb) (h : List Rg) (l : List Ic) : Int := if ckTube t ≠ 0 then ckTube t else iced t.g h l
def askE (t : Tb) (h : List Rg) (l : List Ic) (r : Rd) : Int := if useE t h l ≠ 0 then useE t h l else if rdOk h.length r = false then 2 else 0
def refE (t : Tb) (l : List Ic) (r : Rd) (ag : Bool) : Int := if r.broken = true then 8 else if staleB t l r.day = true then 11 else if ag = false then 9 else 0
def corP2 (t : Tb) (r : Rd) (z : Rg) : Rg := ⟨(bndP t r).lo - z.hi, (bndP t r).hi - z.lo⟩
end Go.Proofs.Ytkaogjhnogkcdaa
end

section
namespace Go.Proofs.Ytkaogjhnogkcdaa
open Go.RowKit
attribute [local go_sem] Ex.cell? Ex.frozen?

set_option maxRecDepth 100000 in
set_option maxHeartbeats 1600000 in
theorem sr_between (x y : Int) (w : World) :
  Calls Try.prog 9 #[.int .i64 x, .int .i64 y] w fun e w' => e = .returned (.agg #[.int .i64 x, .int .i64 y]) ∧ Below w.heap.size w w' := by
 go_enter Try.func9, Try.ntmps9
 go_upto_region 1 with fail
 show Code.wp _ _ _ _ _
 refine box1 (K := fun V => Code.wp _ _ _ _ V) ?_
 intro V hb1 q1
 obtain ⟨pq1, hpq1⟩ : ∃ p, w.heap.size = p := ⟨_, rfl⟩
 rw [hpq1] at q1 ⊢
 have hp1 : w.heap.size ≤ pq1 := by omega
 clear hpq1
 have a0 : V.cell? ⟨pq1, 0, none⟩ = some (.int .i64 0) := q1.cell 0
 have a1 : V.cell? ⟨pq1, 1, none⟩ = some (.int .i64 0) := q1.cell 1
 have la := q1.lt
 have fr := q1.frozen0
 have m3 := (q1.set_ 0 (.int .i64 x)).set_ 1 (.int .i64 y)
 simp only [List.setIfInBounds_toArray, List.set_cons_zero, List.set_cons_succ] at m3
 go_wp2
 refine bodyPost_ret (results_cell_row rfl _ _ _ 23 #[.int .i64 x, .int .i64 y] (0, 0) _ rfl m3 rfl rfl rfl) rfl ?_
 exact ⟨rfl, ex_set (p := ⟨pq1, 1, none⟩) (ex_set (p := ⟨pq1, 0, none⟩) (hb1) hp1 _) hp1 _⟩

end Go.Proofs.Ytkaogjhnogkcdaa
end
