/- The law StemTogether (plain): readings of one bath that are made true. · Stem's law: Readings (walk). · Rows of readings of the call's own, and a slice of one element (walks). · Stem's reference: Stem and Play of a reading that may show more than 5000. -/
import Derived.Test.YtkaogjhnogkcdaaGreatJ24
import Derived.Test.YtkaogjhnogkcdaaGreatJ25
import Derived.Test.YtkaogjhnogkcdaaGreatJ21
import Derived.Test.YtkaogjhnogkcdaaGreatJ10
import Derived.Test.YtkaogjhnogkcdaaGreatJ12
import Derived.Test.YtkaogjhnogkcdaaGreatJ13
set_option linter.unusedVariables false
set_option linter.unusedSimpArgs false
set_option linter.unusedSectionVars false
section
namespace Go.Proofs.YtkaogjhnogkcdaaGreat
open Go.RowKit

structure Tog (n : Nat) (r : Rd) (q : Ki) (n0 : Int) (L : List Rd) : Prop where
 ok : ∀ k, k < L.length → rdOk n (gE L k) = true
 day : ∀ k, k < L.length → (gE L k).day = r.day
 whole : ∀ k, k < L.length → (gE L k).broken = false
 says : ∀ k, k < L.length → saysB (gE L k) q n0 = true
theorem gE_one (y : Rd) : gE [y] 0 = y := rfl
theorem gE_app {L : List Rd} {y : Rd} {k : Nat} (hk : k < L.length) : gE (L ++ [y]) k = gE L k := by simp [gE, List.getElem?_append, hk]
theorem gE_last {L : List Rd} {y : Rd} : gE (L ++ [y]) L.length = y := by simp [gE]
theorem Tog.one {n : Nat} {r : Rd} {q : Ki} {n0 : Int} {y : Rd} (h1 : rdOk n y = true) (h2 : y.day = r.day) (h3 : y.broken = false) (h4 : saysB y q n0 = true) : Tog n r q n0 [y] := by
 have e : ∀ k, k < [y].length → gE [y] k = y := fun k hk => by
  have : k = 0 := by simpa using hk
  subst this; rfl
 exact ⟨fun k hk => by rw [e k hk]; exact h1, fun k hk => by rw [e k hk]; exact h2, fun k hk => by rw [e k hk]; exact h3, fun k hk => by rw [e k hk]; exact h4⟩
theorem Tog.snoc {n : Nat} {r : Rd} {q : Ki} {n0 : Int} {L : List Rd} {y : Rd} (h : Tog n r q n0 L) (h1 : rdOk n y = true) (h2 : y.day = r.day) (h3 : y.broken = false) (h4 : saysB y q n0 = true) : Tog n r q n0 (L ++ [y]) := by
 have e : ∀ k, k < (L ++ [y]).length → k < L.length ∨ k = L.length := fun k hk => by
  rw [List.length_append, List.length_singleton] at hk
  omega
 refine ⟨fun k hk => ?_, fun k hk => ?_, fun k hk => ?_, fun k hk => ?_⟩
 ·
  rcases e k hk with h' | rfl
  ·
   rw [gE_app h']; exact h.ok k h'
  ·
   rw [gE_last]; exact h1
 ·
  rcases e k hk with h' | rfl
  ·
   rw [gE_app h']; exact h.day k h'
  ·
   rw [gE_last]; exact h2
 ·
  rcases e k hk with h' | rfl
  ·
   rw [gE_app h']; exact h.whole k h'
  ·
   rw [gE_last]; exact h3
 ·
  rcases e k hk with h' | rfl
  ·
   rw [gE_app h']; exact h.says k h'
  ·
   rw [gE_last]; exact h4
theorem Tog.single {n : Nat} {r : Rd} {q : Ki} {n0 : Int} {L : List Rd} (h : Tog n r q n0 L) {k : Nat} (hk : k < L.length) : Tog n r q n0 [gE L k] := .one (h.ok k hk) (h.day k hk) (h.whole k hk) (h.says k hk)
theorem Tog.bd {n : Nat} {r : Rd} {q : Ki} {n0 : Int} {L : List Rd} (h : Tog n r q n0 L) {k : Nat} (hk : k < L.length) : RdBd (gE L k) := (rdOk_iff.1 (h.ok k hk)).2
theorem Tog.rds {n : Nat} {r : Rd} {q : Ki} {n0 : Int} {L : List Rd} (h : Tog n r q n0 L) : RdsBd L := fun _ hk => h.bd hk
section
variable {t : Tb} {h : List Rg} {l : List Ic} {zl : List Int} {r : Rd} {q : Ki} {n0 : Int} {L : List Rd}
theorem Tog.same (hT : Tog h.length r q n0 L) (hl : LivOk t h l zl) (hq : KiIn t q) (h0 : 0 < L.length) (h5 : L.length ≤ 5) (hs : staleB t l r.day = false) {R : Rg} {ev : Int} (hv : SamV t h l L R ev) :
  ev = 0 ∧ ∃ zs, ZsOf t.g h l zs ∧ ∃ a b, EndsOf (SameK t L) a b ∧ R = ⟨a - (gR zs r.day.toNat).hi, b - (gR zs r.day.toNat).lo⟩ := by
 have hd0 := hT.day 0 h0
 have hb : bathE t l (h.length : Int) L (agreeB t.g h l off0) = 0 := by
  rw [bath_4 (by omega) (by omega) (allTo_iff.2 fun k hk => dayB_iff.2 ⟨hT.ok k hk, by rw [hT.day k hk, hd0]⟩) (allTo_iff.2 fun k hk => by rw [hT.whole k hk]; rfl), hl.ag]
  exact ref_of (hT.whole 0 h0) (by rw [hd0]; exact hs)
 have hK : SameK t L n0 := ⟨q, hq, sayAll_iff.2 hT.says⟩
 rcases hv with ⟨h1, _⟩ | ⟨_, h1, _⟩ | ⟨_, _, zs, hz, h1⟩
 ·
  exact absurd hl.use0 h1
 ·
  exact absurd hb h1
 ·
  rcases h1 with ⟨h1, _⟩ | ⟨a, b, he, h2, h3⟩
  ·
   exact absurd ⟨_, hK⟩ h1
  ·
   exact ⟨h2, zs, hz, a, b, he, by rw [h3, hd0]⟩
theorem Tog.ends (hT : Tog h.length r q n0 L) (hl : LivOk t h l zl) {a b : Int} (he : EndsOf (SameK t L) a b) {k : Nat} (hk : k < L.length) : (bndP t (gE L k)).lo ≤ a ∧ b ≤ (bndP t (gE L k)).hi := by
 obtain ⟨q1, hq1, h1⟩ := he.1
 obtain ⟨q2, hq2, h2⟩ := he.2.1
 exact ⟨(sayAll_bnd hl.tb hT.rds hq1 h1 hk).1, (sayAll_bnd hl.tb hT.rds hq2 h2 hk).2⟩
theorem one_ends (hl : LivOk t h l zl) {y : Rd} (hy : RdBd y) {a b : Int} (he : EndsOf (SameK t [y]) a b) : a = (bndP t y).lo ∧ b = (bndP t y).hi := by
 obtain ⟨⟨q1, hq1, h1⟩, ⟨q2, hq2, h2⟩⟩ := bnd_says hl.tb hy
 have hs : ∀ {q n}, saysB y q n = true → sayAll [y] q n = true := fun hh => sayAll_iff.2 fun k hk => by
  have : k = 0 := by simpa using hk
  subst this; exact hh
 have hr : RdsBd [y] := fun k hk => by
  have : k = 0 := by simpa using hk
  subst this; exact hy
 have a1 := he.2.2 _ ⟨q1, hq1, hs h1⟩
 have a2 := he.2.2 _ ⟨q2, hq2, hs h2⟩
 obtain ⟨q3, hq3, h3⟩ := he.1
 obtain ⟨q4, hq4, h4⟩ := he.2.1
 have a3 := sayAll_bnd hl.tb hr hq3 h3 (k := 0) (by simp)
 have a4 := sayAll_bnd hl.tb hr hq4 h4 (k := 0) (by simp)
 rw [gE_one] at a3 a4
 omega
structure TogR (t : Tb) (L : List Rd) (z : Rg) (R : Rg) (warm : Int) : Prop where
 lo : R.lo ≤ warm
 hi : warm ≤ R.hi
 all : ∀ k, k < L.length → (bndP t (gE L k)).lo - z.hi ≤ R.lo ∧ R.hi ≤ (bndP t (gE L k)).hi - z.lo
theorem tog_s {k : Nat} (hT : Tog h.length r q n0 L) (hl : LivOk t h l zl) (hq : KiIn t q) (h0 : 0 < L.length) (h5 : L.length ≤ 5) (hs : staleB t l r.day = false) (hk : r.day.toNat = k) (hkl : k < h.length) {R : Rg} {ev : Int} (hv : SamV t h l L R ev) :
  ev = 0 ∧ ∃ zs, ZsOf t.g h l zs ∧ TogR t L (gR zs k) R (n0 - gI zl k) := by
 obtain ⟨e, zs, hz, a, b, he, hR⟩ := hT.same hl hq h0 h5 hs hv
 subst hk
 have hi : (gR zs r.day.toNat).lo ≤ gI zl r.day.toNat ∧ gI zl r.day.toNat ≤ (gR zs r.day.toNat).hi := by
  obtain ⟨t1, t2, t3, ht, hzl, ha⟩ := hl.truth
  subst hzl
  exact AllOf.within hl.ok ht ha hz hkl
 have hn := he.2.2 n0 ⟨q, hq, sayAll_iff.2 hT.says⟩
 subst hR
 refine ⟨e, zs, hz, by simp only; omega, by simp only; omega, fun j hj => ?_⟩
 have := hT.ends hl he hj
 simp only
 omega
theorem tog_c {k j : Nat} (hT : Tog h.length r q n0 L) (hl : LivOk t h l zl) (hs : staleB t l r.day = false) (hk : r.day.toNat = k) {zs : List Rg} (hz : ZsOf t.g h l zs) (hj : j < L.length) {R : Rg} {ev : Int} (hv : CorV t h l (gE L j) R ev) :
  ev = 0 ∧ R.lo = (bndP t (gE L j)).lo - (gR zs k).hi ∧ R.hi = (bndP t (gE L j)).hi - (gR zs k).lo :=
 cor_ends (ask_of hl.use0 (hT.ok j hj)) (by rw [hl.ag]; exact ref_of (hT.whole j hj) (by rw [hT.day j hj]; exact hs)) hz (by rw [hT.day j hj]; exact hk) hv
theorem tog_d {k j : Nat} (hT : Tog h.length r q n0 L) (hl : LivOk t h l zl) (hq : KiIn t q) (hs : staleB t l r.day = false) (hk : r.day.toNat = k) {zs : List Rg} (hz : ZsOf t.g h l zs) (hj : j < L.length) {R : Rg} {ev : Int} (hv : SamV t h l [gE L j] R ev) :
  ev = 0 ∧ R.lo = (bndP t (gE L j)).lo - (gR zs k).hi ∧ R.hi = (bndP t (gE L j)).hi - (gR zs k).lo := by
 obtain ⟨e, zs', hz', a, b, he, hR⟩ := (hT.single hj).same hl hq (by simp) (by simp) hs hv
 obtain rfl := ZsOf.uniq hz hz'
 obtain ⟨rfl, rfl⟩ := one_ends hl (hT.bd hj) he
 subst hk
 rw [hR]
 exact ⟨e, rfl, rfl⟩
theorem made_says {x : Tx} {y : Rd} {n0 : Int} (hy : RdBd y) (ht : TbBd t) (hx : TxIn t y x) (hp : playW y x = n0 - x.zero) : saysB y x.ki n0 = true := by
 have := truth_says hy hx.air hx.rate hx.off (hx.ki.bd ht)
 unfold playW at hp
 rwa [show woP y x.ki x.air x.rate x.off = n0 by omega] at this
end
end Go.Proofs.YtkaogjhnogkcdaaGreat
end

section
namespace Go.Proofs.YtkaogjhnogkcdaaGreat
open Go.RowKit
attribute [local go_sem] Ex.cell? Ex.frozen?

theorem rdS_info : (Tryz.prog.info? 52).map (fun i => (i.zero, i.size, i.bytes)) = some (some (.agg #[.int .i64 0, .int .i64 0, .int .i64 0, .int .i64 0, .int .i64 0, .int .i64 0, .int .i64 0, .int .i64 0, .int .i64 0, .bool false]), 10, 80) := by kernel_rfl
theorem own_Rd {l : List Rd} {w : World} {base : Nat} {e : TypeId} {v : Value} (h : w.ownsRow base e 10 v l.length (l.flatMap cRd)) : ∃ A c, v = .slice A l.length c ∧ l.length ≤ c ∧ c ≤ maxLen ∧ SlAt w w.heap.size 10 A l.length (fE l) :=
  own_flat (sz := 10) (l := l) (fun _ => rfl) (fun k hk j hj => by
    have e := gE_at hk
    match j, hj with
    | 0, _ => simp [cRd, fE, cE, e]
    | 1, _ => simp [cRd, fE, cE, e]
    | 2, _ => simp [cRd, fE, cE, e]
    | 3, _ => simp [cRd, fE, cE, e]
    | 4, _ => simp [cRd, fE, cE, e]
    | 5, _ => simp [cRd, fE, cE, e]
    | 6, _ => simp [cRd, fE, cE, e]
    | 7, _ => simp [cRd, fE, cE, e]
    | 8, _ => simp [cRd, fE, cE, e]
    | 9, _ => simp [cRd, fE, cE, e]) rfl h
set_option maxRecDepth 100000 in
set_option maxHeartbeats 3200000 in
theorem sl_readings (Ar : Option Addr) (cr : Nat) (rs : List Rd) (w : World) (hl : rs.length ≤ 1000) (hs : SlAt w w.heap.size 10 Ar rs.length (fE rs)) :
    Calls Tryz.prog 27 #[.slice Ar rs.length cr] w fun e w' => (∃ A c, e = .returned (.slice A rs.length c) ∧ rs.length ≤ c ∧ c ≤ maxLen ∧ SlAt w' w'.heap.size 10 A rs.length (fE rs)) ∧ Below w.heap.size w w' := by
  obtain ⟨i0, hi0, hz0, hz1, hz2⟩ := info_parts rdS_info
  have HI := Lib.hid hi0
  clear hi0
  go_enter Tryz.func27, Tryz.ntmps27
  go_wp2_with fail
  go_loopw [3, 4] (fun v i wr => ∃ k : Nat, k ≤ rs.length ∧ i = .int .i64 k ∧ Below w.heap.size w wr ∧ wr.ownsRow w.heap.size 52 10 v (rs.take k).length ((rs.take k).flatMap cRd))
    (fun _ i _ => rs.length - (intOf i).toNat)
  case atStart => exact ⟨0, by omega, rfl, Below.refl _ _, ⟨rfl, .inl ⟨rfl, rfl⟩⟩⟩
  case round =>
    obtain ⟨k, hk, rfl, hbl, hown⟩ := hrel
    by_cases hlt : k < rs.length
    · obtain ⟨b, off, rfl, hb, g0, g1, g2, g3, g4, g5, g6, g7, g8, g9⟩ := IsRds.at10 (hs.below hbl) hlt
      have HE := Lib.hid (gE_at hlt)
      go_wp2_with fail
      refine (sr_Reading (gE rs k) _).mono ?_
      rintro e w2 ⟨rfl, hb2⟩
      have hB2 := ex_trans hbl hb2
      have y4 := (own_below hown hb2).alloc (.cells #[.int .i64 (gE rs k).day, .int .i64 (gE rs k).shown, .int .i64 (gE rs k).err, .int .i64 (gE rs k).bare, .int .i64 (gE rs k).air.lo, .int .i64 (gE rs k).air.hi, .int .i64 (gE rs k).rate.lo, .int .i64 (gE rs k).rate.hi, .int .i64 (gE rs k).deep, .bool (gE rs k).broken] 52)
      have hlen : (rs.take k).length = k := by rw [List.length_take]; omega
      have c63 : (rs.take k).length + 1 ≤ maxLen := by unfold maxLen; omega
      have cby : ((rs.take k).length + 1) * 80 ≤ 140737488355328 := by omega
      have hbase : w.heap.size ≤ (w2.alloc (.cells #[.int .i64 (gE rs k).day, .int .i64 (gE rs k).shown, .int .i64 (gE rs k).err, .int .i64 (gE rs k).bare, .int .i64 (gE rs k).air.lo, .int .i64 (gE rs k).air.hi, .int .i64 (gE rs k).rate.lo, .int .i64 (gE rs k).rate.hi, .int .i64 (gE rs k).deep, .bool (gE rs k).broken] 52)).heap.size := by have := hB2.size; simp; omega
      have HLEN := Lib.hid hlen
      clear hlen g0 g1 g2 g3 g4 g5 g6 g7 g8 g9
      go_wp2_with (at_builtin; refine wpList_append_lies _ rfl _ _ _ rfl w.heap.size 52 i0 _ 10 80 Tryz.underlying63 HI.out hz0 hz1 hz2 rfl (by omega) u3 _ _ rfl y4 ⟨w2.heap.size, 0, none⟩ 1 1 [.int .i64 (gE rs k).day, .int .i64 (gE rs k).shown, .int .i64 (gE rs k).err, .int .i64 (gE rs k).bare, .int .i64 (gE rs k).air.lo, .int .i64 (gE rs k).air.hi, .int .i64 (gE rs k).rate.lo, .int .i64 (gE rs k).rate.hi, .int .i64 (gE rs k).deep, .bool (gE rs k).broken] rfl rfl (World.news_of_block (heap_alloc_new w2 _)) (by simp [Value.oneCell']) (by omega) c63 cby hbase (w2.heap.size + 1) (by simp) ?_; intro gg cap w1 hown' hgrow hat hlt')
      go_roundw
      case rel => exact ⟨k + 1, by omega, by go_num, (ex_alloc hB2 _).grown hgrow (by simp; have := hB2.size; omega) (fun j hj => own_ge hown hj), flat_snoc hlt (by rw [HLEN.out]) (by rw [← HE.out]; rw [HLEN.out] at hown'; exact hown')⟩
      case measure => simp [intOf]; omega
    · have HK : Hid (k = rs.length) := Lib.hid (by omega)
      go_wp2
      go_ret
      rw [HK.out, List.take_length] at hown
      obtain ⟨A, c, rfl, h1, h2, h3⟩ := own_Rd hown
      exact ⟨⟨A, c, rfl, h1, h2, h3⟩, hbl⟩

end Go.Proofs.YtkaogjhnogkcdaaGreat
end

section
namespace Go.Proofs.YtkaogjhnogkcdaaGreat
open Go.RowKit
attribute [local go_sem] Ex.cell? Ex.frozen?

theorem rd6_info : (Tryz.prog.info? 33).map (fun i => (i.zero, i.size, i.bytes)) = some (some (.agg #[.int .i64 0, .int .i64 0, .int .i64 0, .int .i64 0, .int .i64 0, .int .i64 0, .int .i64 0, .int .i64 0, .int .i64 0, .bool false]), 10, 80) := by kernel_rfl
theorem cRd_len (r : Rd) : (cRd r).length = 10 := rfl
theorem cRd_at (l : List Rd) (k : Nat) (hk : k < l.length) (j : Nat) (hj : j < 10) : (cRd l[k])[j]? = some (fE l k j) := by
 have e := gE_at hk
 match j, hj with
 | 0, _ => simp [cRd, fE, cE, e]
 | 1, _ => simp [cRd, fE, cE, e]
 | 2, _ => simp [cRd, fE, cE, e]
 | 3, _ => simp [cRd, fE, cE, e]
 | 4, _ => simp [cRd, fE, cE, e]
 | 5, _ => simp [cRd, fE, cE, e]
 | 6, _ => simp [cRd, fE, cE, e]
 | 7, _ => simp [cRd, fE, cE, e]
 | 8, _ => simp [cRd, fE, cE, e]
 | 9, _ => simp [cRd, fE, cE, e]
theorem cRd_one (r : Rd) (u : Value) (hu : u ∈ cRd r) : u.oneCell' = true := by
 simp only [cRd, List.mem_cons, List.not_mem_nil, or_false] at hu
 rcases hu with rfl | rfl | rfl | rfl | rfl | rfl | rfl | rfl | rfl | rfl <;> rfl
theorem rd_row (r : Rd) (j : Nat) (hj : j < 10) : (cE r)[j]? = some (fE [r] 0 j) := by
 match j, hj with
 | 0, _ => rfl
 | 1, _ => rfl
 | 2, _ => rfl
 | 3, _ => rfl
 | 4, _ => rfl
 | 5, _ => rfl
 | 6, _ => rfl
 | 7, _ => rfl
 | 8, _ => rfl
 | 9, _ => rfl
theorem own_one {w : World} {base g : Nat} {e : TypeId} {r : Rd} (hb : Blk w g e #[.int .i64 r.day, .int .i64 r.shown, .int .i64 r.err, .int .i64 r.bare, .int .i64 r.air.lo, .int .i64 r.air.hi, .int .i64 r.rate.lo, .int .i64 r.rate.hi, .int .i64 r.deep, .bool r.broken]) (hg : base ≤ g) : w.ownsRow base e 10 (.slice (some ⟨g, 0, none⟩) [r].length 1) [r].length ([r].flatMap cRd) :=
 ⟨rfl, .inr ⟨g, 1, _, rfl, hg, hb, Nat.le_refl _, by unfold maxLen; omega, rfl, rfl⟩⟩
theorem SlAt.single {w : World} {B : Nat} {b o : Nat} {l : List Rd} {k : Nat} (h : SlAt w B 10 (some ⟨b, o, none⟩) l.length (fE l)) (hk : k < l.length) : SlAt w B 10 (some ⟨b, o + k * 10, none⟩) [gE l k].length (fE [gE l k]) := fun _ => by
 obtain ⟨b', o', e, hb, hc⟩ := h (by omega)
 injection e with e
 injection e with e1 e2
 subst e1 e2
 refine ⟨b, o + k * 10, rfl, hb, fun i j hi hj => ?_⟩
 have : i = 0 := by simpa using hi
 subst this
 have := hc k j hk hj
 rw [show o + k * 10 + (0 * 10 + j) = o + (k * 10 + j) by omega]
 exact this
set_option maxRecDepth 100000 in
theorem run_sliceRd (g off n c a : Nat) (ha : a + 1 ≤ n) (hn : n ≤ c) (w : World) : (Instr.sliceAt 60 (.slice (some ⟨g, off, none⟩) n c) (some (.int .i64 (a : Int))) (some (.int .i64 ((a : Int) + 1))) none).run Tryz.prog w = .ok (.slice (some ⟨g, off + a * 10, none⟩) 1 (c - a)) w := by
 have h1 : (a : Int) ≤ (a : Int) + 1 := by omega
 have h2 : (a : Int) + 1 ≤ (c : Int) := by omega
 have h3 : ¬ c = a := by omega
 have h4 : (0 : Int) ≤ (a : Int) := by omega
 have h5 : (0 : Int) ≤ (a : Int) + 1 := by omega
 have h6 : ((a : Int) + 1).toNat = a + 1 := by omega
 have h7 : a + 1 - a = 1 := by omega
 simp [Instr.sliceAt, Instr.slice, go_sem, run_underlying Tryz.underlying60, h1, h2, h3, h4, h5, h6, h7]
set_option maxRecDepth 100000 in
theorem wpQuiet_sliceRd {ops : Array Oper} {C : World → Prop} {Q : Act → Prop} {rest : List Oper} {o : Oper} {a : Act} (hgd : o.guard = none) (x y z : Operand) (hop : o.op = Op.slice 60 x (some y) (some z) none)
  (g off n c i : Nat) (ha : i + 1 ≤ n) (hn : n ≤ c) (hx : a.eval x = .slice (some ⟨g, off, none⟩) n c) (hy : a.eval y = .int .i64 (i : Int)) (hz : a.eval z = .int .i64 ((i : Int) + 1))
  (h : wpQuiet Tryz.prog ops C Q rest (a.put o.dst (.slice (some ⟨g, off + i * 10, none⟩) 1 (c - i)))) : wpQuiet Tryz.prog ops C Q (o :: rest) a := by
 unfold wpQuiet
 rw [if_pos (by simp [Region.wanted, hgd])]
 refine ⟨_, fun w hw => ?_, h⟩
 have hrun := run_sliceRd g off n c i ha hn w
 unfold Oper.quietAt execOp
 simp only [hop, Option.map_some, Option.map_none, hx, hy, hz, Sem.run_bind, hrun, Result.andThen_ok, Sem.run_pure]
 exact ⟨rfl, rfl⟩
end Go.Proofs.YtkaogjhnogkcdaaGreat
end

section
namespace Go.Proofs.YtkaogjhnogkcdaaGreat
open Go.RowKit
attribute [local go_sem] Ex.cell? Ex.frozen?

structure RdW (r : Rd) : Prop where
 shown : -5000 ≤ r.shown ∧ r.shown ≤ 150000
 bare : 0 ≤ r.bare ∧ r.bare ≤ 300
 deep : 0 ≤ r.deep ∧ r.deep ≤ 20
theorem stem_bdW {r : Rd} (hr : RdW r) {k air : Int} (hk : 0 ≤ k ∧ k ≤ 20) (ha : -100 ≤ air ∧ air ≤ 100) :
  (0 ≤ k * r.bare ∧ k * r.bare ≤ 6000) ∧ (-906000000 ≤ k * r.bare * (r.shown - 10 * air) ∧ k * r.bare * (r.shown - 10 * air) ≤ 906000000) ∧ (-9060 ≤ stemP r k air ∧ stemP r k air ≤ 9060) := by
 have h1 := mul_nn hk.1 hk.2 hr.bare.1 hr.bare.2
 have h2 := mul_bd (B := 151000) h1.1 h1.2 (b := r.shown - 10 * air) (by have := hr.shown; omega) (by have := hr.shown; omega)
 have h3 : -906000000 ≤ k * r.bare * (r.shown - 10 * air) ∧ k * r.bare * (r.shown - 10 * air) ≤ 906000000 := by omega
 refine ⟨by omega, h3, ?_⟩
 unfold stemP
 omega
theorem deep_bdW {q : Ki} {r : Rd} (hq : KiBd q) (hr : RdW r) : 0 ≤ q.sq * r.deep ∧ q.sq * r.deep ≤ 60 := by
 have := mul_nn hq.sq.1 hq.sq.2 hr.deep.1 hr.deep.2
 omega
set_option maxRecDepth 100000 in
set_option maxHeartbeats 1600000 in
theorem sr_stemW (r : Rd) (k air : Int) (w : World) (hr : RdW r) (hk : 0 ≤ k ∧ k ≤ 20) (ha : -100 ≤ air ∧ air ≤ 100) :
  Calls Tryz.prog 89 #[.agg #[.int .i64 r.day, .int .i64 r.shown, .int .i64 r.err, .int .i64 r.bare, .int .i64 r.air.lo, .int .i64 r.air.hi, .int .i64 r.rate.lo, .int .i64 r.rate.hi, .int .i64 r.deep, .bool r.broken], .int .i64 k, .int .i64 air] w fun e w' => e = .returned (.int .i64 (stemP r k air)) ∧ Below w.heap.size w w' := by
 obtain ⟨b1, b2, _⟩ := stem_bdW hr hk ha
 have b3 := hr.shown
 go_enter Tryz.func89, Tryz.ntmps89
 go_upto_region 1 with fail
 show Code.wp _ _ _ _ _
 refine box1 (K := fun V => Code.wp _ _ _ _ V) ?_
 intro V hb1 q1
 obtain ⟨pq1, hpq1⟩ : ∃ p, w.heap.size = p := ⟨_, rfl⟩
 rw [hpq1] at q1 ⊢
 have hp1 : w.heap.size ≤ pq1 := by omega
 clear hpq1
 have a0 : V.cell? ⟨pq1, 0, none⟩ = some (.int .i64 r.day) := q1.cell 0
 have a1 : V.cell? ⟨pq1, 1, none⟩ = some (.int .i64 r.shown) := q1.cell 1
 have a2 : V.cell? ⟨pq1, 2, none⟩ = some (.int .i64 r.err) := q1.cell 2
 have a3 : V.cell? ⟨pq1, 3, none⟩ = some (.int .i64 r.bare) := q1.cell 3
 have a4 : V.cell? ⟨pq1, 4, none⟩ = some (.int .i64 r.air.lo) := q1.cell 4
 have a5 : V.cell? ⟨pq1, 5, none⟩ = some (.int .i64 r.air.hi) := q1.cell 5
 have a6 : V.cell? ⟨pq1, 6, none⟩ = some (.int .i64 r.rate.lo) := q1.cell 6
 have a7 : V.cell? ⟨pq1, 7, none⟩ = some (.int .i64 r.rate.hi) := q1.cell 7
 have a8 : V.cell? ⟨pq1, 8, none⟩ = some (.int .i64 r.deep) := q1.cell 8
 have a9 : V.cell? ⟨pq1, 9, none⟩ = some (.bool r.broken) := q1.cell 9
 have la := q1.lt
 go_wp2_with fail
 refine (sr_down _ _ (by omega)).mono ?_
 rintro e w' ⟨rfl, rfl⟩
 go_wp2
 go_ret
 exact ⟨rfl, hb1⟩

set_option maxRecDepth 100000 in
set_option maxHeartbeats 3200000 in
theorem sr_playW (r : Rd) (x : Tx) (w : World) (hr : RdW r) (hk : KiBd x.ki) (ha : -100 ≤ x.air ∧ x.air ≤ 100) (hra : -20 ≤ x.rate ∧ x.rate ≤ 20) (ho : -1000000 ≤ x.off ∧ x.off ≤ 1000000) (hz : -1000000 ≤ x.zero ∧ x.zero ≤ 1000000) :
  Calls Tryz.prog 45 #[.agg #[.int .i64 r.day, .int .i64 r.shown, .int .i64 r.err, .int .i64 r.bare, .int .i64 r.air.lo, .int .i64 r.air.hi, .int .i64 r.rate.lo, .int .i64 r.rate.hi, .int .i64 r.deep, .bool r.broken], .agg #[.int .i64 x.zero, .int .i64 x.k, .int .i64 x.lag, .int .i64 x.sq, .int .i64 x.air, .int .i64 x.rate, .int .i64 x.off]] w fun e w' => e = .returned (.int .i64 (playW r x)) ∧ Below w.heap.size w w' := by
 have b1 := (stem_bdW hr hk.k ha).2.2
 have b2 : -100 ≤ x.rate * x.lag ∧ x.rate * x.lag ≤ 100 := late_bd hk hra
 have b3 : 0 ≤ x.sq * r.deep ∧ x.sq * r.deep ≤ 60 := deep_bdW hk hr
 have b4 := hr.shown
 have hkk : 0 ≤ x.k ∧ x.k ≤ 20 := hk.k
 change -9060 ≤ stemP r x.k x.air ∧ stemP r x.k x.air ≤ 9060 at b1
 have HE := Lib.hid (play_eq r x)
 go_enter Tryz.func45, Tryz.ntmps45
 go_upto_region 1 with fail
 show Code.wp _ _ _ _ _
 refine box2 (K := fun V => Code.wp _ _ _ _ V) ?_
 intro V hb1 q1 q2
 obtain ⟨pq1, hpq1⟩ : ∃ p, w.heap.size = p := ⟨_, rfl⟩
 obtain ⟨pq2, hpq2⟩ : ∃ p, w.heap.size + 1 = p := ⟨_, rfl⟩
 rw [hpq2] at q2 ⊢
 rw [hpq1] at q1 ⊢
 have hp1 : w.heap.size ≤ pq1 := by omega
 have hp2 : w.heap.size ≤ pq2 := by omega
 clear hpq1 hpq2
 have a0 : V.cell? ⟨pq1, 0, none⟩ = some (.int .i64 r.day) := q1.cell 0
 have a1 : V.cell? ⟨pq1, 1, none⟩ = some (.int .i64 r.shown) := q1.cell 1
 have a2 : V.cell? ⟨pq1, 2, none⟩ = some (.int .i64 r.err) := q1.cell 2
 have a3 : V.cell? ⟨pq1, 3, none⟩ = some (.int .i64 r.bare) := q1.cell 3
 have a4 : V.cell? ⟨pq1, 4, none⟩ = some (.int .i64 r.air.lo) := q1.cell 4
 have a5 : V.cell? ⟨pq1, 5, none⟩ = some (.int .i64 r.air.hi) := q1.cell 5
 have a6 : V.cell? ⟨pq1, 6, none⟩ = some (.int .i64 r.rate.lo) := q1.cell 6
 have a7 : V.cell? ⟨pq1, 7, none⟩ = some (.int .i64 r.rate.hi) := q1.cell 7
 have a8 : V.cell? ⟨pq1, 8, none⟩ = some (.int .i64 r.deep) := q1.cell 8
 have a9 : V.cell? ⟨pq1, 9, none⟩ = some (.bool r.broken) := q1.cell 9
 have la := q1.lt
 have b0 : V.cell? ⟨pq2, 0, none⟩ = some (.int .i64 x.zero) := q2.cell 0
 have b1 : V.cell? ⟨pq2, 1, none⟩ = some (.int .i64 x.k) := q2.cell 1
 have b2 : V.cell? ⟨pq2, 2, none⟩ = some (.int .i64 x.lag) := q2.cell 2
 have b3 : V.cell? ⟨pq2, 3, none⟩ = some (.int .i64 x.sq) := q2.cell 3
 have b4 : V.cell? ⟨pq2, 4, none⟩ = some (.int .i64 x.air) := q2.cell 4
 have b5 : V.cell? ⟨pq2, 5, none⟩ = some (.int .i64 x.rate) := q2.cell 5
 have b6 : V.cell? ⟨pq2, 6, none⟩ = some (.int .i64 x.off) := q2.cell 6
 have lb := q2.lt
 go_wp2_with fail
 refine wp_region_ext (by kernel_rfl) (by kernel_rfl) ?_
 repeat (go_big_quiet_step ((go_at_call 89; exact Calls.ext_of (sr_stemW r x.k x.air _ hr hkk ha))))
 refine wpQuiet_nil ?_; intro _ hw'; obtain ⟨X, rfl⟩ := hw'
 go_wp2
 go_ret
 exact ⟨ret_int HE.out, ex_trans hb1 X.h⟩


end Go.Proofs.YtkaogjhnogkcdaaGreat
end
