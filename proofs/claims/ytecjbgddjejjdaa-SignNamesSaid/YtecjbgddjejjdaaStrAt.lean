/- Accesses to counts in a memory that is worked on, and a drain's time. -/
import Derived.Test.YtecjbgddjejjdaaPlainDrainC
import Derived.Test.YtecjbgddjejjdaaPlainFresh
import Derived.Test.YtecjbgddjejjdaaStripeE
import Derived.Test.YtecjbgddjejjdaaCellMem
namespace Go.Proofs.Ytecjbgddjejjdaa
open Go.RowKit

theorem rep_fals (n t : Nat) : (List.replicate n false).getD t false = false := by
  simp only [List.getD_eq_getElem?_getD, List.getElem?_replicate]
  split <;> rfl
theorem st_start {c : Cfg} (hc : c.Strs) {v : Nat} (hv : v < 2) : StI c v (freshL c) (List.replicate c.shp.thr false) (List.replicate c.shp.thr false) 0 := by
  have hz : ∀ s, s < c.shp.str → inN c v (freshL c) s = 0 ∧ outN c v (freshL c) s = 0 := fun s hs => by
    obtain ⟨_, h2, h3, _⟩ := cnt_lt hc hv hs
    unfold inN outN
    rw [fresh_at c (by omega), fresh_at c (by omega)]
    exact ⟨rfl, rfl⟩
  refine ⟨freshL_len c, by simp, by simp, fun s hs => ?_, fun s hs => ?_, fun t h => ?_⟩
  · rw [(hz s hs).1, (hz s hs).2, cntF_zero _ (fun i _ => by unfold herF; rw [rep_fals]; rfl)]
  · rw [(hz s hs).1]; exact Nat.le_refl _
  · rw [rep_fals] at h; cases h

theorem str_cast {c : Cfg} (hc : c.Strs) : c.str = ((c.shp.str : Nat) : Int) ∧ 1 ≤ c.shp.str ∧ c.shp.str ≤ 4 := by
  have := hc.str
  have e : c.shp.str = c.str.toNat := rfl
  omega
theorem modK {c : Cfg} (hc : c.Strs) (k : Nat) : (k : Int) % c.str = ((k % c.shp.str : Nat) : Int) ∧ k % c.shp.str < c.shp.str := by
  obtain ⟨h1, h2, _⟩ := str_cast hc
  rw [h1]
  exact ⟨(Int.natCast_emod k c.shp.str).symm, Nat.mod_lt _ (by omega)⟩
theorem sarr_at {c : Cfg} (hc : c.Strs) {v k : Nat} (hv : v < 2) (hk' : (k : Int) < c.thr) : stE c v k = 0 ∧ accV (stA c (sideK 1) v k) = .agg #[.int .u8 4, .int .i64 ((inB c v + k % c.shp.str : Nat) : Int), .int .u64 0, .int .u64 0, .int .u64 0, .int .u64 0, .int .u64 0, .int .u64 1, .int .u64 0, .int .u64 0] := by
  have h0 := stE_in hc (v := (v : Int)) (t := (k : Int)) ⟨by omega, by omega, by omega, hk'⟩
  obtain ⟨m1, m2⟩ := modK hc k
  obtain ⟨s1, _⟩ := str_cast hc
  have e : stA c (sideK 1) v k = ⟨4, ((inB c v + k % c.shp.str : Nat) : Int), ⟨0, 0, 0, 0⟩, ⟨0, 1, 0, 0⟩⟩ := by
    unfold stA
    rw [if_pos h0, m1, show sideK 1 = 7 from rfl, inB_at hc hv (by omega)]
  rw [e]
  exact ⟨h0, rfl⟩
theorem sdep_at {c : Cfg} (hc : c.Strs) {v k : Nat} (hv : v < 2) (hk' : (k : Int) < c.thr) : stE c v k = 0 ∧ accV (stA c (sideK 0) v k) = .agg #[.int .u8 4, .int .i64 ((outB c v + k % c.shp.str : Nat) : Int), .int .u64 0, .int .u64 0, .int .u64 0, .int .u64 0, .int .u64 0, .int .u64 1, .int .u64 0, .int .u64 0] := by
  have h0 := stE_in hc (v := (v : Int)) (t := (k : Int)) ⟨by omega, by omega, by omega, hk'⟩
  obtain ⟨m1, m2⟩ := modK hc k
  obtain ⟨s1, _⟩ := str_cast hc
  have e : stA c (sideK 0) v k = ⟨4, ((outB c v + k % c.shp.str : Nat) : Int), ⟨0, 0, 0, 0⟩, ⟨0, 1, 0, 0⟩⟩ := by
    unfold stA
    rw [if_pos h0, m1, show sideK 0 = 8 from rfl, outB_at hc hv (by omega)]
  rw [e]
  exact ⟨h0, rfl⟩
/-- Where a look looks. -/
def lkM (c : Cfg) (v a : Nat) : Nat := if a < c.shp.str then outB c v + a else inB c v + (a - c.shp.str)
theorem lookN_at (c : Cfg) (v : Nat) (l : List Cel) (a : Nat) : lookN c v l a = (l.getD (lkM c v a) .zero).a := by
  unfold lookN lkM outN inN
  split <;> rfl
theorem lkM_lt {c : Cfg} (hc : c.Strs) {v a : Nat} (hv : v < 2) (ha : a < 2 * c.shp.str) : lkM c v a < allN c.shp := by
  unfold lkM
  by_cases h : a < c.shp.str
  · rw [if_pos h]; exact (cnt_lt hc hv h).2.2.2.2.1
  · rw [if_neg h]; exact (cnt_lt hc hv (show a - c.shp.str < c.shp.str by omega)).2.2.2.2.2
theorem slook_at {c : Cfg} (hc : c.Strs) {v a : Nat} (hv : v < 2) (ha : a < 2 * c.shp.str) : lkE c v a = 0 ∧ accV (lkA c v a) = .agg #[.int .u8 1, .int .i64 ((lkM c v a : Nat) : Int), .int .u64 0, .int .u64 0, .int .u64 0, .int .u64 0, .int .u64 0, .int .u64 0, .int .u64 0, .int .u64 0] := by
  obtain ⟨s1, s2, _⟩ := str_cast hc
  have h0 := lkE_in hc (v := (v : Int)) (i := (a : Int)) ⟨by omega, by omega, by omega, by omega⟩
  have e : lkAt c v a = ((lkM c v a : Nat) : Int) := by
    unfold lkAt lkM
    by_cases h : a < c.shp.str
    · rw [if_pos h, if_pos (by omega), outB_at hc hv (by omega)]
    · rw [if_neg h, if_neg (by omega), show (a : Int) - c.str = ((a - c.shp.str : Nat) : Int) by omega, inB_at hc hv (by omega)]
  rw [lkA_in h0, e]
  exact ⟨h0, rfl⟩
theorem do_add {l : List Cel} {m : Nat} (h : m < l.length) : doL l ⟨4, (m : Nat), ⟨0, 0, 0, 0⟩, ⟨0, 1, 0, 0⟩⟩ = l.set m (moreC (l.getD m .zero)) ∧ doE l ⟨4, (m : Nat), ⟨0, 0, 0, 0⟩, ⟨0, 1, 0, 0⟩⟩ = 0 ∧ doS l ⟨4, (m : Nat), ⟨0, 0, 0, 0⟩, ⟨0, 1, 0, 0⟩⟩ = (l.getD m .zero, true) := by
  obtain ⟨a, d, b⟩ := doL_yes (l := l) (x := ⟨4, (m : Nat), ⟨0, 0, 0, 0⟩, ⟨0, 1, 0, 0⟩⟩) rfl h (show (1 : Int) ≤ 4 by decide) (show (4 : Int) ≤ 4 by decide)
  exact ⟨a, b, d⟩
theorem do_lk {l : List Cel} {m : Nat} (h : m < l.length) : doL l ⟨1, (m : Nat), ⟨0, 0, 0, 0⟩, ⟨0, 0, 0, 0⟩⟩ = l ∧ doE l ⟨1, (m : Nat), ⟨0, 0, 0, 0⟩, ⟨0, 0, 0, 0⟩⟩ = 0 ∧ doS l ⟨1, (m : Nat), ⟨0, 0, 0, 0⟩, ⟨0, 0, 0, 0⟩⟩ = (l.getD m .zero, true) := by
  obtain ⟨a, d, b⟩ := doL_yes (l := l) (x := ⟨1, (m : Nat), ⟨0, 0, 0, 0⟩, ⟨0, 0, 0, 0⟩⟩) rfl h (show (1 : Int) ≤ 1 by decide) (show (1 : Int) ≤ 4 by decide)
  exact ⟨a.trans (set_self l m), b, d⟩

theorem sumZ_at {c : Cfg} (hc : c.Strs) {a S A : Nat} (hA : A ≤ 1000000) : sumZ c a S A = ((sumNext c.shp.str a S A : Nat) : Int) := by
  obtain ⟨s1, _⟩ := str_cast hc
  unfold sumZ sumNext
  by_cases h : a < c.shp.str
  · rw [if_pos h, if_pos (by omega), IntKind.wrap_u64]; omega
  · rw [if_neg h, if_neg (by omega), IntKind.wrap_u64]; omega
/-- What a look's Seen answers. -/
theorem sseen_at {c : Cfg} (hc : c.Strs) {a S A : Nat} (hA : A ≤ 1000000) (ha : a < 2 * c.shp.str) : ∃ (na nS : Nat) (em : Bool), ssR c 0 a S A = .tuple #[.agg #[.int .u64 0, .int .i64 (na : Int), .int .u64 (nS : Int)], .bool em, .int .i64 0]
    ∧ ((a + 1 < 2 * c.shp.str ∧ na = a + 1 ∧ nS = sumNext c.shp.str a S A ∧ em = false) ∨ (a + 1 = 2 * c.shp.str ∧ sumNext c.shp.str a S A = 0 ∧ em = true) ∨ (a + 1 = 2 * c.shp.str ∧ sumNext c.shp.str a S A ≠ 0 ∧ na = 0 ∧ nS = 0 ∧ em = false)) := by
  obtain ⟨s1, _⟩ := str_cast hc
  have hz := sumZ_at hc (a := a) (S := S) hA
  by_cases h1 : a + 1 < 2 * c.shp.str
  · refine ⟨a + 1, sumNext c.shp.str a S A, false, ?_, .inl ⟨h1, rfl, rfl, rfl⟩⟩
    rw [ssR_on hc ⟨by omega, by omega⟩, hz]
    rfl
  · by_cases h2 : sumNext c.shp.str a S A = 0
    · refine ⟨a + 1, 0, true, ?_, .inr (.inl ⟨by omega, h2, rfl⟩)⟩
      rw [ssR_end hc ⟨by omega, by omega⟩ 0 (by rw [hz, h2]; rfl)]
      rfl
    · refine ⟨0, 0, false, ?_, .inr (.inr ⟨by omega, h2, rfl, rfl, rfl⟩)⟩
      rw [ssR_back hc ⟨by omega, by omega⟩ 0 (by rw [hz]; omega)]
      rfl

/-- How long a drain may go on yet: q turns, of which l3 were free. -/
def SdT (c : Cfg) (v : Nat) (l : List Cel) (hs : List Bool) (a S q l3 : Nat) : Prop :=
  q ≤ l3 + a ∨ (l3 ≤ q ∧ q ≤ l3 + 2 * c.shp.str + a ∧ S = exS c v l a) ∨ (∃ t, t < c.shp.thr ∧ hs.getD t false = true)
theorem SdT.on {c : Cfg} {v : Nat} {l : List Cel} {hs os : List Bool} {n a S q l3 : Nat} (d : SdT c v l hs a S q l3) (h : StI c v l hs os n) (hc : c.Strs) (hn : n ≤ 1000000) (ha : a + 1 < 2 * c.shp.str) : SdT c v l hs (a + 1) (sumNext c.shp.str a S (lookN c v l a)) (q + 1) l3 := by
  rcases d with d | ⟨d1, d2, d3⟩ | d
  · exact .inl (by omega)
  · refine .inr (.inl ⟨by omega, by omega, ?_⟩)
    rw [d3]; exact exS_next h hc hn (by omega)
  · exact .inr (.inr d)
theorem SdT.back {c : Cfg} {v : Nat} {l : List Cel} {hs os : List Bool} {n a S q l3 : Nat} (d : SdT c v l hs a S q l3) (h : StI c v l hs os n) (hc : c.Strs) (hn : n ≤ 1000000) (ha : a + 1 = 2 * c.shp.str) (h0 : sumNext c.shp.str a S (lookN c v l a) ≠ 0) : SdT c v l hs 0 0 (q + 1) l3 := by
  rcases d with d | ⟨d1, d2, d3⟩ | d
  · by_cases hq : q + 1 ≤ l3
    · exact .inl (by omega)
    · exact .inr (.inl ⟨by omega, by omega, (exS_zero c v l).symm⟩)
  · refine .inr (.inr ?_)
    rw [d3, exS_next h hc hn (by omega), ha] at h0
    have h1 : ¬ ∀ t, t < c.shp.thr → hs.getD t false = false := fun x => h0 ((exS_end h hc hn).2 x)
    obtain ⟨t, ht⟩ := Classical.not_forall.1 h1
    obtain ⟨ht1, ht2⟩ := Classical.not_imp.1 ht
    exact ⟨t, ht1, by simpa using ht2⟩
  · exact .inr (.inr d)
theorem SdT.fin {c : Cfg} {v : Nat} {l : List Cel} {hs : List Bool} {a S l3 : Nat} (d : SdT c v l hs a S (l3 + 4 * c.shp.str) l3) (ha : a < 2 * c.shp.str) : ∃ t, t < c.shp.thr ∧ hs.getD t false = true := by
  rcases d with d | ⟨_, d2, _⟩ | d
  · omega
  · omega
  · exact d
theorem look_small {c : Cfg} {v : Nat} {l : List Cel} {hs os : List Bool} {n a : Nat} (h : StI c v l hs os n) (hn : n ≤ 1000000) (ha : a < 2 * c.shp.str) : lookN c v l a ≤ 1000000 := by
  unfold lookN
  split
  · rename_i h1
    have := h.bd _ h1
    have := h.le h1
    omega
  · have := h.bd _ (show a - c.shp.str < c.shp.str by omega)
    omega

end Go.Proofs.Ytecjbgddjejjdaa
