/- Plain: what an announced update leaves in a fresh memory. -/
import Derived.Test.YtecjbgddjejjdaaDoorAnn
import Derived.Test.YtecjbgddjejjdaaDoorPartN
import Derived.Test.YtecjbgddjejjdaaDoorPlainCount
import Derived.Test.YtecjbgddjejjdaaDoorCellRun
namespace Go.Proofs.YtecjbgddjejjdaaDoor
open Go.RowKit

theorem fresh_zero (c : Cfg) {n : Nat} (h : n ≠ 2) : (freshL c).getD n .zero = .zero := by
  unfold freshL
  by_cases h2 : 2 < allN c.shp
  · rw [getD_set _ _ _ _ _ (by rw [zeros_len]; exact h2), if_neg (fun e => h e.symm)]
    exact zeros_at _ _
  · rw [List.set_eq_of_length_le (by rw [zeros_len]; omega)]
    exact zeros_at _ _

theorem res_has {c : Cfg} {t : Int} (h : 0 ≤ t) (g : t < c.thr) : hasZ c.shp 5 t 0 = true := by
  have e : c.shp.thr = c.thr.toNat := rfl
  refine hasZ_t.2 ⟨h, by omega, ?_⟩
  simp only [hasP, plZ, countsN]
  simp
  omega

theorem annE_zero {c : Cfg} {t : Int} {s k a b x : Nat} (h : annE c t s k a b x = 0) : c.May ∧ 0 ≤ t ∧ t < c.thr ∧ 1 ≤ s ∧ s ≤ 64 := by
  unfold annE at h
  by_cases hm : c.May
  · rw [if_pos hm] at h
    by_cases hg : 0 ≤ t ∧ t < c.thr ∧ 1 ≤ s ∧ s ≤ 64
    · exact ⟨hm, hg⟩
    · rw [if_neg hg] at h; exact absurd h (by decide)
  · rw [if_neg hm] at h; exact absurd h (by decide)

/-- The slot of thread n, and its result's place. -/
theorem pend_at {c : Cfg} (hm : c.May) {n : Nat} (h : (n : Int) < c.thr) : atV c 4 n 0 = ((3 + n : Nat) : Int) ∧ atE c 4 n 0 = 0 ∧ atV c 5 n 0 = ((3 + c.shp.thr + n : Nat) : Int) ∧ atE c 5 n 0 = 0 ∧ 3 + c.shp.thr + n < (freshL c).length ∧ n < c.shp.thr := by
  have e : c.shp.thr = c.thr.toNat := rfl
  have h4 : hasZ c.shp 4 (n : Int) 0 = true := (slot_has (by omega)).trans (decide_eq_true h)
  have h5 : hasZ c.shp 5 (n : Int) 0 = true := res_has (by omega) h
  refine ⟨?_, atE_in hm h4, ?_, atE_in hm h5, ?_, by omega⟩
  · rw [atV_in hm h4]; simp [plZ, whereN]
  · rw [atV_in hm h5]; simp [plZ, whereN]
  · rw [freshL_len]
    unfold allN aheadN
    have h1 : n < c.shp.thr := by omega
    generalize c.shp.inst * _ = y
    split <;> omega

theorem pend_run {c : Cfg} (hm : c.May) {n : Nat} (h : (n : Int) < c.thr) {s k a b x : Nat} (he : annE c n s k a b x = 0) :
    annA c n s k a b x = ⟨2, ((3 + n : Nat) : Int), ⟨0, 0, 0, 0⟩, ⟨s, a * 256 + k, b, x⟩⟩
    ∧ runL (freshL c) [annA c n s k a b x] = (freshL c).set (3 + n) ⟨s, a * 256 + k, b, x⟩
    ∧ runErr (freshL c) [annA c n s k a b x] = 0 := by
  obtain ⟨p1, _, _, _, p5, p6⟩ := pend_at hm h
  have e : annA c n s k a b x = ⟨2, ((3 + n : Nat) : Int), ⟨0, 0, 0, 0⟩, ⟨s, a * 256 + k, b, x⟩⟩ := by
    unfold annA
    rw [if_pos he, p1]
  have hlen := freshL_len c
  have hall := (all_le (May.small hm)).1
  refine ⟨e, ?_, ?_⟩
  · rw [e]
    obtain ⟨e1, _, _⟩ := doL_yes (l := freshL c) (x := ⟨2, ((3 + n : Nat) : Int), ⟨0, 0, 0, 0⟩, ⟨s, a * 256 + k, b, x⟩⟩) (k := 3 + n) rfl (by omega) (show (1 : Int) ≤ 2 by decide) (show (2 : Int) ≤ 4 by decide)
    show doL (freshL c) _ = _
    rw [e1]
    rfl
  · rw [e]
    have hk : mayA (freshL c).length 2 ((3 + n : Nat) : Int) = true := (mayA_iff _ _ _).2 ⟨by decide, by decide, by omega, by omega⟩
    unfold runErr
    rw [if_neg (by rw [hlen]; simp; omega)]
    simp only [runB, List.all_cons, List.all_nil, hk, Bool.and_true, if_true]

theorem pend_cells {c : Cfg} (hm : c.May) {n : Nat} (h : (n : Int) < c.thr) (y : Cel) :
    ((freshL c).set (3 + n) y)[3 + n]? = some y ∧ ((freshL c).set (3 + n) y)[3 + c.shp.thr + n]? = some .zero := by
  obtain ⟨_, _, _, _, p5, p6⟩ := pend_at hm h
  have hz := fresh_zero c (n := 3 + c.shp.thr + n) (by omega)
  constructor
  · rw [List.getElem?_set_self (by omega)]
  · rw [List.getElem?_set_ne (by omega), List.getElem?_eq_getElem p5]
    rw [List.getD_eq_getElem?_getD, List.getElem?_eq_getElem p5] at hz
    exact congrArg some hz

theorem of_back (s k a b x : Nat) (hk : k < 256) (ha : a < 4294967296) (hb : b < 4294967296) (hx : x < 4294967296) :
    ofV s (a * 256 + k) b x = .tuple #[.int .u64 s, .agg #[.int .u8 k, .int .u32 a, .int .u32 b, .int .u32 x]] := by
  unfold ofV
  rw [show (a * 256 + k) % 256 = k by omega, show (a * 256 + k) / 256 % 4294967296 = a by omega, Nat.mod_eq_of_lt hb, Nat.mod_eq_of_lt hx]

end Go.Proofs.YtecjbgddjejjdaaDoor
