/- Chapter 21: package sign's functions of both kinds at once, in what is asked of them. -/
import Derived.Test.YtecjbgddjejjdaaSignB
import Derived.Test.YtecjbgddjejjdaaPlainSign
namespace Go.Proofs.Ytecjbgddjejjdaa
open Go.RowKit

theorem calls_same {f : FuncId} {a : Array Value} {w : World} {v v' : Value} (e : v = v') (h : Calls Try.prog f a w fun e w' => e = .returned v ∧ Below w.heap.size w w') : Calls Try.prog f a w fun e w' => e = .returned v' ∧ Below w.heap.size w w' := by
  subst e; exact h
theorem sgArr_any (c : Cfg) (v t : Nat) (w : World) (hm : c.May) (hp : PwO c w) (hv : v < 2) (ht : t < c.shp.thr) : Calls Try.prog 14 #[.agg #[.int .u8 c.ob, .int .i64 c.inst, .int .i64 c.thr, .int .u8 c.kd, .int .i64 c.str, .int .i64 c.bits, .int .i64 c.cap, .int .i64 c.node, .int .i64 c.bat, .int .i64 c.chk, .int .u64 c.lim, .int .u64 c.most], .int .i64 (v : Int), .int .i64 (t : Int)] w fun e w' => e = .returned (.tuple #[accV (arrX c v t), .int .i64 0]) ∧ Below w.heap.size w w' := by
  have hk : (t : Int) < c.thr := by have := thr_pos hm; omega
  rcases hm.two with h1 | h1
  · obtain ⟨e1, e2⟩ := arr_at h1 hv hk
    exact calls_same (by rw [e1, e2]; unfold arrX; rw [if_pos h1.2]; rfl) (sgArrive_slots c v t w hp h1)
  · obtain ⟨e1, e2⟩ := sarr_at h1 hv hk
    exact calls_same (by rw [e1, e2]; unfold arrX; rw [if_neg h1.kd1]; rfl) (sgArrive_strs c v t w hp h1)
theorem sgDep_any (c : Cfg) (v t : Nat) (w : World) (hm : c.May) (hp : PwO c w) (hv : v < 2) (ht : t < c.shp.thr) : Calls Try.prog 16 #[.agg #[.int .u8 c.ob, .int .i64 c.inst, .int .i64 c.thr, .int .u8 c.kd, .int .i64 c.str, .int .i64 c.bits, .int .i64 c.cap, .int .i64 c.node, .int .i64 c.bat, .int .i64 c.chk, .int .u64 c.lim, .int .u64 c.most], .int .i64 (v : Int), .int .i64 (t : Int)] w fun e w' => e = .returned (.tuple #[accV (depX c v t), .int .i64 0]) ∧ Below w.heap.size w w' := by
  have hk : (t : Int) < c.thr := by have := thr_pos hm; omega
  rcases hm.two with h1 | h1
  · obtain ⟨e1, e2⟩ := dep_at h1 hv hk
    exact calls_same (by rw [e1, e2]; unfold depX; rw [if_pos h1.2]; rfl) (sgDepart_slots c v t w hp h1)
  · obtain ⟨e1, e2⟩ := sdep_at h1 hv hk
    exact calls_same (by rw [e1, e2]; unfold depX; rw [if_neg h1.kd1]; rfl) (sgDepart_strs c v t w hp h1)
theorem sgLk_any (c : Cfg) (v a S : Nat) (w : World) (hm : c.May) (hp : PwO c w) (hv : v < 2) (ha : a < manyN c) : Calls Try.prog 22 #[.agg #[.int .u8 c.ob, .int .i64 c.inst, .int .i64 c.thr, .int .u8 c.kd, .int .i64 c.str, .int .i64 c.bits, .int .i64 c.cap, .int .i64 c.node, .int .i64 c.bat, .int .i64 c.chk, .int .u64 c.lim, .int .u64 c.most], .int .i64 (v : Int), .agg #[.int .u64 0, .int .i64 (a : Int), .int .u64 (S : Int)]] w fun e w' => e = .returned (.tuple #[accV (lkX c v a), .int .i64 0]) ∧ Below w.heap.size w w' := by
  unfold manyN at ha
  rcases hm.two with h1 | h1
  · rw [if_pos h1.2] at ha
    obtain ⟨e1, e2⟩ := look_at h1 hv (show (a : Int) < c.thr by have := thr_pos hm; omega)
    exact calls_same (by rw [e1, e2]; unfold lkX lkP; rw [if_pos h1.2]; rfl) (sgLook_slots c v 0 a S w hp h1)
  · rw [if_neg h1.kd1] at ha
    obtain ⟨e1, e2⟩ := slook_at h1 hv ha
    exact calls_same (by rw [e1, e2]; unfold lkX lkP; rw [if_neg h1.kd1]; rfl) (sgLook_strs c v 0 a S w hp (by have := str_cast h1; omega) h1)
theorem sgSn_any (c : Cfg) (a S : Nat) (x : Cel) (w : World) (hm : c.May) (ha : a < manyN c) (hx : x.a ≤ 1000000) : Calls Try.prog 24 #[.agg #[.int .u8 c.ob, .int .i64 c.inst, .int .i64 c.thr, .int .u8 c.kd, .int .i64 c.str, .int .i64 c.bits, .int .i64 c.cap, .int .i64 c.node, .int .i64 c.bat, .int .i64 c.chk, .int .u64 c.lim, .int .u64 c.most], .agg #[.int .u64 0, .int .i64 (a : Int), .int .u64 (S : Int)], .agg #[.int .u64 x.t, .int .u64 x.a, .int .u64 x.b, .int .u64 x.c]] w fun e w' =>
    e = .returned (.tuple #[.agg #[.int .u64 0, .int .i64 ((seenX c a S x.a).1 : Nat), .int .u64 ((seenX c a S x.a).2.1 : Nat)], .bool (seenX c a S x.a).2.2, .int .i64 0]) ∧ Below w.heap.size w w' := by
  unfold manyN at ha
  rcases hm.two with h1 | h1
  · rw [if_pos h1.2] at ha
    have ht := thr_pos hm
    have h0 := mkE_in h1 (v := 0) (t := (a : Int)) ⟨by omega, by omega, by omega, by omega⟩
    refine sgSeen_slots c 0 a S x.t x.a x.b x.c 0 _ _ _ 0 w ?_ h1
    rw [seenR_yes h0]
    unfold seenX seenN
    rw [if_pos h1.2]
    by_cases e : x.a = 0
    · rw [if_pos e, if_pos (by omega)]
      have : ((a : Int) + 1 == c.thr) = (a + 1 == c.shp.thr) := by
        rw [ht.1, Bool.eq_iff_iff, beq_iff_eq, beq_iff_eq]; omega
      rw [this]
      rfl
    · rw [if_neg e, if_neg (by omega)]
      have : ((a : Int) == c.thr) = false := by rw [beq_eq_false_iff_ne]; omega
      rw [this]
      rfl
  · rw [if_neg h1.kd1] at ha
    have hs := str_cast h1
    obtain ⟨na, nS, em, e1, e2⟩ := sseen_at h1 (a := a) (S := S) hx ha
    refine sgSeen_strs c 0 a S x.t x.a x.b x.c 0 _ _ _ 0 w ⟨by omega, ?_⟩ h1
    rw [e1]
    unfold seenX
    rw [if_neg h1.kd1]
    have hz := sumZ_at h1 (a := a) (S := S) hx
    rcases e2 with ⟨g1, rfl, rfl, rfl⟩ | ⟨g1, g2, rfl⟩ | ⟨g1, g2, rfl, rfl, rfl⟩
    · rw [if_pos g1]
    · rw [if_neg (by omega), if_pos g2]
      have e3 := ssR_end h1 (i := (a : Int)) ⟨by omega, by omega⟩ 0 (sm := (S : Int)) (la := (x.a : Int)) (by rw [hz, g2]; rfl)
      rw [e3] at e1
      exact e1.symm
    · rw [if_neg (by omega), if_neg g2]
theorem sgMn_any (c : Cfg) (w : World) (hm : c.May) : Calls Try.prog 20 #[.agg #[.int .u8 c.ob, .int .i64 c.inst, .int .i64 c.thr, .int .u8 c.kd, .int .i64 c.str, .int .i64 c.bits, .int .i64 c.cap, .int .i64 c.node, .int .i64 c.bat, .int .i64 c.chk, .int .u64 c.lim, .int .u64 c.most]] w fun e w' => e = .returned (.tuple #[.int .i64 (manyN c : Nat), .int .i64 0]) ∧ Below w.heap.size w w' := by
  unfold manyN
  rcases hm.two with h1 | h1
  · rw [if_pos h1.2]
    exact calls_same (by rw [(thr_pos hm).1]) (sgMany_slots c w h1)
  · rw [if_neg h1.kd1]
    refine sgMany_strs c _ w ?_ h1
    have := str_cast h1
    rw [IntKind.wrap_i64]; omega

end Go.Proofs.Ytecjbgddjejjdaa
