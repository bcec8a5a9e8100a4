/- Chapter 20: stripe.Look, Full. -/
import Derived.Test.YtecjbgddjejjdaaStripeC
namespace Go.Proofs.Ytecjbgddjejjdaa
open Go.RowKit

def fullB (c : Cfg) (la : Int) : Bool := if c.Strs then decide (c.most ≤ la) else false
def fullE (c : Cfg) : Int := if c.Strs then 0 else 40

set_option maxRecDepth 100000 in
theorem sFull_any (c : Cfg) (l0 la l2 l3 : Int) (w : World) : Calls Try.prog 99 #[.agg #[.int .u8 c.ob, .int .i64 c.inst, .int .i64 c.thr, .int .u8 c.kd, .int .i64 c.str, .int .i64 c.bits, .int .i64 c.cap, .int .i64 c.node, .int .i64 c.bat, .int .i64 c.chk, .int .u64 c.lim, .int .u64 c.most], .agg #[.int .u64 l0, .int .u64 la, .int .u64 l2, .int .u64 l3]] w fun e w' => e = .returned (.tuple #[.bool (fullB c la), .int .i64 (fullE c)]) ∧ Below w.heap.size w w' := by
  go_enter Try.func99, Try.ntmps99
  go_wp2_with fail
  have HX := Lib.hid ((Box.new w 37 (cfgL c)).alloc (.cells #[.int .u64 l0, .int .u64 la, .int .u64 l2, .int .u64 l3] 29))
  have hl := Box.new (w.alloc (.cells ⟨cfgL c⟩ 37)) 29 [.int .u64 l0, .int .u64 la, .int .u64 l2, .int .u64 l3]
  have HB := Lib.hid (moreB (newB w (.cells ⟨cfgL c⟩ 37)) (.cells #[.int .u64 l0, .int .u64 la, .int .u64 l2, .int .u64 l3] 29))
  simp only [World.size_alloc] at hl
  have HL := Lib.hid hl
  clear hl
  unfold cfgL at *
  generalize (w.alloc _).alloc _ = V at *
  refine (sMay_any c V).mono ?_
  rintro e w1 ⟨rfl, hb⟩
  have HL := Lib.hid (HL.out.below hb)
  have HB := Lib.hid (keepB hb HB.out); have HX := Lib.hid (HX.out.below hb); clear hb
  have x11 := HX.out.c 11 rfl
  have l1 := HL.out.c 1 rfl
  by_cases hm : c.Strs
  · rw [show stripesB c = true from decide_eq_true hm]
    have H1 := Lib.hid (show fullB c la = decide (c.most ≤ la) from if_pos hm)
    have H2 := Lib.hid (show fullE c = 0 from if_pos hm)
    clear hm
    go_wp2_with fail
    go_ret2
    exact ⟨by rw [H1.out, H2.out]; rfl, HB.out⟩
  · rw [show stripesB c = false from decide_eq_false hm]
    have H1 := Lib.hid (show fullB c la = false from if_neg hm)
    have H2 := Lib.hid (show fullE c = 40 from if_neg hm)
    clear hm
    go_wp2_with fail
    go_ret2
    exact ⟨by rw [H1.out, H2.out]; rfl, HB.out⟩

/-- What Seen answers. -/
def sumZ (c : Cfg) (i sm la : Int) : Int := if i < c.str then IntKind.u64.wrap (sm + la) else IntKind.u64.wrap (sm - la)
def seenT (tg i S : Int) (b : Bool) (e : Int) : Value := .tuple #[.agg #[.int .u64 tg, .int .i64 i, .int .u64 S], .bool b, .int .i64 e]
def ssR (c : Cfg) (tg i sm la : Int) : Value :=
  if c.Strs then (if 0 ≤ i ∧ i < 2 * c.str then (if i + 1 < 2 * c.str then seenT tg (i + 1) (sumZ c i sm la) false 0 else if sumZ c i sm la = 0 then seenT tg (i + 1) 0 true 0 else seenT tg 0 0 false 0) else seenT 0 0 0 false 2) else seenT 0 0 0 false 40
theorem ssR_no {c : Cfg} (h : ¬ c.Strs) (tg i sm la : Int) : ssR c tg i sm la = seenT 0 0 0 false 40 := if_neg h
theorem ssR_out {c : Cfg} (h : c.Strs) {i : Int} (g : ¬ (0 ≤ i ∧ i < 2 * c.str)) (tg sm la : Int) : ssR c tg i sm la = seenT 0 0 0 false 2 := by unfold ssR; rw [if_pos h, if_neg g]
theorem ssR_on {c : Cfg} (h : c.Strs) {i : Int} (g : 0 ≤ i ∧ i + 1 < 2 * c.str) (tg sm la : Int) : ssR c tg i sm la = seenT tg (i + 1) (sumZ c i sm la) false 0 := by
  unfold ssR; rw [if_pos h, if_pos ⟨g.1, by omega⟩, if_pos g.2]
theorem ssR_end {c : Cfg} (h : c.Strs) {i : Int} (g : 0 ≤ i ∧ i + 1 = 2 * c.str) (tg : Int) {sm la : Int} (h0 : sumZ c i sm la = 0) : ssR c tg i sm la = seenT tg (i + 1) 0 true 0 := by
  unfold ssR; rw [if_pos h, if_pos ⟨g.1, by omega⟩, if_neg (by omega), if_pos h0]
theorem ssR_back {c : Cfg} (h : c.Strs) {i : Int} (g : 0 ≤ i ∧ i + 1 = 2 * c.str) (tg : Int) {sm la : Int} (h0 : sumZ c i sm la ≠ 0) : ssR c tg i sm la = seenT tg 0 0 false 0 := by
  unfold ssR; rw [if_pos h, if_pos ⟨g.1, by omega⟩, if_neg (by omega), if_neg h0]

end Go.Proofs.Ytecjbgddjejjdaa
