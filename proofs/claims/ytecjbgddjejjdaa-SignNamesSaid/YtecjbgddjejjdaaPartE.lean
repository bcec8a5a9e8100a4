/- Chapter 4: the reference's counts, Has, Ahead, All. -/
import Derived.Test.YtecjbgddjejjdaaPartD
namespace Go.Proofs.Ytecjbgddjejjdaa
open Go.RowKit


theorem shp_thr {c : Cfg} (h : c.May) : ((c.shp.thr : Nat) : Int) = c.thr := by have := h.1; simp [Cfg.shp]; omega
theorem shp_inst {c : Cfg} (h : c.May) : ((c.shp.inst : Nat) : Int) = c.inst := by have := h.1; simp [Cfg.shp]; omega
theorem shp_str {c : Cfg} (h : c.May) : ((c.shp.str : Nat) : Int) = c.str := by have := h.2.2.1; simp [Cfg.shp]; omega
theorem May.kd {c : Cfg} (h : c.May) : c.kd = 1 ∧ c.shp.slots = true ∧ c.str = 0 ∨ c.kd = 2 ∧ c.shp.slots = false ∧ 1 ≤ c.str := by
  have := h.2.2.1
  rcases this with h1 | h1
  · exact .inl ⟨h1.1, by simp [Cfg.shp, h1.1], h1.2.1⟩
  · exact .inr ⟨h1.1, by simp [Cfg.shp, h1.1], h1.2.1⟩

def CountsPost (s : Shp) (j : Nat) (w : World) (e : Ending) (w' : World) : Prop := e = .returned (.tuple #[.int .i64 (countsN s j).1, .int .i64 (countsN s j).2]) ∧ Below w.heap.size w w'
theorem counts_fin {s : Shp} {j : Nat} {w w' : World} {a b : Int} (h1 : ((countsN s j).1 : Int) = a) (h2 : ((countsN s j).2 : Int) = b) (hb : Below w.heap.size w w') : CountsPost s j w (.returned (.tuple #[.int .i64 a, .int .i64 b])) w' := by
  unfold CountsPost
  rw [h1, h2]
  exact ⟨rfl, hb⟩

def cfgL (c : Cfg) : List Value := [.int .u8 c.ob, .int .i64 c.inst, .int .i64 c.thr, .int .u8 c.kd, .int .i64 c.str, .int .i64 c.bits, .int .i64 c.cap, .int .i64 c.node, .int .i64 c.bat, .int .i64 c.chk, .int .u64 c.lim, .int .u64 c.most]

theorem cnt_123 {s : Shp} {j : Nat} (h : j = 1 ∨ j = 2 ∨ j = 3) : (countsN s j).1 = 1 ∧ (countsN s j).2 = 1 := by rcases h with rfl | rfl | rfl <;> simp [countsN]
theorem cnt_45 {s : Shp} {j : Nat} (h : j = 4 ∨ j = 5) : (countsN s j).1 = s.thr ∧ (countsN s j).2 = 1 := by rcases h with rfl | rfl <;> simp [countsN]
theorem cnt_6 {s : Shp} : (countsN s 6).1 = (if s.slots then 2 else 0) ∧ (countsN s 6).2 = (if s.slots then s.thr else 0) := by cases h : s.slots <;> simp [countsN, h]
theorem cnt_78 {s : Shp} {j : Nat} (h : j = 7 ∨ j = 8) : (countsN s j).1 = (if s.slots then 0 else 2) ∧ (countsN s j).2 = (if s.slots then 0 else s.str) := by rcases h with rfl | rfl <;> cases h : s.slots <;> simp [countsN, h]
theorem cnt_9 {s : Shp} : (countsN s 9).1 = s.inst ∧ (countsN s 9).2 = 1 := by simp [countsN]
theorem cnt_10 {s : Shp} : (countsN s 10).1 = s.inst ∧ (countsN s 10).2 = s.size := by simp [countsN]
theorem cnt_no {s : Shp} {j : Nat} (h : j = 0 ∨ 10 < j) : (countsN s j).1 = 0 ∧ (countsN s j).2 = 0 := by
  have j1 : ¬ (j = 1 ∨ j = 2 ∨ j = 3) := by omega
  have j2 : ¬ (j = 4 ∨ j = 5) := by omega
  have j3 : ¬ j = 6 := by omega
  have j4 : ¬ (j = 7 ∨ j = 8) := by omega
  have j5 : ¬ j = 9 := by omega
  have j6 : ¬ j = 10 := by omega
  unfold countsN
  rw [if_neg j1, if_neg j2, if_neg j3, if_neg j4, if_neg j5, if_neg j6]
  exact ⟨rfl, rfl⟩


set_option maxHeartbeats 400000 in
theorem counts_123 (c : Cfg) (k : Int) (w : World) (h : k = 1 ∨ k = 2 ∨ k = 3) : Calls Try.prog 52 #[.agg #[.int .u8 c.ob, .int .i64 c.inst, .int .i64 c.thr, .int .u8 c.kd, .int .i64 c.str, .int .i64 c.bits, .int .i64 c.cap, .int .i64 c.node, .int .i64 c.bat, .int .i64 c.chk, .int .u64 c.lim, .int .u64 c.most], .int .u8 k] w fun e w' => e = .returned (.tuple #[.int .i64 1, .int .i64 1]) ∧ Below w.heap.size w w' := by
  rcases h with rfl | rfl | rfl
  all_goals
    go_enter Try.func52, Try.ntmps52
    go_wp2_with fail
    go_ret2
    exact ⟨rfl, by (repeat (first | exact Below.refl _ _ | assumption | apply Below.drew | apply below_drewN | (refine Below.alloc ?_ (by simp <;> omega) _) | (refine Below.setCell ?_ (by simp <;> omega) _)))⟩
set_option maxHeartbeats 400000 in
theorem counts_45 (c : Cfg) (k : Int) (w : World) (h : k = 4 ∨ k = 5) : Calls Try.prog 52 #[.agg #[.int .u8 c.ob, .int .i64 c.inst, .int .i64 c.thr, .int .u8 c.kd, .int .i64 c.str, .int .i64 c.bits, .int .i64 c.cap, .int .i64 c.node, .int .i64 c.bat, .int .i64 c.chk, .int .u64 c.lim, .int .u64 c.most], .int .u8 k] w fun e w' => e = .returned (.tuple #[.int .i64 c.thr, .int .i64 1]) ∧ Below w.heap.size w w' := by
  rcases h with rfl | rfl
  all_goals
    go_enter Try.func52, Try.ntmps52
    go_wp2_with fail
    go_ret2
    exact ⟨rfl, by (repeat (first | exact Below.refl _ _ | assumption | apply Below.drew | apply below_drewN | (refine Below.alloc ?_ (by simp <;> omega) _) | (refine Below.setCell ?_ (by simp <;> omega) _)))⟩
set_option maxHeartbeats 400000 in
theorem counts_6s (c : Cfg) (w : World) (h : (c.kd == 1) = true) : Calls Try.prog 52 #[.agg #[.int .u8 c.ob, .int .i64 c.inst, .int .i64 c.thr, .int .u8 c.kd, .int .i64 c.str, .int .i64 c.bits, .int .i64 c.cap, .int .i64 c.node, .int .i64 c.bat, .int .i64 c.chk, .int .u64 c.lim, .int .u64 c.most], .int .u8 6] w fun e w' => e = .returned (.tuple #[.int .i64 2, .int .i64 c.thr]) ∧ Below w.heap.size w w' := by
  go_enter Try.func52, Try.ntmps52
  go_wp2_with fail
  go_quiet (fail)
  go_wp2_with fail
  go_ret2
  exact ⟨rfl, by (repeat (first | exact Below.refl _ _ | assumption | apply Below.drew | apply below_drewN | (refine Below.alloc ?_ (by simp <;> omega) _) | (refine Below.setCell ?_ (by simp <;> omega) _)))⟩
set_option maxHeartbeats 400000 in
theorem counts_6n (c : Cfg) (w : World) (h : (c.kd == 1) = false) : Calls Try.prog 52 #[.agg #[.int .u8 c.ob, .int .i64 c.inst, .int .i64 c.thr, .int .u8 c.kd, .int .i64 c.str, .int .i64 c.bits, .int .i64 c.cap, .int .i64 c.node, .int .i64 c.bat, .int .i64 c.chk, .int .u64 c.lim, .int .u64 c.most], .int .u8 6] w fun e w' => e = .returned (.tuple #[.int .i64 0, .int .i64 0]) ∧ Below w.heap.size w w' := by
  go_enter Try.func52, Try.ntmps52
  go_wp2_with fail
  go_ret2
  exact ⟨rfl, by (repeat (first | exact Below.refl _ _ | assumption | apply Below.drew | apply below_drewN | (refine Below.alloc ?_ (by simp <;> omega) _) | (refine Below.setCell ?_ (by simp <;> omega) _)))⟩
set_option maxHeartbeats 400000 in
theorem counts_78s (c : Cfg) (k : Int) (w : World) (hk : k = 7 ∨ k = 8) (h : (c.kd == 2) = true) : Calls Try.prog 52 #[.agg #[.int .u8 c.ob, .int .i64 c.inst, .int .i64 c.thr, .int .u8 c.kd, .int .i64 c.str, .int .i64 c.bits, .int .i64 c.cap, .int .i64 c.node, .int .i64 c.bat, .int .i64 c.chk, .int .u64 c.lim, .int .u64 c.most], .int .u8 k] w fun e w' => e = .returned (.tuple #[.int .i64 2, .int .i64 c.str]) ∧ Below w.heap.size w w' := by
  rcases hk with rfl | rfl
  all_goals
    go_enter Try.func52, Try.ntmps52
    go_wp2_with fail
    go_quiet (fail)
    go_wp2_with fail
    go_ret2
    exact ⟨rfl, by (repeat (first | exact Below.refl _ _ | assumption | apply Below.drew | apply below_drewN | (refine Below.alloc ?_ (by simp <;> omega) _) | (refine Below.setCell ?_ (by simp <;> omega) _)))⟩
set_option maxHeartbeats 400000 in
theorem counts_78n (c : Cfg) (k : Int) (w : World) (hk : k = 7 ∨ k = 8) (h : (c.kd == 2) = false) : Calls Try.prog 52 #[.agg #[.int .u8 c.ob, .int .i64 c.inst, .int .i64 c.thr, .int .u8 c.kd, .int .i64 c.str, .int .i64 c.bits, .int .i64 c.cap, .int .i64 c.node, .int .i64 c.bat, .int .i64 c.chk, .int .u64 c.lim, .int .u64 c.most], .int .u8 k] w fun e w' => e = .returned (.tuple #[.int .i64 0, .int .i64 0]) ∧ Below w.heap.size w w' := by
  rcases hk with rfl | rfl
  all_goals
    go_enter Try.func52, Try.ntmps52
    go_wp2_with fail
    go_ret2
    exact ⟨rfl, by (repeat (first | exact Below.refl _ _ | assumption | apply Below.drew | apply below_drewN | (refine Below.alloc ?_ (by simp <;> omega) _) | (refine Below.setCell ?_ (by simp <;> omega) _)))⟩
set_option maxHeartbeats 400000 in
theorem counts_9 (c : Cfg) (w : World) : Calls Try.prog 52 #[.agg #[.int .u8 c.ob, .int .i64 c.inst, .int .i64 c.thr, .int .u8 c.kd, .int .i64 c.str, .int .i64 c.bits, .int .i64 c.cap, .int .i64 c.node, .int .i64 c.bat, .int .i64 c.chk, .int .u64 c.lim, .int .u64 c.most], .int .u8 9] w fun e w' => e = .returned (.tuple #[.int .i64 c.inst, .int .i64 1]) ∧ Below w.heap.size w w' := by
  go_enter Try.func52, Try.ntmps52
  go_wp2_with fail
  go_ret2
  exact ⟨rfl, by (repeat (first | exact Below.refl _ _ | assumption | apply Below.drew | apply below_drewN | (refine Below.alloc ?_ (by simp <;> omega) _) | (refine Below.setCell ?_ (by simp <;> omega) _)))⟩
set_option maxHeartbeats 400000 in
theorem counts_no (c : Cfg) (k : Int) (w : World) (h : k < 1 ∨ 10 < k) : Calls Try.prog 52 #[.agg #[.int .u8 c.ob, .int .i64 c.inst, .int .i64 c.thr, .int .u8 c.kd, .int .i64 c.str, .int .i64 c.bits, .int .i64 c.cap, .int .i64 c.node, .int .i64 c.bat, .int .i64 c.chk, .int .u64 c.lim, .int .u64 c.most], .int .u8 k] w fun e w' => e = .returned (.tuple #[.int .i64 0, .int .i64 0]) ∧ Below w.heap.size w w' := by
  have e1 : (k == 1) = false := by simp; omega
  have e2 : (k == 2) = false := by simp; omega
  have e3 : (k == 3) = false := by simp; omega
  have e4 : (k == 4) = false := by simp; omega
  have e5 : (k == 5) = false := by simp; omega
  have e6 : (k == 6) = false := by simp; omega
  have e7 : (k == 7) = false := by simp; omega
  have e8 : (k == 8) = false := by simp; omega
  have e9 : (k == 9) = false := by simp; omega
  have e10 : (k == 10) = false := by simp; omega
  clear h
  go_enter Try.func52, Try.ntmps52
  go_wp2_with fail
  go_ret2
  exact ⟨rfl, by (repeat (first | exact Below.refl _ _ | assumption | apply Below.drew | apply below_drewN | (refine Below.alloc ?_ (by simp <;> omega) _) | (refine Below.setCell ?_ (by simp <;> omega) _)))⟩
set_option maxHeartbeats 400000 in
theorem counts_10 (c : Cfg) (w : World) (hm : c.May) : Calls Try.prog 52 #[.agg #[.int .u8 c.ob, .int .i64 c.inst, .int .i64 c.thr, .int .u8 c.kd, .int .i64 c.str, .int .i64 c.bits, .int .i64 c.cap, .int .i64 c.node, .int .i64 c.bat, .int .i64 c.chk, .int .u64 c.lim, .int .u64 c.most], .int .u8 10] w fun e w' => e = .returned (.tuple #[.int .i64 c.inst, .int .i64 (greatN c)]) ∧ Below w.heap.size w w' := by
  have HM := Lib.hid hm
  clear hm
  go_enter Try.func52, Try.ntmps52
  go_wp2_with fail
  have hx := Box.new w 37 (cfgL c)
  have HB := Lib.hid (newB w (.cells ⟨cfgL c⟩ 37))
  unfold cfgL at *
  generalize w.alloc _ = V at *
  have x0 := hx.c 0 rfl
  have x1 := hx.c 1 rfl
  have x2 := hx.c 2 rfl
  have x3 := hx.c 3 rfl
  have x4 := hx.c 4 rfl
  have x5 := hx.c 5 rfl
  have x6 := hx.c 6 rfl
  have x7 := hx.c 7 rfl
  have x8 := hx.c 8 rfl
  have x9 := hx.c 9 rfl
  have x10 := hx.c 10 rfl
  have x11 := hx.c 11 rfl
  clear hx
  go_region_held3 (fun U => Below w.heap.size w U ∧ U.cell? ⟨w.heap.size, 0, none⟩ = some (.int .u8 c.ob) ∧ U.cell? ⟨w.heap.size, 1, none⟩ = some (.int .i64 c.inst) ∧ U.cell? ⟨w.heap.size, 2, none⟩ = some (.int .i64 c.thr) ∧ U.cell? ⟨w.heap.size, 3, none⟩ = some (.int .u8 c.kd) ∧ U.cell? ⟨w.heap.size, 4, none⟩ = some (.int .i64 c.str) ∧ U.cell? ⟨w.heap.size, 5, none⟩ = some (.int .i64 c.bits) ∧ U.cell? ⟨w.heap.size, 6, none⟩ = some (.int .i64 c.cap) ∧ U.cell? ⟨w.heap.size, 7, none⟩ = some (.int .i64 c.node) ∧ U.cell? ⟨w.heap.size, 8, none⟩ = some (.int .i64 c.bat) ∧ U.cell? ⟨w.heap.size, 9, none⟩ = some (.int .i64 c.chk) ∧ U.cell? ⟨w.heap.size, 10, none⟩ = some (.int .u64 c.lim) ∧ U.cell? ⟨w.heap.size, 11, none⟩ = some (.int .u64 c.most)) ((first | ((try go_split_ands); (repeat' apply And.intro); all_goals first | assumption | exact HB.out | exact Below.drew HB.out | (rw [World.cell?_drew]; assumption) | exact keepC hb (by first | assumption | (rw [World.cell?_drew]; assumption)) | exact keepB hb (by first | assumption | exact Below.drew (by assumption))))) ((go_at_call 51; refine (Great_any c _ HM.out).mono ?_; rintro e w' ⟨rfl, hb⟩))
  all_goals go_split_ands
  all_goals go_wp2_with fail
  all_goals go_ret2
  all_goals exact ⟨rfl, by assumption⟩

end Go.Proofs.Ytecjbgddjejjdaa
