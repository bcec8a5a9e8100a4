/- The walk of OpChecks. -/
import Derived.Test.YtoamhkgnnjoaaaaDoorOpF
namespace Go.Proofs.YtoamhkgnnjoaaaaDoor
open Go.RowKit


set_option maxRecDepth 100000 in
set_option maxHeartbeats 6400000 in
theorem checks_walk (c : Cfg) (n : Nat) (a b x : Int) (w : World) (hn : n < 256) (hk : 0 ≤ c.most) (ha : 0 ≤ a) (hb : 0 ≤ b) (hx : 0 ≤ x) (ha' : a ≤ 4294967295) (hb' : b ≤ 4294967295) (hx' : x ≤ 4294967295) (hO : Ob w ∧ Wr w) :
    Calls Tryd.prog 3 #[.agg #[.int .u8 c.ob, .int .i64 c.inst, .int .i64 c.thr, .int .u8 c.kd, .int .i64 c.str, .int .i64 c.bits, .int .i64 c.cap, .int .i64 c.node, .int .i64 c.bat, .int .i64 c.chk, .int .u64 c.lim, .int .u64 c.most], .agg #[.int .u8 n, .int .u32 a, .int .u32 b, .int .u32 x]] w fun e w' => e = .returned (.bool true) ∧ Below w.heap.size w w' := by
  have H1 := Lib.hid (show ∀ U, Below w.heap.size w U → Calls Tryd.prog 14 #[.int .u8 n] U fun e w' => e = .returned (.int .u8 (objZ n)) ∧ Below U.heap.size U w' from fun U h => (Object_any n U hn (hO.1.more h)).mono fun _ _ ⟨p, q⟩ => ⟨p, q ▸ Below.refl _ _⟩)
  have H2 := Lib.hid (show ∀ U, Below w.heap.size w U → Calls Tryd.prog 15 #[.int .u8 n] U fun e w' => e = .returned (.int .u8 (objZ n)) ∧ Below U.heap.size U w' from fun U _ => (rObject_any n U (by omega)).mono fun _ _ ⟨p, q⟩ => ⟨p, q ▸ Below.refl _ _⟩)
  have H3 := Lib.hid (show ∀ U, Below w.heap.size w U → Calls Tryd.prog 16 #[.int .u8 n] U fun e w' => e = .returned (.bool (writesZ n)) ∧ Below U.heap.size U w' from fun U h => (Writes_any n U hn (hO.2.more h)).mono fun _ _ ⟨p, q⟩ => ⟨p, q ▸ Below.refl _ _⟩)
  have H4 := Lib.hid (show ∀ U, Below w.heap.size w U → Calls Tryd.prog 17 #[.int .u8 n] U fun e w' => e = .returned (.bool (writesZ n)) ∧ Below U.heap.size U w' from fun U _ => (rWrites_any n U).mono fun _ _ ⟨p, q⟩ => ⟨p, q ▸ Below.refl _ _⟩)
  have H5 := Lib.hid (show ∀ U, Below w.heap.size w U → Calls Tryd.prog 18 #[.agg #[.int .u8 c.ob, .int .i64 c.inst, .int .i64 c.thr, .int .u8 c.kd, .int .i64 c.str, .int .i64 c.bits, .int .i64 c.cap, .int .i64 c.node, .int .i64 c.bat, .int .i64 c.chk, .int .u64 c.lim, .int .u64 c.most], .agg #[.int .u8 n, .int .u32 a, .int .u32 b, .int .u32 x]] U fun e w' => e = .returned (.int .i64 (opE c n a b x)) ∧ Below U.heap.size U w' from fun U h => opCheck_any c n a b x U hn ha hb hx ha' hb' hx' (hO.1.more h))
  have H6 := Lib.hid (show ∀ U, Below w.heap.size w U → Calls Tryd.prog 19 #[.agg #[.int .u8 c.ob, .int .i64 c.inst, .int .i64 c.thr, .int .u8 c.kd, .int .i64 c.str, .int .i64 c.bits, .int .i64 c.cap, .int .i64 c.node, .int .i64 c.bat, .int .i64 c.chk, .int .u64 c.lim, .int .u64 c.most], .agg #[.int .u8 n, .int .u32 a, .int .u32 b, .int .u32 x]] U fun e w' => e = .returned (.int .i64 (opE c n a b x)) ∧ Below U.heap.size U w' from fun U _ => ropCheck_any c n a b x U (by omega) hk ha hb hx ha' hb' hx')
  clear hO hk ha hb hx ha' hb' hx' hn
  generalize objZ n = v1 at *
  generalize writesZ n = v2 at *
  generalize opE c n a b x = v3 at *
  generalize (n : Int) = k at *
  go_enter Tryd.func3, Tryd.ntmps3
  go_wp2_with fail
  have hx := (Box.new w 24 (cfgL c)).alloc (.cells #[.int .u8 k, .int .u32 a, .int .u32 b, .int .u32 x] 27)
  have hq := Box.new (w.alloc (.cells ⟨cfgL c⟩ 24)) 27 [.int .u8 k, .int .u32 a, .int .u32 b, .int .u32 x]
  have HB := Lib.hid (moreB (newB w (.cells ⟨cfgL c⟩ 24)) (.cells #[.int .u8 k, .int .u32 a, .int .u32 b, .int .u32 x] 27))
  rw [World.size_alloc] at hq
  unfold cfgL at *
  generalize (w.alloc _).alloc _ = V at *
  have x0 := hx.c 0 rfl
  have x1 := hx.c 1 rfl
  have x2 := hx.c 2 rfl
  have x3 := hx.c 3 rfl
  have x4 := hx.c 4 rfl
  have x5 := hx.c 5 rfl
  have x6 := hx.c 6 rfl
  have x7 := hx.c 7 rfl
  have x8 := hx.c 8 rfl
  have x9 := hx.c 9 rfl
  have x10 := hx.c 10 rfl
  have x11 := hx.c 11 rfl
  have q0 := hq.c 0 rfl
  have q1 := hq.c 1 rfl
  have q2 := hq.c 2 rfl
  have q3 := hq.c 3 rfl
  clear hx hq
  go_region_held3 (fun U => Below w.heap.size w U ∧ U.cell? ⟨w.heap.size + 1, 0, none⟩ = some (.int .u8 k) ∧ U.cell? ⟨w.heap.size + 1, 1, none⟩ = some (.int .u32 a) ∧ U.cell? ⟨w.heap.size + 1, 2, none⟩ = some (.int .u32 b) ∧ U.cell? ⟨w.heap.size + 1, 3, none⟩ = some (.int .u32 x) ∧ U.cell? ⟨w.heap.size, 0, none⟩ = some (.int .u8 c.ob) ∧ U.cell? ⟨w.heap.size, 1, none⟩ = some (.int .i64 c.inst) ∧ U.cell? ⟨w.heap.size, 2, none⟩ = some (.int .i64 c.thr) ∧ U.cell? ⟨w.heap.size, 3, none⟩ = some (.int .u8 c.kd) ∧ U.cell? ⟨w.heap.size, 4, none⟩ = some (.int .i64 c.str) ∧ U.cell? ⟨w.heap.size, 5, none⟩ = some (.int .i64 c.bits) ∧ U.cell? ⟨w.heap.size, 6, none⟩ = some (.int .i64 c.cap) ∧ U.cell? ⟨w.heap.size, 7, none⟩ = some (.int .i64 c.node) ∧ U.cell? ⟨w.heap.size, 8, none⟩ = some (.int .i64 c.bat) ∧ U.cell? ⟨w.heap.size, 9, none⟩ = some (.int .i64 c.chk) ∧ U.cell? ⟨w.heap.size, 10, none⟩ = some (.int .u64 c.lim) ∧ U.cell? ⟨w.heap.size, 11, none⟩ = some (.int .u64 c.most)) ((first | ((try go_split_ands); (repeat' apply And.intro); all_goals first | assumption | exact HB.out | exact Below.drew HB.out | (rw [World.cell?_drew]; assumption) | exact keepC hb (by first | assumption | (rw [World.cell?_drew]; assumption)) | exact keepB hb (by first | assumption | exact Below.drew (by assumption))))) (first | (go_at_call 14; refine (H1.out _ (And.left (by assumption))).mono ?_; rintro e w' ⟨rfl, hb⟩) | (go_at_call 15; refine (H2.out _ (And.left (by assumption))).mono ?_; rintro e w' ⟨rfl, hb⟩) | (go_at_call 16; refine (H3.out _ (And.left (by assumption))).mono ?_; rintro e w' ⟨rfl, hb⟩) | (go_at_call 17; refine (H4.out _ (And.left (by assumption))).mono ?_; rintro e w' ⟨rfl, hb⟩) | (go_at_call 18; refine (H5.out _ (And.left (by assumption))).mono ?_; rintro e w' ⟨rfl, hb⟩) | (go_at_call 19; refine (H6.out _ (And.left (by assumption))).mono ?_; rintro e w' ⟨rfl, hb⟩))
  all_goals go_split_ands
  all_goals go_wp2_with fail
  all_goals go_ret
  all_goals exact ⟨rfl, by assumption⟩

set_option linter.unusedVariables false in
theorem walk_OpChecks (n0_0 n0_1 n0_2 n0_3 n0_4 n0_5 n0_6 n0_7 n0_8 n0_9 n0_10 n0_11 n1_0 n1_1 n1_2 n1_3 : Int) (w : World) (b0_0 : IntKind.u8.min ≤ n0_0 ∧ n0_0 ≤ IntKind.u8.max) (b0_1 : IntKind.i64.min ≤ n0_1 ∧ n0_1 ≤ IntKind.i64.max) (b0_2 : IntKind.i64.min ≤ n0_2 ∧ n0_2 ≤ IntKind.i64.max) (b0_3 : IntKind.u8.min ≤ n0_3 ∧ n0_3 ≤ IntKind.u8.max) (b0_4 : IntKind.i64.min ≤ n0_4 ∧ n0_4 ≤ IntKind.i64.max) (b0_5 : IntKind.i64.min ≤ n0_5 ∧ n0_5 ≤ IntKind.i64.max) (b0_6 : IntKind.i64.min ≤ n0_6 ∧ n0_6 ≤ IntKind.i64.max) (b0_7 : IntKind.i64.min ≤ n0_7 ∧ n0_7 ≤ IntKind.i64.max) (b0_8 : IntKind.i64.min ≤ n0_8 ∧ n0_8 ≤ IntKind.i64.max) (b0_9 : IntKind.i64.min ≤ n0_9 ∧ n0_9 ≤ IntKind.i64.max) (b0_10 : IntKind.u64.min ≤ n0_10 ∧ n0_10 ≤ IntKind.u64.max) (b0_11 : IntKind.u64.min ≤ n0_11 ∧ n0_11 ≤ IntKind.u64.max) (b1_0 : IntKind.u8.min ≤ n1_0 ∧ n1_0 ≤ IntKind.u8.max) (b1_1 : IntKind.u32.min ≤ n1_1 ∧ n1_1 ≤ IntKind.u32.max) (b1_2 : IntKind.u32.min ≤ n1_2 ∧ n1_2 ≤ IntKind.u32.max) (b1_3 : IntKind.u32.min ≤ n1_3 ∧ n1_3 ≤ IntKind.u32.max) (hO : Ob w ∧ Wr w) :
    Calls Tryd.prog 3 #[.agg #[.int .u8 n0_0, .int .i64 n0_1, .int .i64 n0_2, .int .u8 n0_3, .int .i64 n0_4, .int .i64 n0_5, .int .i64 n0_6, .int .i64 n0_7, .int .i64 n0_8, .int .i64 n0_9, .int .u64 n0_10, .int .u64 n0_11], .agg #[.int .u8 n1_0, .int .u32 n1_1, .int .u32 n1_2, .int .u32 n1_3]] w fun e w' => e = .returned (.bool true) ∧ Below w.heap.size w w' := by
  simp [IntKind.min, IntKind.max, IntKind.signed, IntKind.bits] at b0_11 b1_0 b1_1 b1_2 b1_3
  obtain ⟨k, rfl⟩ := Int.eq_ofNat_of_zero_le b1_0.1
  exact checks_walk ⟨n0_0, n0_1, n0_2, n0_3, n0_4, n0_5, n0_6, n0_7, n0_8, n0_9, n0_10, n0_11⟩ k n1_1 n1_2 n1_3 w (by omega) b0_11.1 b1_1.1 b1_2.1 b1_3.1 b1_1.2 b1_2.2 b1_3.2 hO

end Go.Proofs.YtoamhkgnnjoaaaaDoor
