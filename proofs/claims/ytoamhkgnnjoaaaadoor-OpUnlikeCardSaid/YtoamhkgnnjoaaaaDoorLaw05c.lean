/- The walk of OpUnlike. -/
import Derived.Test.YtoamhkgnnjoaaaaDoorAlive05
namespace Go.Proofs.YtoamhkgnnjoaaaaDoor
open Go.RowKit


/-- The calls' contracts, the words given. -/
structure Two (n k a b x n' k' a' b' x' W W' : Int) (w : World) : Prop where
  h0 : ∀ U, Below w.heap.size w U → Calls Tryd.prog 33 #[] U fun e w' => e = .returned (.bool true) ∧ Below U.heap.size U w'
  h1 : ∀ U, Below w.heap.size w U → Calls Tryd.prog 34 #[.int .u64 n, .agg #[.int .u8 k, .int .u32 a, .int .u32 b, .int .u32 x]] U fun e w' => e = .returned (.agg #[.int .u64 n, .int .u64 W, .int .u64 b, .int .u64 x]) ∧ Below U.heap.size U w'
  h2 : ∀ U, Below w.heap.size w U → Calls Tryd.prog 34 #[.int .u64 n', .agg #[.int .u8 k', .int .u32 a', .int .u32 b', .int .u32 x']] U fun e w' => e = .returned (.agg #[.int .u64 n', .int .u64 W', .int .u64 b', .int .u64 x']) ∧ Below U.heap.size U w'

set_option maxRecDepth 100000 in
set_option maxHeartbeats 12800000 in
theorem unlike_num (n k a b x W n' k' a' b' x' W' : Int) (w : World) (h : Two n k a b x n' k' a' b' x' W W' w) (e1 : (n == n') = false) :
    Calls Tryd.prog 6 #[.int .u64 n, .agg #[.int .u8 k, .int .u32 a, .int .u32 b, .int .u32 x], .int .u64 n', .agg #[.int .u8 k', .int .u32 a', .int .u32 b', .int .u32 x']] w fun e w' => e = .returned (.bool true) ∧ Below w.heap.size w w' := by
  have H0 := Lib.hid h.h0; have H1 := Lib.hid h.h1; have H2 := Lib.hid h.h2
  clear h
  go_enter Tryd.func6, Tryd.ntmps6
  go_wp2_with fail
  have hq := (Box.new w 27 [.int .u8 k, .int .u32 a, .int .u32 b, .int .u32 x]).alloc (.cells #[.int .u8 k', .int .u32 a', .int .u32 b', .int .u32 x'] 27)
  have hr := Box.new (w.alloc (.cells #[.int .u8 k, .int .u32 a, .int .u32 b, .int .u32 x] 27)) 27 [.int .u8 k', .int .u32 a', .int .u32 b', .int .u32 x']
  have HB := Lib.hid (moreB (newB w (.cells #[.int .u8 k, .int .u32 a, .int .u32 b, .int .u32 x] 27)) (.cells #[.int .u8 k', .int .u32 a', .int .u32 b', .int .u32 x'] 27))
  rw [World.size_alloc] at hr
  generalize (w.alloc _).alloc _ = V at *
  have q0 := hq.c 0 rfl
  have q1 := hq.c 1 rfl
  have q2 := hq.c 2 rfl
  have q3 := hq.c 3 rfl
  have r0 := hr.c 0 rfl
  have r1 := hr.c 1 rfl
  have r2 := hr.c 2 rfl
  have r3 := hr.c 3 rfl
  clear hq hr
  first
  | go_region_with (first
    | (go_at_call 33; refine (H0.out _ (Below.drew HB.out)).mono ?_; rintro e w' ⟨rfl, hb⟩; have HB := Lib.hid (keepB hb (Below.drew HB.out)); have q0 := keepC hb (show V.drew.cell? _ = _ by rw [World.cell?_drew]; exact q0); have q1 := keepC hb (show V.drew.cell? _ = _ by rw [World.cell?_drew]; exact q1); have q2 := keepC hb (show V.drew.cell? _ = _ by rw [World.cell?_drew]; exact q2); have q3 := keepC hb (show V.drew.cell? _ = _ by rw [World.cell?_drew]; exact q3); have r0 := keepC hb (show V.drew.cell? _ = _ by rw [World.cell?_drew]; exact r0); have r1 := keepC hb (show V.drew.cell? _ = _ by rw [World.cell?_drew]; exact r1); have r2 := keepC hb (show V.drew.cell? _ = _ by rw [World.cell?_drew]; exact r2); have r3 := keepC hb (show V.drew.cell? _ = _ by rw [World.cell?_drew]; exact r3))
    | (go_at_call 34; with_reducible refine (H1.out _ HB.out).mono ?_; rintro e w' ⟨rfl, hb⟩; have HB := Lib.hid (keepB hb HB.out); have q0 := keepC hb q0; have q1 := keepC hb q1; have q2 := keepC hb q2; have q3 := keepC hb q3; have r0 := keepC hb r0; have r1 := keepC hb r1; have r2 := keepC hb r2; have r3 := keepC hb r3)
    | (go_at_call 34; with_reducible refine (H2.out _ HB.out).mono ?_; rintro e w' ⟨rfl, hb⟩; have HB := Lib.hid (keepB hb HB.out); have q0 := keepC hb q0; have q1 := keepC hb q1; have q2 := keepC hb q2; have q3 := keepC hb q3; have r0 := keepC hb r0; have r1 := keepC hb r1; have r2 := keepC hb r2; have r3 := keepC hb r3))
  | fail
  all_goals go_wp2_with fail
  all_goals go_ret
  all_goals exact ⟨rfl, HB.out⟩

set_option maxRecDepth 100000 in
set_option maxHeartbeats 12800000 in
theorem unlike_kind (n k a b x W k' a' b' x' W' : Int) (w : World) (h : Two n k a b x n k' a' b' x' W W' w) (e1 : (W == W') = false) (e2 : (k == k') = false) :
    Calls Tryd.prog 6 #[.int .u64 n, .agg #[.int .u8 k, .int .u32 a, .int .u32 b, .int .u32 x], .int .u64 n, .agg #[.int .u8 k', .int .u32 a', .int .u32 b', .int .u32 x']] w fun e w' => e = .returned (.bool true) ∧ Below w.heap.size w w' := by
  have H0 := Lib.hid h.h0; have H1 := Lib.hid h.h1; have H2 := Lib.hid h.h2
  clear h
  go_enter Tryd.func6, Tryd.ntmps6
  go_wp2_with fail
  have hq := (Box.new w 27 [.int .u8 k, .int .u32 a, .int .u32 b, .int .u32 x]).alloc (.cells #[.int .u8 k', .int .u32 a', .int .u32 b', .int .u32 x'] 27)
  have hr := Box.new (w.alloc (.cells #[.int .u8 k, .int .u32 a, .int .u32 b, .int .u32 x] 27)) 27 [.int .u8 k', .int .u32 a', .int .u32 b', .int .u32 x']
  have HB := Lib.hid (moreB (newB w (.cells #[.int .u8 k, .int .u32 a, .int .u32 b, .int .u32 x] 27)) (.cells #[.int .u8 k', .int .u32 a', .int .u32 b', .int .u32 x'] 27))
  rw [World.size_alloc] at hr
  generalize (w.alloc _).alloc _ = V at *
  have q0 := hq.c 0 rfl
  have q1 := hq.c 1 rfl
  have q2 := hq.c 2 rfl
  have q3 := hq.c 3 rfl
  have r0 := hr.c 0 rfl
  have r1 := hr.c 1 rfl
  have r2 := hr.c 2 rfl
  have r3 := hr.c 3 rfl
  clear hq hr
  go_region_held3 (fun U => Below w.heap.size w U ∧ U.cell? ⟨w.heap.size, 0, none⟩ = some (.int .u8 k) ∧ U.cell? ⟨w.heap.size, 1, none⟩ = some (.int .u32 a) ∧ U.cell? ⟨w.heap.size, 2, none⟩ = some (.int .u32 b) ∧ U.cell? ⟨w.heap.size, 3, none⟩ = some (.int .u32 x) ∧ U.cell? ⟨w.heap.size + 1, 0, none⟩ = some (.int .u8 k') ∧ U.cell? ⟨w.heap.size + 1, 1, none⟩ = some (.int .u32 a') ∧ U.cell? ⟨w.heap.size + 1, 2, none⟩ = some (.int .u32 b') ∧ U.cell? ⟨w.heap.size + 1, 3, none⟩ = some (.int .u32 x')) ((first | ((try go_split_ands); (repeat' apply And.intro); all_goals first | assumption | exact HB.out | exact Below.drew HB.out | (rw [World.cell?_drew]; assumption) | exact keepC hb (by first | assumption | (rw [World.cell?_drew]; assumption)) | exact keepB hb (by first | assumption | exact Below.drew (by assumption))))) (first | ((go_at_call 33; (with_reducible refine (H0.out _ (And.left (by assumption))).mono ?_); rintro e w' ⟨rfl, hb⟩)) | ((go_at_call 34; (with_reducible refine (H1.out _ (And.left (by assumption))).mono ?_); rintro e w' ⟨rfl, hb⟩)) | ((go_at_call 34; (with_reducible refine (H2.out _ (And.left (by assumption))).mono ?_); rintro e w' ⟨rfl, hb⟩)))
  all_goals go_split_ands
  all_goals go_wp2_with fail
  all_goals go_ret
  all_goals exact ⟨rfl, by assumption⟩

set_option maxRecDepth 100000 in
set_option maxHeartbeats 12800000 in
theorem unlike_a (n k a b x W a' b' x' W' : Int) (w : World) (h : Two n k a b x n k a' b' x' W W' w) (e1 : (W == W') = false) (e2 : (a == a') = false) :
    Calls Tryd.prog 6 #[.int .u64 n, .agg #[.int .u8 k, .int .u32 a, .int .u32 b, .int .u32 x], .int .u64 n, .agg #[.int .u8 k, .int .u32 a', .int .u32 b', .int .u32 x']] w fun e w' => e = .returned (.bool true) ∧ Below w.heap.size w w' := by
  have H0 := Lib.hid h.h0; have H1 := Lib.hid h.h1; have H2 := Lib.hid h.h2
  clear h
  go_enter Tryd.func6, Tryd.ntmps6
  go_wp2_with fail
  have hq := (Box.new w 27 [.int .u8 k, .int .u32 a, .int .u32 b, .int .u32 x]).alloc (.cells #[.int .u8 k, .int .u32 a', .int .u32 b', .int .u32 x'] 27)
  have hr := Box.new (w.alloc (.cells #[.int .u8 k, .int .u32 a, .int .u32 b, .int .u32 x] 27)) 27 [.int .u8 k, .int .u32 a', .int .u32 b', .int .u32 x']
  have HB := Lib.hid (moreB (newB w (.cells #[.int .u8 k, .int .u32 a, .int .u32 b, .int .u32 x] 27)) (.cells #[.int .u8 k, .int .u32 a', .int .u32 b', .int .u32 x'] 27))
  rw [World.size_alloc] at hr
  generalize (w.alloc _).alloc _ = V at *
  have q0 := hq.c 0 rfl
  have q1 := hq.c 1 rfl
  have q2 := hq.c 2 rfl
  have q3 := hq.c 3 rfl
  have r0 := hr.c 0 rfl
  have r1 := hr.c 1 rfl
  have r2 := hr.c 2 rfl
  have r3 := hr.c 3 rfl
  clear hq hr
  go_region_held3 (fun U => Below w.heap.size w U ∧ U.cell? ⟨w.heap.size, 0, none⟩ = some (.int .u8 k) ∧ U.cell? ⟨w.heap.size, 1, none⟩ = some (.int .u32 a) ∧ U.cell? ⟨w.heap.size, 2, none⟩ = some (.int .u32 b) ∧ U.cell? ⟨w.heap.size, 3, none⟩ = some (.int .u32 x) ∧ U.cell? ⟨w.heap.size + 1, 0, none⟩ = some (.int .u8 k) ∧ U.cell? ⟨w.heap.size + 1, 1, none⟩ = some (.int .u32 a') ∧ U.cell? ⟨w.heap.size + 1, 2, none⟩ = some (.int .u32 b') ∧ U.cell? ⟨w.heap.size + 1, 3, none⟩ = some (.int .u32 x')) ((first | ((try go_split_ands); (repeat' apply And.intro); all_goals first | assumption | exact HB.out | exact Below.drew HB.out | (rw [World.cell?_drew]; assumption) | exact keepC hb (by first | assumption | (rw [World.cell?_drew]; assumption)) | exact keepB hb (by first | assumption | exact Below.drew (by assumption))))) (first | ((go_at_call 33; (with_reducible refine (H0.out _ (And.left (by assumption))).mono ?_); rintro e w' ⟨rfl, hb⟩)) | ((go_at_call 34; (with_reducible refine (H1.out _ (And.left (by assumption))).mono ?_); rintro e w' ⟨rfl, hb⟩)) | ((go_at_call 34; (with_reducible refine (H2.out _ (And.left (by assumption))).mono ?_); rintro e w' ⟨rfl, hb⟩)))
  all_goals go_split_ands
  all_goals go_wp2_with fail
  all_goals go_ret
  all_goals exact ⟨rfl, by assumption⟩

set_option maxRecDepth 100000 in
set_option maxHeartbeats 12800000 in
theorem unlike_b (n k a b x W b' x' : Int) (w : World) (h : Two n k a b x n k a b' x' W W w) (e1 : (b == b') = false) :
    Calls Tryd.prog 6 #[.int .u64 n, .agg #[.int .u8 k, .int .u32 a, .int .u32 b, .int .u32 x], .int .u64 n, .agg #[.int .u8 k, .int .u32 a, .int .u32 b', .int .u32 x']] w fun e w' => e = .returned (.bool true) ∧ Below w.heap.size w w' := by
  have H0 := Lib.hid h.h0; have H1 := Lib.hid h.h1; have H2 := Lib.hid h.h2
  clear h
  go_enter Tryd.func6, Tryd.ntmps6
  go_wp2_with fail
  have hq := (Box.new w 27 [.int .u8 k, .int .u32 a, .int .u32 b, .int .u32 x]).alloc (.cells #[.int .u8 k, .int .u32 a, .int .u32 b', .int .u32 x'] 27)
  have hr := Box.new (w.alloc (.cells #[.int .u8 k, .int .u32 a, .int .u32 b, .int .u32 x] 27)) 27 [.int .u8 k, .int .u32 a, .int .u32 b', .int .u32 x']
  have HB := Lib.hid (moreB (newB w (.cells #[.int .u8 k, .int .u32 a, .int .u32 b, .int .u32 x] 27)) (.cells #[.int .u8 k, .int .u32 a, .int .u32 b', .int .u32 x'] 27))
  rw [World.size_alloc] at hr
  generalize (w.alloc _).alloc _ = V at *
  have q0 := hq.c 0 rfl
  have q1 := hq.c 1 rfl
  have q2 := hq.c 2 rfl
  have q3 := hq.c 3 rfl
  have r0 := hr.c 0 rfl
  have r1 := hr.c 1 rfl
  have r2 := hr.c 2 rfl
  have r3 := hr.c 3 rfl
  clear hq hr
  go_region_held3 (fun U => Below w.heap.size w U ∧ U.cell? ⟨w.heap.size, 0, none⟩ = some (.int .u8 k) ∧ U.cell? ⟨w.heap.size, 1, none⟩ = some (.int .u32 a) ∧ U.cell? ⟨w.heap.size, 2, none⟩ = some (.int .u32 b) ∧ U.cell? ⟨w.heap.size, 3, none⟩ = some (.int .u32 x) ∧ U.cell? ⟨w.heap.size + 1, 0, none⟩ = some (.int .u8 k) ∧ U.cell? ⟨w.heap.size + 1, 1, none⟩ = some (.int .u32 a) ∧ U.cell? ⟨w.heap.size + 1, 2, none⟩ = some (.int .u32 b') ∧ U.cell? ⟨w.heap.size + 1, 3, none⟩ = some (.int .u32 x')) ((first | ((try go_split_ands); (repeat' apply And.intro); all_goals first | assumption | exact HB.out | exact Below.drew HB.out | (rw [World.cell?_drew]; assumption) | exact keepC hb (by first | assumption | (rw [World.cell?_drew]; assumption)) | exact keepB hb (by first | assumption | exact Below.drew (by assumption))))) (first | ((go_at_call 33; (with_reducible refine (H0.out _ (And.left (by assumption))).mono ?_); rintro e w' ⟨rfl, hb⟩)) | ((go_at_call 34; (with_reducible refine (H1.out _ (And.left (by assumption))).mono ?_); rintro e w' ⟨rfl, hb⟩)) | ((go_at_call 34; (with_reducible refine (H2.out _ (And.left (by assumption))).mono ?_); rintro e w' ⟨rfl, hb⟩)))
  all_goals go_split_ands
  all_goals go_wp2_with fail
  all_goals go_ret
  all_goals exact ⟨rfl, by assumption⟩

set_option maxRecDepth 100000 in
set_option maxHeartbeats 12800000 in
theorem unlike_x (n k a b x W x' : Int) (w : World) (h : Two n k a b x n k a b x' W W w) (e1 : (x == x') = false) :
    Calls Tryd.prog 6 #[.int .u64 n, .agg #[.int .u8 k, .int .u32 a, .int .u32 b, .int .u32 x], .int .u64 n, .agg #[.int .u8 k, .int .u32 a, .int .u32 b, .int .u32 x']] w fun e w' => e = .returned (.bool true) ∧ Below w.heap.size w w' := by
  have H0 := Lib.hid h.h0; have H1 := Lib.hid h.h1; have H2 := Lib.hid h.h2
  clear h
  go_enter Tryd.func6, Tryd.ntmps6
  go_wp2_with fail
  have hq := (Box.new w 27 [.int .u8 k, .int .u32 a, .int .u32 b, .int .u32 x]).alloc (.cells #[.int .u8 k, .int .u32 a, .int .u32 b, .int .u32 x'] 27)
  have hr := Box.new (w.alloc (.cells #[.int .u8 k, .int .u32 a, .int .u32 b, .int .u32 x] 27)) 27 [.int .u8 k, .int .u32 a, .int .u32 b, .int .u32 x']
  have HB := Lib.hid (moreB (newB w (.cells #[.int .u8 k, .int .u32 a, .int .u32 b, .int .u32 x] 27)) (.cells #[.int .u8 k, .int .u32 a, .int .u32 b, .int .u32 x'] 27))
  rw [World.size_alloc] at hr
  generalize (w.alloc _).alloc _ = V at *
  have q0 := hq.c 0 rfl
  have q1 := hq.c 1 rfl
  have q2 := hq.c 2 rfl
  have q3 := hq.c 3 rfl
  have r0 := hr.c 0 rfl
  have r1 := hr.c 1 rfl
  have r2 := hr.c 2 rfl
  have r3 := hr.c 3 rfl
  clear hq hr
  go_region_held3 (fun U => Below w.heap.size w U ∧ U.cell? ⟨w.heap.size, 0, none⟩ = some (.int .u8 k) ∧ U.cell? ⟨w.heap.size, 1, none⟩ = some (.int .u32 a) ∧ U.cell? ⟨w.heap.size, 2, none⟩ = some (.int .u32 b) ∧ U.cell? ⟨w.heap.size, 3, none⟩ = some (.int .u32 x) ∧ U.cell? ⟨w.heap.size + 1, 0, none⟩ = some (.int .u8 k) ∧ U.cell? ⟨w.heap.size + 1, 1, none⟩ = some (.int .u32 a) ∧ U.cell? ⟨w.heap.size + 1, 2, none⟩ = some (.int .u32 b) ∧ U.cell? ⟨w.heap.size + 1, 3, none⟩ = some (.int .u32 x')) ((first | ((try go_split_ands); (repeat' apply And.intro); all_goals first | assumption | exact HB.out | exact Below.drew HB.out | (rw [World.cell?_drew]; assumption) | exact keepC hb (by first | assumption | (rw [World.cell?_drew]; assumption)) | exact keepB hb (by first | assumption | exact Below.drew (by assumption))))) (first | ((go_at_call 33; (with_reducible refine (H0.out _ (And.left (by assumption))).mono ?_); rintro e w' ⟨rfl, hb⟩)) | ((go_at_call 34; (with_reducible refine (H1.out _ (And.left (by assumption))).mono ?_); rintro e w' ⟨rfl, hb⟩)) | ((go_at_call 34; (with_reducible refine (H2.out _ (And.left (by assumption))).mono ?_); rintro e w' ⟨rfl, hb⟩)))
  all_goals go_split_ands
  all_goals go_wp2_with fail
  all_goals go_ret
  all_goals exact ⟨rfl, by assumption⟩

set_option maxRecDepth 100000 in
set_option maxHeartbeats 12800000 in
theorem unlike_eq (n k a b x W  : Int) (w : World) (h : Two n k a b x n k a b x W W w) :
    Calls Tryd.prog 6 #[.int .u64 n, .agg #[.int .u8 k, .int .u32 a, .int .u32 b, .int .u32 x], .int .u64 n, .agg #[.int .u8 k, .int .u32 a, .int .u32 b, .int .u32 x]] w fun e w' => e = .returned (.bool true) ∧ Below w.heap.size w w' := by
  have H0 := Lib.hid h.h0; have H1 := Lib.hid h.h1; have H2 := Lib.hid h.h2
  clear h
  go_enter Tryd.func6, Tryd.ntmps6
  go_wp2_with fail
  have hq := (Box.new w 27 [.int .u8 k, .int .u32 a, .int .u32 b, .int .u32 x]).alloc (.cells #[.int .u8 k, .int .u32 a, .int .u32 b, .int .u32 x] 27)
  have hr := Box.new (w.alloc (.cells #[.int .u8 k, .int .u32 a, .int .u32 b, .int .u32 x] 27)) 27 [.int .u8 k, .int .u32 a, .int .u32 b, .int .u32 x]
  have HB := Lib.hid (moreB (newB w (.cells #[.int .u8 k, .int .u32 a, .int .u32 b, .int .u32 x] 27)) (.cells #[.int .u8 k, .int .u32 a, .int .u32 b, .int .u32 x] 27))
  rw [World.size_alloc] at hr
  generalize (w.alloc _).alloc _ = V at *
  have q0 := hq.c 0 rfl
  have q1 := hq.c 1 rfl
  have q2 := hq.c 2 rfl
  have q3 := hq.c 3 rfl
  have r0 := hr.c 0 rfl
  have r1 := hr.c 1 rfl
  have r2 := hr.c 2 rfl
  have r3 := hr.c 3 rfl
  clear hq hr
  go_region_held3 (fun U => Below w.heap.size w U ∧ U.cell? ⟨w.heap.size, 0, none⟩ = some (.int .u8 k) ∧ U.cell? ⟨w.heap.size, 1, none⟩ = some (.int .u32 a) ∧ U.cell? ⟨w.heap.size, 2, none⟩ = some (.int .u32 b) ∧ U.cell? ⟨w.heap.size, 3, none⟩ = some (.int .u32 x) ∧ U.cell? ⟨w.heap.size + 1, 0, none⟩ = some (.int .u8 k) ∧ U.cell? ⟨w.heap.size + 1, 1, none⟩ = some (.int .u32 a) ∧ U.cell? ⟨w.heap.size + 1, 2, none⟩ = some (.int .u32 b) ∧ U.cell? ⟨w.heap.size + 1, 3, none⟩ = some (.int .u32 x)) ((first | ((try go_split_ands); (repeat' apply And.intro); all_goals first | assumption | exact HB.out | exact Below.drew HB.out | (rw [World.cell?_drew]; assumption) | exact keepC hb (by first | assumption | (rw [World.cell?_drew]; assumption)) | exact keepB hb (by first | assumption | exact Below.drew (by assumption))))) (first | ((go_at_call 33; (with_reducible refine (H0.out _ (And.left (by assumption))).mono ?_); rintro e w' ⟨rfl, hb⟩)) | ((go_at_call 34; (with_reducible refine (H1.out _ (And.left (by assumption))).mono ?_); rintro e w' ⟨rfl, hb⟩)) | ((go_at_call 34; (with_reducible refine (H2.out _ (And.left (by assumption))).mono ?_); rintro e w' ⟨rfl, hb⟩)))
  all_goals go_split_ands
  all_goals go_wp2_with fail
  all_goals go_ret
  all_goals exact ⟨rfl, by assumption⟩

theorem unlike_walk (s k a b c s' k' a' b' c' : Nat) (w : World) (hk : k < 256) (ha : a < 4294967296) (hb : b < 4294967296) (hc : c < 4294967296) (hk' : k' < 256) (ha' : a' < 4294967296) (hb' : b' < 4294967296) (hc' : c' < 4294967296) (hO : Ob w) :
    Calls Tryd.prog 6 #[.int .u64 s, .agg #[.int .u8 k, .int .u32 a, .int .u32 b, .int .u32 c], .int .u64 s', .agg #[.int .u8 k', .int .u32 a', .int .u32 b', .int .u32 c']] w fun e w' => e = .returned (.bool true) ∧ Below w.heap.size w w' := by
  have T : Two s k a b c s' k' a' b' c' ((a * 256 + k : Nat) : Int) ((a' * 256 + k' : Nat) : Int) w := ⟨fun U h => alive05_any U (hO.more h), fun U _ => Laid_any s k a b c U hk ha hb hc, fun U _ => Laid_any s' k' a' b' c' U hk' ha' hb' hc'⟩
  by_cases h0 : s = s'
  · subst h0
    by_cases h1 : k = k'
    · subst h1
      by_cases h2 : a = a'
      · subst h2
        by_cases h3 : b = b'
        · subst h3
          by_cases h4 : c = c'
          · subst h4; exact unlike_eq _ _ _ _ _ _ w T
          · exact unlike_x _ _ _ _ _ _ _ w T (by simp; omega)
        · exact unlike_b _ _ _ _ _ _ _ _ w T (by simp; omega)
      · exact unlike_a _ _ _ _ _ _ _ _ _ _ w T (by simp; omega) (by simp; omega)
    · exact unlike_kind _ _ _ _ _ _ _ _ _ _ _ w T (by simp; omega) (by simp; omega)
  · exact unlike_num _ _ _ _ _ _ _ _ _ _ _ _ w T (by simp; omega)

set_option linter.unusedVariables false in
theorem walk_OpUnlike (n0 n1_0 n1_1 n1_2 n1_3 n2 n3_0 n3_1 n3_2 n3_3 : Int) (w : World) (b0 : IntKind.u64.min ≤ n0 ∧ n0 ≤ IntKind.u64.max) (b1_0 : IntKind.u8.min ≤ n1_0 ∧ n1_0 ≤ IntKind.u8.max) (b1_1 : IntKind.u32.min ≤ n1_1 ∧ n1_1 ≤ IntKind.u32.max) (b1_2 : IntKind.u32.min ≤ n1_2 ∧ n1_2 ≤ IntKind.u32.max) (b1_3 : IntKind.u32.min ≤ n1_3 ∧ n1_3 ≤ IntKind.u32.max) (b2 : IntKind.u64.min ≤ n2 ∧ n2 ≤ IntKind.u64.max) (b3_0 : IntKind.u8.min ≤ n3_0 ∧ n3_0 ≤ IntKind.u8.max) (b3_1 : IntKind.u32.min ≤ n3_1 ∧ n3_1 ≤ IntKind.u32.max) (b3_2 : IntKind.u32.min ≤ n3_2 ∧ n3_2 ≤ IntKind.u32.max) (b3_3 : IntKind.u32.min ≤ n3_3 ∧ n3_3 ≤ IntKind.u32.max) (hO : Ob w) :
    Calls Tryd.prog 6 #[.int .u64 n0, .agg #[.int .u8 n1_0, .int .u32 n1_1, .int .u32 n1_2, .int .u32 n1_3], .int .u64 n2, .agg #[.int .u8 n3_0, .int .u32 n3_1, .int .u32 n3_2, .int .u32 n3_3]] w fun e w' => e = .returned (.bool true) ∧ Below w.heap.size w w' := by
  simp [IntKind.min, IntKind.max, IntKind.signed, IntKind.bits] at b0 b1_0 b1_1 b1_2 b1_3 b2 b3_0 b3_1 b3_2 b3_3
  obtain ⟨s, rfl⟩ := Int.eq_ofNat_of_zero_le b0.1
  obtain ⟨k, rfl⟩ := Int.eq_ofNat_of_zero_le b1_0.1
  obtain ⟨a, rfl⟩ := Int.eq_ofNat_of_zero_le b1_1.1
  obtain ⟨b, rfl⟩ := Int.eq_ofNat_of_zero_le b1_2.1
  obtain ⟨c, rfl⟩ := Int.eq_ofNat_of_zero_le b1_3.1
  obtain ⟨s', rfl⟩ := Int.eq_ofNat_of_zero_le b2.1
  obtain ⟨k', rfl⟩ := Int.eq_ofNat_of_zero_le b3_0.1
  obtain ⟨a', rfl⟩ := Int.eq_ofNat_of_zero_le b3_1.1
  obtain ⟨b', rfl⟩ := Int.eq_ofNat_of_zero_le b3_2.1
  obtain ⟨c', rfl⟩ := Int.eq_ofNat_of_zero_le b3_3.1
  exact unlike_walk s k a b c s' k' a' b' c' w (by omega) (by omega) (by omega) (by omega) (by omega) (by omega) (by omega) (by omega) hO

end Go.Proofs.YtoamhkgnnjoaaaaDoor
