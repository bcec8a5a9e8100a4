/- The walk of PostNames. -/
import Derived.Test.YtecjbgddjejjdaaDoorAlive22
import Derived.Deep.RegionHeld3
import Derived.Deep.DeepCutAuto
namespace Go.Proofs.YtecjbgddjejjdaaDoor
open Go.RowKit

theorem names_of {w U : World} (hb : Below w.heap.size w U) (hq : Box U w.heap.size [.int .u8 9, .int .u32 1, .int .u32 7, .int .u32 2]) : Below w.heap.size w U ∧ U.cell? ⟨w.heap.size, 0, none⟩ = some (.int .u8 9) ∧ U.cell? ⟨w.heap.size, 1, none⟩ = some (.int .u32 1) ∧ U.cell? ⟨w.heap.size, 2, none⟩ = some (.int .u32 7) ∧ U.cell? ⟨w.heap.size, 3, none⟩ = some (.int .u32 2) := ⟨hb, hq.c 0 rfl, hq.c 1 rfl, hq.c 2 rfl, hq.c 3 rfl⟩
theorem names_put {w U : World} {N : Nat} (hN : w.heap.size < N) (hb : Below w.heap.size w U) (hq : Box U w.heap.size [.int .u8 9, .int .u32 1, .int .u32 7, .int .u32 2]) (v0 v1 v2 v3 v4 v5 v6 v7 v8 v9 : Value) :
    Below w.heap.size w ((((((((((U.setCell ⟨N, 0, none⟩ v0).setCell ⟨N, 1, none⟩ v1).setCell ⟨N, 2, none⟩ v2).setCell ⟨N, 3, none⟩ v3).setCell ⟨N, 4, none⟩ v4).setCell ⟨N, 5, none⟩ v5).setCell ⟨N, 6, none⟩ v6).setCell ⟨N, 7, none⟩ v7).setCell ⟨N, 8, none⟩ v8).setCell ⟨N, 9, none⟩ v9) ∧ ((((((((((U.setCell ⟨N, 0, none⟩ v0).setCell ⟨N, 1, none⟩ v1).setCell ⟨N, 2, none⟩ v2).setCell ⟨N, 3, none⟩ v3).setCell ⟨N, 4, none⟩ v4).setCell ⟨N, 5, none⟩ v5).setCell ⟨N, 6, none⟩ v6).setCell ⟨N, 7, none⟩ v7).setCell ⟨N, 8, none⟩ v8).setCell ⟨N, 9, none⟩ v9).cell? ⟨w.heap.size, 0, none⟩ = some (.int .u8 9) ∧ ((((((((((U.setCell ⟨N, 0, none⟩ v0).setCell ⟨N, 1, none⟩ v1).setCell ⟨N, 2, none⟩ v2).setCell ⟨N, 3, none⟩ v3).setCell ⟨N, 4, none⟩ v4).setCell ⟨N, 5, none⟩ v5).setCell ⟨N, 6, none⟩ v6).setCell ⟨N, 7, none⟩ v7).setCell ⟨N, 8, none⟩ v8).setCell ⟨N, 9, none⟩ v9).cell? ⟨w.heap.size, 1, none⟩ = some (.int .u32 1) ∧ ((((((((((U.setCell ⟨N, 0, none⟩ v0).setCell ⟨N, 1, none⟩ v1).setCell ⟨N, 2, none⟩ v2).setCell ⟨N, 3, none⟩ v3).setCell ⟨N, 4, none⟩ v4).setCell ⟨N, 5, none⟩ v5).setCell ⟨N, 6, none⟩ v6).setCell ⟨N, 7, none⟩ v7).setCell ⟨N, 8, none⟩ v8).setCell ⟨N, 9, none⟩ v9).cell? ⟨w.heap.size, 2, none⟩ = some (.int .u32 7) ∧ ((((((((((U.setCell ⟨N, 0, none⟩ v0).setCell ⟨N, 1, none⟩ v1).setCell ⟨N, 2, none⟩ v2).setCell ⟨N, 3, none⟩ v3).setCell ⟨N, 4, none⟩ v4).setCell ⟨N, 5, none⟩ v5).setCell ⟨N, 6, none⟩ v6).setCell ⟨N, 7, none⟩ v7).setCell ⟨N, 8, none⟩ v8).setCell ⟨N, 9, none⟩ v9).cell? ⟨w.heap.size, 3, none⟩ = some (.int .u32 2) := by
  have hl : w.heap.size ≤ N := Nat.le_of_lt hN
  have hn : w.heap.size ≠ N := Nat.ne_of_lt hN
  exact names_of ((((((((((hb.setCell (p := ⟨N, 0, none⟩) hl v0).setCell (p := ⟨N, 1, none⟩) hl v1).setCell (p := ⟨N, 2, none⟩) hl v2).setCell (p := ⟨N, 3, none⟩) hl v3).setCell (p := ⟨N, 4, none⟩) hl v4).setCell (p := ⟨N, 5, none⟩) hl v5).setCell (p := ⟨N, 6, none⟩) hl v6).setCell (p := ⟨N, 7, none⟩) hl v7).setCell (p := ⟨N, 8, none⟩) hl v8).setCell (p := ⟨N, 9, none⟩) hl v9)
    ((((((((((hq.far (a := ⟨N, 0, none⟩) hn v0).far (a := ⟨N, 1, none⟩) hn v1).far (a := ⟨N, 2, none⟩) hn v2).far (a := ⟨N, 3, none⟩) hn v3).far (a := ⟨N, 4, none⟩) hn v4).far (a := ⟨N, 5, none⟩) hn v5).far (a := ⟨N, 6, none⟩) hn v6).far (a := ⟨N, 7, none⟩) hn v7).far (a := ⟨N, 8, none⟩) hn v8).far (a := ⟨N, 9, none⟩) hn v9)
theorem names_put2 {w U : World} {N : Nat} (hN : w.heap.size < N) (hb : Below w.heap.size w U) (hq : Box U w.heap.size [.int .u8 9, .int .u32 1, .int .u32 7, .int .u32 2]) (v0 v1 v2 v3 v4 v5 v6 v7 v8 v9 : Value) :
    Value.int .i64 2 = Value.int .i64 2 ∧ Below w.heap.size w (((((((((((U.setCell ⟨N, 0, none⟩ v0).setCell ⟨N, 1, none⟩ v1).setCell ⟨N, 2, none⟩ v2).setCell ⟨N, 3, none⟩ v3).setCell ⟨N, 4, none⟩ v4).setCell ⟨N, 5, none⟩ v5).setCell ⟨N, 6, none⟩ v6).setCell ⟨N, 7, none⟩ v7).setCell ⟨N, 8, none⟩ v8).setCell ⟨N, 9, none⟩ v9)) ∧ Box (((((((((((U.setCell ⟨N, 0, none⟩ v0).setCell ⟨N, 1, none⟩ v1).setCell ⟨N, 2, none⟩ v2).setCell ⟨N, 3, none⟩ v3).setCell ⟨N, 4, none⟩ v4).setCell ⟨N, 5, none⟩ v5).setCell ⟨N, 6, none⟩ v6).setCell ⟨N, 7, none⟩ v7).setCell ⟨N, 8, none⟩ v8).setCell ⟨N, 9, none⟩ v9)) w.heap.size [.int .u8 9, .int .u32 1, .int .u32 7, .int .u32 2] := by
  have hl : w.heap.size ≤ N := Nat.le_of_lt hN
  have hn : w.heap.size ≠ N := Nat.ne_of_lt hN
  exact ⟨rfl, ((((((((((hb.setCell (p := ⟨N, 0, none⟩) hl v0).setCell (p := ⟨N, 1, none⟩) hl v1).setCell (p := ⟨N, 2, none⟩) hl v2).setCell (p := ⟨N, 3, none⟩) hl v3).setCell (p := ⟨N, 4, none⟩) hl v4).setCell (p := ⟨N, 5, none⟩) hl v5).setCell (p := ⟨N, 6, none⟩) hl v6).setCell (p := ⟨N, 7, none⟩) hl v7).setCell (p := ⟨N, 8, none⟩) hl v8).setCell (p := ⟨N, 9, none⟩) hl v9),
    ((((((((((hq.far (a := ⟨N, 0, none⟩) hn v0).far (a := ⟨N, 1, none⟩) hn v1).far (a := ⟨N, 2, none⟩) hn v2).far (a := ⟨N, 3, none⟩) hn v3).far (a := ⟨N, 4, none⟩) hn v4).far (a := ⟨N, 5, none⟩) hn v5).far (a := ⟨N, 6, none⟩) hn v6).far (a := ⟨N, 7, none⟩) hn v7).far (a := ⟨N, 8, none⟩) hn v8).far (a := ⟨N, 9, none⟩) hn v9)⟩

set_option maxRecDepth 100000 in
set_option maxHeartbeats 6400000 in
theorem names22_any (w : World) (hp : Pw w ∧ Ob w ∧ Wr w) : Calls Tryd.prog 4 #[] w fun e w' => e = .returned (.bool true) ∧ Below w.heap.size w w' := by
  have HP := Lib.hid hp
  clear hp
  go_enter Tryd.func4, Tryd.ntmps4
  go_wp2_with fail
  have HB := Lib.hid (Below.refl w.heap.size w)
  have HB := Lib.hid (moreB HB.out (.cells ⟨[.int .u8 9, .int .u32 1, .int .u32 7, .int .u32 2]⟩ 27))
  have HQ' := Box.new w 27 [.int .u8 9, .int .u32 1, .int .u32 7, .int .u32 2]
  generalize w.alloc _ = v0 at *
  have HQ := Lib.hid HQ'
  clear HQ'
  refine (Ann_any ex22z 0 1 9 1 7 2 v0 (by omega) (by omega) (by omega) (by omega) (HP.out.1.more HB.out) (HP.out.2.1.more HB.out) (HP.out.2.2.more HB.out)).mono ?_
  rintro e u2 ⟨rfl, hb⟩
  rw [e22_z, e22_ze]
  have HQ := Lib.hid (HQ.out.below hb)
  have HB := Lib.hid (keepB hb HB.out)
  clear hb
  go_wp2_with fail
  have HQ := Lib.hid (HQ.out.alloc (.cells ⟨[.int .u8 0, .int .i64 0, .int .u64 0, .int .u64 0, .int .u64 0, .int .u64 0, .int .u64 0, .int .u64 0, .int .u64 0, .int .u64 0]⟩ 31))
  have HB := Lib.hid (moreB HB.out (.cells ⟨[.int .u8 0, .int .i64 0, .int .u64 0, .int .u64 0, .int .u64 0, .int .u64 0, .int .u64 0, .int .u64 0, .int .u64 0, .int .u64 0]⟩ 31))
  generalize u2.alloc _ = v2 at *
  have HAN := Lib.hid (fun (U : World) (h : Below w.heap.size w U) => (show Calls Tryd.prog 9 #[.agg #[.int .u8 3, .int .i64 2, .int .i64 3, .int .u8 1, .int .i64 0, .int .i64 0, .int .i64 4, .int .i64 0, .int .i64 2, .int .i64 0, .int .u64 131072, .int .u64 0], .int .i64 3, .int .u64 1, .agg #[.int .u8 9, .int .u32 1, .int .u32 7, .int .u32 2]] U fun e w' => e = .returned (.tuple #[.agg #[.int .u8 0, .int .i64 0, .int .u64 0, .int .u64 0, .int .u64 0, .int .u64 0, .int .u64 0, .int .u64 0, .int .u64 0, .int .u64 0], .int .i64 2]) ∧ Below U.heap.size U w' from (Ann_any ex22 3 1 9 1 7 2 U (by omega) (by omega) (by omega) (by omega) (HP.out.1.more h) (HP.out.2.1.more h) (HP.out.2.2.more h)).mono fun e w' ⟨h1, h2⟩ => ⟨by rw [h1, e22_f, e22_fe], h2⟩))
  go_cut [5] (fun s wx => s = .int .i64 2 ∧ Below w.heap.size w wx ∧ Box wx w.heap.size [.int .u8 9, .int .u32 1, .int .u32 7, .int .u32 2])
  case first =>
    have hq_0 := HQ.out.c 0 rfl
    have hq_1 := HQ.out.c 1 rfl
    have hq_2 := HQ.out.c 2 rfl
    have hq_3 := HQ.out.c 3 rfl
    go_region_held3 (fun U => Below w.heap.size w U ∧ U.cell? ⟨w.heap.size, 0, none⟩ = some (.int .u8 9) ∧ U.cell? ⟨w.heap.size, 1, none⟩ = some (.int .u32 1) ∧ U.cell? ⟨w.heap.size, 2, none⟩ = some (.int .u32 7) ∧ U.cell? ⟨w.heap.size, 3, none⟩ = some (.int .u32 2)) ((with_reducible (first | exact names_of HB.out HQ.out | exact names_of (Below.drew HB.out) HQ.out.drew | exact names_put HNE.out HB.out HQ.out _ _ _ _ _ _ _ _ _ _ | exact names_of (moreB HB.out _) (HQ.out.alloc _) | exact names_of (Below.drew (moreB HB.out _)) (HQ.out.alloc _).drew))) (first
      | (go_at_call 11; refine (conf22_any _).mono ?_; rintro e w' ⟨rfl, hb⟩; (first | (with_reducible (have HB := Lib.hid (keepB hb (Below.drew HB.out)); have HQ := Lib.hid (HQ.out.drew.below hb))) | (have HN := Lib.hid ((Box.new v2 31 [.int .u8 0, .int .i64 0, .int .u64 0, .int .u64 0, .int .u64 0, .int .u64 0, .int .u64 0, .int .u64 0, .int .u64 0, .int .u64 0]).drew.below hb); have HNE := Lib.hid HQ.out.lt; have HB := Lib.hid (keepB hb (Below.drew (moreB HB.out _))); have HQ := Lib.hid ((HQ.out.alloc _).drew.below hb))))
      | (go_at_call 9; (first | (with_reducible refine (HAN.out _ HB.out).mono ?_; rintro e w' ⟨rfl, hb⟩; (first | (have HN := Lib.hid (HN.out.below hb); have z_0 := HN.out.c 0 rfl; have y_0 := HN.out.f 0; have z_1 := HN.out.c 1 rfl; have y_1 := HN.out.f 1; have z_2 := HN.out.c 2 rfl; have y_2 := HN.out.f 2; have z_3 := HN.out.c 3 rfl; have y_3 := HN.out.f 3; have z_4 := HN.out.c 4 rfl; have y_4 := HN.out.f 4; have z_5 := HN.out.c 5 rfl; have y_5 := HN.out.f 5; have z_6 := HN.out.c 6 rfl; have y_6 := HN.out.f 6; have z_7 := HN.out.c 7 rfl; have y_7 := HN.out.f 7; have z_8 := HN.out.c 8 rfl; have y_8 := HN.out.f 8; have z_9 := HN.out.c 9 rfl; have y_9 := HN.out.f 9) | skip); have HB := Lib.hid (keepB hb HB.out); have HQ := Lib.hid (HQ.out.below hb)) | (with_reducible refine (HAN.out _ (moreB HB.out _)).mono ?_; rintro e w' ⟨rfl, hb⟩; have HN := Lib.hid ((Box.new _ 31 [.int .u8 0, .int .i64 0, .int .u64 0, .int .u64 0, .int .u64 0, .int .u64 0, .int .u64 0, .int .u64 0, .int .u64 0, .int .u64 0]).below hb); have HNE := Lib.hid HQ.out.lt; have z_0 := HN.out.c 0 rfl; have y_0 := HN.out.f 0; have z_1 := HN.out.c 1 rfl; have y_1 := HN.out.f 1; have z_2 := HN.out.c 2 rfl; have y_2 := HN.out.f 2; have z_3 := HN.out.c 3 rfl; have y_3 := HN.out.f 3; have z_4 := HN.out.c 4 rfl; have y_4 := HN.out.f 4; have z_5 := HN.out.c 5 rfl; have y_5 := HN.out.f 5; have z_6 := HN.out.c 6 rfl; have y_6 := HN.out.f 6; have z_7 := HN.out.c 7 rfl; have y_7 := HN.out.f 7; have z_8 := HN.out.c 8 rfl; have y_8 := HN.out.f 8; have z_9 := HN.out.c 9 rfl; have y_9 := HN.out.f 9; have HB := Lib.hid (keepB hb (moreB HB.out _)); have HQ := Lib.hid ((HQ.out.alloc _).below hb)))))
    all_goals (go_wp2_with fail; go_meet)
    all_goals with_reducible first | exact names_put2 HNE.out HB.out HQ.out _ _ _ _ _ _ _ _ _ _ | exact ⟨rfl, moreB HB.out _, HQ.out.alloc _⟩
  obtain ⟨rfl, hb', hq'⟩ := hcut
  have HB := Lib.hid hb'; have HQ := Lib.hid hq'
  clear hb' hq' HAN
  rename World => vf
  go_wp2_with fail
  have HAN := Lib.hid (fun (U : World) (h : Below w.heap.size w U) => (show Calls Tryd.prog 9 #[.agg #[.int .u8 3, .int .i64 2, .int .i64 3, .int .u8 1, .int .i64 0, .int .i64 0, .int .i64 4, .int .i64 0, .int .i64 2, .int .i64 0, .int .u64 131072, .int .u64 0], .int .i64 0, .int .u64 0, .agg #[.int .u8 9, .int .u32 1, .int .u32 7, .int .u32 2]] U fun e w' => e = .returned (.tuple #[.agg #[.int .u8 0, .int .i64 0, .int .u64 0, .int .u64 0, .int .u64 0, .int .u64 0, .int .u64 0, .int .u64 0, .int .u64 0, .int .u64 0], .int .i64 2]) ∧ Below U.heap.size U w' from (Ann_any ex22 0 0 9 1 7 2 U (by omega) (by omega) (by omega) (by omega) (HP.out.1.more h) (HP.out.2.1.more h) (HP.out.2.2.more h)).mono fun e w' ⟨h1, h2⟩ => ⟨by rw [h1, e22_g, e22_ge], h2⟩))
  go_cut [7] (fun s wx => s = .int .i64 2 ∧ Below w.heap.size w wx ∧ Box wx w.heap.size [.int .u8 9, .int .u32 1, .int .u32 7, .int .u32 2])
  case first =>
    have hq_0 := HQ.out.c 0 rfl
    have hq_1 := HQ.out.c 1 rfl
    have hq_2 := HQ.out.c 2 rfl
    have hq_3 := HQ.out.c 3 rfl
    go_region_held3 (fun U => Below w.heap.size w U ∧ U.cell? ⟨w.heap.size, 0, none⟩ = some (.int .u8 9) ∧ U.cell? ⟨w.heap.size, 1, none⟩ = some (.int .u32 1) ∧ U.cell? ⟨w.heap.size, 2, none⟩ = some (.int .u32 7) ∧ U.cell? ⟨w.heap.size, 3, none⟩ = some (.int .u32 2)) ((with_reducible (first | exact names_of HB.out HQ.out | exact names_of (Below.drew HB.out) HQ.out.drew | exact names_put HNE.out HB.out HQ.out _ _ _ _ _ _ _ _ _ _ | exact names_of (moreB HB.out _) (HQ.out.alloc _) | exact names_of (Below.drew (moreB HB.out _)) (HQ.out.alloc _).drew))) (first
      | (go_at_call 11; refine (conf22_any _).mono ?_; rintro e w' ⟨rfl, hb⟩; (first | (with_reducible (have HB := Lib.hid (keepB hb (Below.drew HB.out)); have HQ := Lib.hid (HQ.out.drew.below hb))) | (have HN := Lib.hid ((Box.new vf 31 [.int .u8 0, .int .i64 0, .int .u64 0, .int .u64 0, .int .u64 0, .int .u64 0, .int .u64 0, .int .u64 0, .int .u64 0, .int .u64 0]).drew.below hb); have HNE := Lib.hid HQ.out.lt; have HB := Lib.hid (keepB hb (Below.drew (moreB HB.out _))); have HQ := Lib.hid ((HQ.out.alloc _).drew.below hb))))
      | (go_at_call 9; (first | (with_reducible refine (HAN.out _ HB.out).mono ?_; rintro e w' ⟨rfl, hb⟩; (first | (have HN := Lib.hid (HN.out.below hb); have z_0 := HN.out.c 0 rfl; have y_0 := HN.out.f 0; have z_1 := HN.out.c 1 rfl; have y_1 := HN.out.f 1; have z_2 := HN.out.c 2 rfl; have y_2 := HN.out.f 2; have z_3 := HN.out.c 3 rfl; have y_3 := HN.out.f 3; have z_4 := HN.out.c 4 rfl; have y_4 := HN.out.f 4; have z_5 := HN.out.c 5 rfl; have y_5 := HN.out.f 5; have z_6 := HN.out.c 6 rfl; have y_6 := HN.out.f 6; have z_7 := HN.out.c 7 rfl; have y_7 := HN.out.f 7; have z_8 := HN.out.c 8 rfl; have y_8 := HN.out.f 8; have z_9 := HN.out.c 9 rfl; have y_9 := HN.out.f 9) | skip); have HB := Lib.hid (keepB hb HB.out); have HQ := Lib.hid (HQ.out.below hb)) | (with_reducible refine (HAN.out _ (moreB HB.out _)).mono ?_; rintro e w' ⟨rfl, hb⟩; have HN := Lib.hid ((Box.new _ 31 [.int .u8 0, .int .i64 0, .int .u64 0, .int .u64 0, .int .u64 0, .int .u64 0, .int .u64 0, .int .u64 0, .int .u64 0, .int .u64 0]).below hb); have HNE := Lib.hid HQ.out.lt; have z_0 := HN.out.c 0 rfl; have y_0 := HN.out.f 0; have z_1 := HN.out.c 1 rfl; have y_1 := HN.out.f 1; have z_2 := HN.out.c 2 rfl; have y_2 := HN.out.f 2; have z_3 := HN.out.c 3 rfl; have y_3 := HN.out.f 3; have z_4 := HN.out.c 4 rfl; have y_4 := HN.out.f 4; have z_5 := HN.out.c 5 rfl; have y_5 := HN.out.f 5; have z_6 := HN.out.c 6 rfl; have y_6 := HN.out.f 6; have z_7 := HN.out.c 7 rfl; have y_7 := HN.out.f 7; have z_8 := HN.out.c 8 rfl; have y_8 := HN.out.f 8; have z_9 := HN.out.c 9 rfl; have y_9 := HN.out.f 9; have HB := Lib.hid (keepB hb (moreB HB.out _)); have HQ := Lib.hid ((HQ.out.alloc _).below hb)))))
    all_goals (go_wp2_with fail; go_meet)
    all_goals with_reducible first | exact names_put2 HNE.out HB.out HQ.out _ _ _ _ _ _ _ _ _ _ | exact ⟨rfl, moreB HB.out _, HQ.out.alloc _⟩
  obtain ⟨rfl, hb', hq'⟩ := hcut
  have HB := Lib.hid hb'; have HQ := Lib.hid hq'
  clear hb' hq' HAN
  rename World => vg
  go_wp2_with fail
  have HAN := Lib.hid (fun (U : World) (h : Below w.heap.size w U) => (show Calls Tryd.prog 9 #[.agg #[.int .u8 3, .int .i64 2, .int .i64 3, .int .u8 1, .int .i64 0, .int .i64 0, .int .i64 4, .int .i64 0, .int .i64 2, .int .i64 0, .int .u64 131072, .int .u64 0], .int .i64 0, .int .u64 65, .agg #[.int .u8 9, .int .u32 1, .int .u32 7, .int .u32 2]] U fun e w' => e = .returned (.tuple #[.agg #[.int .u8 0, .int .i64 0, .int .u64 0, .int .u64 0, .int .u64 0, .int .u64 0, .int .u64 0, .int .u64 0, .int .u64 0, .int .u64 0], .int .i64 2]) ∧ Below U.heap.size U w' from (Ann_any ex22 0 65 9 1 7 2 U (by omega) (by omega) (by omega) (by omega) (HP.out.1.more h) (HP.out.2.1.more h) (HP.out.2.2.more h)).mono fun e w' ⟨h1, h2⟩ => ⟨by rw [h1, e22_h, e22_he], h2⟩))
  go_cut [9] (fun s wx => s = .int .i64 2 ∧ Below w.heap.size w wx ∧ Box wx w.heap.size [.int .u8 9, .int .u32 1, .int .u32 7, .int .u32 2])
  case first =>
    have hq_0 := HQ.out.c 0 rfl
    have hq_1 := HQ.out.c 1 rfl
    have hq_2 := HQ.out.c 2 rfl
    have hq_3 := HQ.out.c 3 rfl
    go_region_held3 (fun U => Below w.heap.size w U ∧ U.cell? ⟨w.heap.size, 0, none⟩ = some (.int .u8 9) ∧ U.cell? ⟨w.heap.size, 1, none⟩ = some (.int .u32 1) ∧ U.cell? ⟨w.heap.size, 2, none⟩ = some (.int .u32 7) ∧ U.cell? ⟨w.heap.size, 3, none⟩ = some (.int .u32 2)) ((with_reducible (first | exact names_of HB.out HQ.out | exact names_of (Below.drew HB.out) HQ.out.drew | exact names_put HNE.out HB.out HQ.out _ _ _ _ _ _ _ _ _ _ | exact names_of (moreB HB.out _) (HQ.out.alloc _) | exact names_of (Below.drew (moreB HB.out _)) (HQ.out.alloc _).drew))) (first
      | (go_at_call 11; refine (conf22_any _).mono ?_; rintro e w' ⟨rfl, hb⟩; (first | (with_reducible (have HB := Lib.hid (keepB hb (Below.drew HB.out)); have HQ := Lib.hid (HQ.out.drew.below hb))) | (have HN := Lib.hid ((Box.new vg 31 [.int .u8 0, .int .i64 0, .int .u64 0, .int .u64 0, .int .u64 0, .int .u64 0, .int .u64 0, .int .u64 0, .int .u64 0, .int .u64 0]).drew.below hb); have HNE := Lib.hid HQ.out.lt; have HB := Lib.hid (keepB hb (Below.drew (moreB HB.out _))); have HQ := Lib.hid ((HQ.out.alloc _).drew.below hb))))
      | (go_at_call 9; (first | (with_reducible refine (HAN.out _ HB.out).mono ?_; rintro e w' ⟨rfl, hb⟩; (first | (have HN := Lib.hid (HN.out.below hb); have z_0 := HN.out.c 0 rfl; have y_0 := HN.out.f 0; have z_1 := HN.out.c 1 rfl; have y_1 := HN.out.f 1; have z_2 := HN.out.c 2 rfl; have y_2 := HN.out.f 2; have z_3 := HN.out.c 3 rfl; have y_3 := HN.out.f 3; have z_4 := HN.out.c 4 rfl; have y_4 := HN.out.f 4; have z_5 := HN.out.c 5 rfl; have y_5 := HN.out.f 5; have z_6 := HN.out.c 6 rfl; have y_6 := HN.out.f 6; have z_7 := HN.out.c 7 rfl; have y_7 := HN.out.f 7; have z_8 := HN.out.c 8 rfl; have y_8 := HN.out.f 8; have z_9 := HN.out.c 9 rfl; have y_9 := HN.out.f 9) | skip); have HB := Lib.hid (keepB hb HB.out); have HQ := Lib.hid (HQ.out.below hb)) | (with_reducible refine (HAN.out _ (moreB HB.out _)).mono ?_; rintro e w' ⟨rfl, hb⟩; have HN := Lib.hid ((Box.new _ 31 [.int .u8 0, .int .i64 0, .int .u64 0, .int .u64 0, .int .u64 0, .int .u64 0, .int .u64 0, .int .u64 0, .int .u64 0, .int .u64 0]).below hb); have HNE := Lib.hid HQ.out.lt; have z_0 := HN.out.c 0 rfl; have y_0 := HN.out.f 0; have z_1 := HN.out.c 1 rfl; have y_1 := HN.out.f 1; have z_2 := HN.out.c 2 rfl; have y_2 := HN.out.f 2; have z_3 := HN.out.c 3 rfl; have y_3 := HN.out.f 3; have z_4 := HN.out.c 4 rfl; have y_4 := HN.out.f 4; have z_5 := HN.out.c 5 rfl; have y_5 := HN.out.f 5; have z_6 := HN.out.c 6 rfl; have y_6 := HN.out.f 6; have z_7 := HN.out.c 7 rfl; have y_7 := HN.out.f 7; have z_8 := HN.out.c 8 rfl; have y_8 := HN.out.f 8; have z_9 := HN.out.c 9 rfl; have y_9 := HN.out.f 9; have HB := Lib.hid (keepB hb (moreB HB.out _)); have HQ := Lib.hid ((HQ.out.alloc _).below hb)))))
    all_goals (go_wp2_with fail; go_meet)
    all_goals with_reducible first | exact names_put2 HNE.out HB.out HQ.out _ _ _ _ _ _ _ _ _ _ | exact ⟨rfl, moreB HB.out _, HQ.out.alloc _⟩
  obtain ⟨rfl, hb', hq'⟩ := hcut
  have HB := Lib.hid hb'; have HQ := Lib.hid hq'
  clear hb' hq' HAN
  rename World => vh
  go_wp2_with fail
  refine (conf22_any vh).mono ?_
  rintro e u6 ⟨rfl, hb⟩
  have HQ := Lib.hid (HQ.out.below hb)
  have HB := Lib.hid (keepB hb HB.out)
  clear hb
  go_wp2_with fail
  refine (Ann_any ex22 0 1 11 1 1 0 u6 (by omega) (by omega) (by omega) (by omega) (HP.out.1.more HB.out) (HP.out.2.1.more HB.out) (HP.out.2.2.more HB.out)).mono ?_
  rintro e u7 ⟨rfl, hb⟩
  rw [e22_i, e22_ie]
  have HQ := Lib.hid (HQ.out.below hb)
  have HB := Lib.hid (keepB hb HB.out)
  clear hb
  go_wp2_with fail
  have HQ := Lib.hid (HQ.out.alloc (.cells ⟨[.int .u8 0, .int .i64 0, .int .u64 0, .int .u64 0, .int .u64 0, .int .u64 0, .int .u64 0, .int .u64 0, .int .u64 0, .int .u64 0]⟩ 31))
  have HB := Lib.hid (moreB HB.out (.cells ⟨[.int .u8 0, .int .i64 0, .int .u64 0, .int .u64 0, .int .u64 0, .int .u64 0, .int .u64 0, .int .u64 0, .int .u64 0, .int .u64 0]⟩ 31))
  generalize u7.alloc _ = v7 at *
  refine (conf22_any v7).mono ?_
  rintro e u8 ⟨rfl, hb⟩
  have HQ := Lib.hid (HQ.out.below hb)
  have HB := Lib.hid (keepB hb HB.out)
  clear hb
  go_wp2_with fail
  refine (Ann_any ex22 0 1 4 0 0 0 u8 (by omega) (by omega) (by omega) (by omega) (HP.out.1.more HB.out) (HP.out.2.1.more HB.out) (HP.out.2.2.more HB.out)).mono ?_
  rintro e u9 ⟨rfl, hb⟩
  rw [e22_j, e22_je]
  have HQ := Lib.hid (HQ.out.below hb)
  have HB := Lib.hid (keepB hb HB.out)
  clear hb
  go_wp2_with fail
  have HQ := Lib.hid (HQ.out.alloc (.cells ⟨[.int .u8 0, .int .i64 0, .int .u64 0, .int .u64 0, .int .u64 0, .int .u64 0, .int .u64 0, .int .u64 0, .int .u64 0, .int .u64 0]⟩ 31))
  have HB := Lib.hid (moreB HB.out (.cells ⟨[.int .u8 0, .int .i64 0, .int .u64 0, .int .u64 0, .int .u64 0, .int .u64 0, .int .u64 0, .int .u64 0, .int .u64 0, .int .u64 0]⟩ 31))
  generalize u9.alloc _ = v9 at *
  refine (conf22_any v9).mono ?_
  rintro e u10 ⟨rfl, hb⟩
  have HQ := Lib.hid (HQ.out.below hb)
  have HB := Lib.hid (keepB hb HB.out)
  clear hb
  go_wp2_with fail
  refine (Ann_any ex22 0 64 9 0 0 0 u10 (by omega) (by omega) (by omega) (by omega) (HP.out.1.more HB.out) (HP.out.2.1.more HB.out) (HP.out.2.2.more HB.out)).mono ?_
  rintro e u11 ⟨rfl, hb⟩
  rw [e22_k, e22_ke]
  have HQ := Lib.hid (HQ.out.below hb)
  have HB := Lib.hid (keepB hb HB.out)
  clear hb
  go_wp2_with fail
  have HQ := Lib.hid (HQ.out.alloc (.cells ⟨[.int .u8 0, .int .i64 0, .int .u64 0, .int .u64 0, .int .u64 0, .int .u64 0, .int .u64 0, .int .u64 0, .int .u64 0, .int .u64 0]⟩ 31))
  have HB := Lib.hid (moreB HB.out (.cells ⟨[.int .u8 0, .int .i64 0, .int .u64 0, .int .u64 0, .int .u64 0, .int .u64 0, .int .u64 0, .int .u64 0, .int .u64 0, .int .u64 0]⟩ 31))
  generalize u11.alloc _ = v11 at *
  refine (Told_any 1 1 65545 4294967299 0 v11).mono ?_
  rintro e u12 ⟨rfl, hb⟩
  rw [e22_r]
  have HQ := Lib.hid (HQ.out.below hb)
  have HB := Lib.hid (keepB hb HB.out)
  clear hb
  go_wp2_with fail
  have HR' := Box.new u12 41 [.int .i64 9, .int .u32 3, .slice none 0 0]
  have HQ := Lib.hid (HQ.out.alloc (.cells ⟨[.int .i64 9, .int .u32 3, .slice none 0 0]⟩ 41))
  have HB := Lib.hid (moreB HB.out (.cells ⟨[.int .i64 9, .int .u32 3, .slice none 0 0]⟩ 41))
  generalize u12.alloc _ = v12 at *
  have HR := Lib.hid HR'
  clear HR'
  refine (alive22_any v12 ⟨HP.out.1.more HB.out, HP.out.2.1.more HB.out, HP.out.2.2.more HB.out⟩).mono ?_
  rintro e u13 ⟨rfl, hb⟩
  have HQ := Lib.hid (HQ.out.below hb)
  have HR := Lib.hid (HR.out.below hb)
  have HB := Lib.hid (keepB hb HB.out)
  clear hb
  have hq_0 := HQ.out.c 0 rfl
  have hq_1 := HQ.out.c 1 rfl
  have hq_2 := HQ.out.c 2 rfl
  have hq_3 := HQ.out.c 3 rfl
  have hr_0 := HR.out.c 0 rfl
  have hr_1 := HR.out.c 1 rfl
  have hr_2 := HR.out.c 2 rfl
  go_wp2_with fail
  go_ret
  exact ⟨rfl, HB.out⟩


theorem walk_PostNames (w : World) (hp : Pw w ∧ Ob w ∧ Wr w) : Calls Tryd.prog 4 #[] w fun e w' => e = .returned (.bool true) ∧ Below w.heap.size w w' := names22_any w hp

end Go.Proofs.YtecjbgddjejjdaaDoor

