/- The walk of CellNames. -/
import Derived.Test.YtmfkipefnacjdaaLaw02b
namespace Go.Proofs.Ytmfkipefnacjdaa
open Go.RowKit

set_option maxHeartbeats 1600000 in
theorem Do_nil (kd i : Int) (o x : Cel) (w : World) : Calls Try.prog 10 #[.pointer none, .agg #[.int .u8 kd, .int .i64 i, .int .u64 o.t, .int .u64 o.a, .int .u64 o.b, .int .u64 o.c, .int .u64 x.t, .int .u64 x.a, .int .u64 x.b, .int .u64 x.c]] w fun e w' =>
      e = .returned (.tuple #[.agg #[.int .u64 0, .int .u64 0, .int .u64 0, .int .u64 0, .bool false], .int .i64 2]) ∧ Below w.heap.size w w' := by
  have hne : (Value.slice none 0 0).ownBlock ≠ some (w.heap.size + 1) := by intro e; cases e
  have HNE := Lib.hid hne
  clear hne
  go_enter Try.func10, Try.ntmps10
  go_wp2_with fail
  have hx := (Box.new w 36 [.int .u8 kd, .int .i64 i, .int .u64 o.t, .int .u64 o.a, .int .u64 o.b, .int .u64 o.c, .int .u64 x.t, .int .u64 x.a, .int .u64 x.b, .int .u64 x.c]).alloc (.cells #[.int .u64 0, .int .u64 0, .int .u64 0, .int .u64 0, .bool false] 32)
  have hr := Box.newAt (w.alloc (.cells #[.int .u8 kd, .int .i64 i, .int .u64 o.t, .int .u64 o.a, .int .u64 o.b, .int .u64 o.c, .int .u64 x.t, .int .u64 x.a, .int .u64 x.b, .int .u64 x.c] 36)) 32 [.int .u64 0, .int .u64 0, .int .u64 0, .int .u64 0, .bool false] (g := w.heap.size + 1) (by simp)
  have ho' : Own ((w.alloc (.cells #[.int .u8 kd, .int .i64 i, .int .u64 o.t, .int .u64 o.a, .int .u64 o.b, .int .u64 o.c, .int .u64 x.t, .int .u64 x.a, .int .u64 x.b, .int .u64 x.c] 36)).alloc (.cells #[.int .u64 0, .int .u64 0, .int .u64 0, .int .u64 0, .bool false] 32)) 0 (.slice none 0 0) [] := World.ownsRow_nil _ _ _ _
  have hg := grown_alloc (World.grownBy_alloc w (.cells #[.int .u8 kd, .int .i64 i, .int .u64 o.t, .int .u64 o.a, .int .u64 o.b, .int .u64 o.c, .int .u64 x.t, .int .u64 x.a, .int .u64 x.b, .int .u64 x.c] 36) none) (.cells #[.int .u64 0, .int .u64 0, .int .u64 0, .int .u64 0, .bool false] 32)
  have HG := Lib.hid hg
  clear hg
  generalize (w.alloc _).alloc _ = V at *
  have a0 := hx.c 0 rfl
  have a1 := hx.c 1 rfl
  have r0 := hr.c 0 rfl
  have r1 := hr.c 1 rfl
  have r2 := hr.c 2 rfl
  have r3 := hr.c 3 rfl
  have r4 := hr.c 4 rfl
  have f0 := hr.f 0
  have f1 := hr.f 1
  have f2 := hr.f 2
  have f3 := hr.f 3
  have f4 := hr.f 4
  have HR := Lib.hid hr
  have HO := Lib.hid ho'
  clear ho' hx hr
  have HH := Lib.hid (show w.heap.size ≤ w.heap.size + 1 by omega)
  generalize w.heap.size + 1 = h at *
  go_quiet (fail)
  go_wp2_with fail
  have hf := seen_fin (HR.out.drewN nq) (own_drewN HO.out nq) (grown_drewN HG.out nq) HNE.out HH.out (.int .u64 0) (.int .u64 0) (.int .u64 0) (.int .u64 0) (.bool false)
  exact bodyPost_ret (v := .tuple #[.agg #[.int .u64 0, .int .u64 0, .int .u64 0, .int .u64 0, .bool false], .int .i64 2]) (hf.1.results2 rfl Try.isAgg32 Try.sizeOf32 rfl rfl) rfl ⟨rfl, (Below.refl _ _).grown hf.2.2 (Nat.le_refl _) (fun j e => by cases e)⟩

/-- So many cells, all nothing. -/
def zerosL (n : Nat) : List Cel := List.replicate n .zero
def zerosB (n : Nat) : Obj := .cells ⟨celsV (zerosL n)⟩ 30
theorem zeros_len (n : Nat) : (zerosL n).length = n := by simp [zerosL]
theorem zeros_vals : ∀ n : Nat, celsV (zerosL n) = List.replicate (n * 4) (.int .u64 0)
  | 0 => rfl
  | n + 1 => by
    have ih := zeros_vals n
    rw [show (n + 1) * 4 = n * 4 + 1 + 1 + 1 + 1 from by omega, List.replicate_succ, List.replicate_succ, List.replicate_succ, List.replicate_succ, ← ih]
    rfl
theorem mod4 (j : Nat) : (#[(.int .u64 0 : Value), .int .u64 0, .int .u64 0, .int .u64 0])[j % 4]! = .int .u64 0 := by
  have : j % 4 < 4 := Nat.mod_lt _ (by decide)
  generalize j % 4 = m at *
  match m, this with
  | 0, _ => rfl
  | 1, _ => rfl
  | 2, _ => rfl
  | 3, _ => rfl
theorem made_vals (m : Nat) : (madeCells #[(.int .u64 0 : Value), .int .u64 0, .int .u64 0, .int .u64 0] m) = ⟨List.replicate m (.int .u64 0)⟩ := by
  have e : (fun k : Nat => (#[(.int .u64 0 : Value), .int .u64 0, .int .u64 0, .int .u64 0])[k % (#[(.int .u64 0 : Value), .int .u64 0, .int .u64 0, .int .u64 0]).size]!) = fun _ => .int .u64 0 := funext mod4
  unfold madeCells
  rw [e]
  apply Array.ext
  · simp
  · intro j h1 h2
    simp
theorem infoCel : (Try.prog.info? 30).map (fun i => (i.zero, i.size, i.bytes)) = some (some (.agg #[.int .u64 0, .int .u64 0, .int .u64 0, .int .u64 0]), 4, 32) := by kernel_rfl
theorem make_zeros (n : Nat) (h : n ≤ 2000) (W : World) : (Instr.makeSlice 22 (.int .i64 (n : Int)) (.int .i64 (n : Int))).run Try.prog W = .ok (.slice (some ⟨W.heap.size, 0, none⟩) n n) (W.alloc (zerosB n)) := by
  obtain ⟨k0, hk0, hq0, hq1, hq2⟩ := info_parts infoCel
  have := run_makeSlice (P := Try.prog) W 22 30 k0 _ Try.underlying22 hk0 hq0 .i64 .i64 (n : Int) (n : Int) (by omega) (by omega) (by rw [hq1]; omega) (by rw [hq2]; omega) (by omega)
  rw [this, Int.toNat_natCast, hq1]
  unfold zerosB
  rw [zeros_vals]
  show Result.ok _ (W.alloc (.cells (madeCells #[.int .u64 0, .int .u64 0, .int .u64 0, .int .u64 0] (n * 4)) 30)) = _
  rw [made_vals]
theorem zeros_rd (W : World) (n : Nat) : Rd (W.alloc (zerosB n)) (some ⟨W.heap.size, 0, none⟩) n (zerosL n) := rd_of_box (Box.new W 30 (celsV (zerosL n)))
theorem New_zeros (W : World) : Calls Try.prog 9 #[.slice (some ⟨W.heap.size, 0, none⟩) 1024 1024] (W.alloc (zerosB 1024)) fun e w' => ∃ p, e = .returned (.tuple #[.pointer (some ⟨p, 0, none⟩), .int .i64 0]) ∧ Below W.heap.size W w' := by
  have h := New_any (some ⟨W.heap.size, 0, none⟩) 1024 (zerosL 1024) (W.alloc (zerosB 1024)) (zeros_rd W 1024) (by rw [zeros_len]; omega)
  rw [zeros_len] at h
  refine h.mono ?_
  rintro e w' ⟨p, v, rfl, _, _, _, _, hb⟩
  exact ⟨p, rfl, keepB hb (newB W _)⟩

theorem run_wrap : runL [⟨0, 18446744073709551615, 0, 0⟩] [⟨4, 0, .zero, ⟨7, 2, 7, 7⟩⟩] = [⟨0, 1, 0, 0⟩] := by decide

set_option maxRecDepth 100000 in
set_option maxHeartbeats 3200000 in
theorem walk_CellNames (w : World) : Calls Try.prog 4 #[] w fun e w' => e = .returned (.bool true) ∧ Below w.heap.size w w' := by
  have hm1 : ∀ W : World, (Instr.makeSlice 22 (.int .i64 1025) (.int .i64 1025)).run Try.prog W = .ok (.slice (some ⟨W.heap.size, 0, none⟩) 1025 1025) (W.alloc (zerosB 1025)) := make_zeros 1025 (by omega)
  have hm2 : ∀ W : World, (Instr.makeSlice 22 (.int .i64 1024) (.int .i64 1024)).run Try.prog W = .ok (.slice (some ⟨W.heap.size, 0, none⟩) 1024 1024) (W.alloc (zerosB 1024)) := make_zeros 1024 (by omega)
  go_enter Try.func4, Try.ntmps4
  go_wp2_with fail
  refine (Do_nil 1 0 .zero .zero _).mono ?_
  rintro e w1 ⟨rfl, hb⟩
  have HB := Lib.hid hb
  clear hb
  go_wp2_with fail
  have HB1 := Lib.hid (moreB HB.out (.cells #[.int .u64 0, .int .u64 0, .int .u64 0, .int .u64 0, .bool false] 32))
  generalize w1.alloc (.cells #[.int .u64 0, .int .u64 0, .int .u64 0, .int .u64 0, .bool false] 32) = w2 at *
  refine (New_many _ 1025 1025 _ (by omega)).mono ?_
  rintro e w3 ⟨rfl, rfl⟩
  have HB3 := Lib.hid (moreB HB1.out (zerosB 1025))
  generalize w2.alloc (zerosB 1025) = w4 at *
  go_wp2_with fail
  refine (New_zeros _).mono ?_
  rintro e w5 ⟨pp, rfl, hb⟩
  have HB5 := Lib.hid (keepB hb HB3.out)
  clear hb hm1 hm2
  go_wp2_with fail
  have hcs := (Box.new w5 30 [.int .u64 0, .int .u64 18446744073709551615, .int .u64 0, .int .u64 0]).alloc (.cells #[.int .u8 4, .int .i64 0, .int .u64 0, .int .u64 0, .int .u64 0, .int .u64 0, .int .u64 7, .int .u64 2, .int .u64 7, .int .u64 7] 36)
  have has := Box.newAt (w5.alloc (.cells #[.int .u64 0, .int .u64 18446744073709551615, .int .u64 0, .int .u64 0] 30)) 36 [.int .u8 4, .int .i64 0, .int .u64 0, .int .u64 0, .int .u64 0, .int .u64 0, .int .u64 7, .int .u64 2, .int .u64 7, .int .u64 7] (g := w5.heap.size + 1) (by simp)
  refine (Run_ok _ _ _ _ 1 1 [⟨0, 18446744073709551615, 0, 0⟩] [⟨4, 0, .zero, ⟨7, 2, 7, 7⟩⟩] _ rfl rfl (rd_of_box (hcs.as (show [.int .u64 0, .int .u64 18446744073709551615, .int .u64 0, .int .u64 0] = celsV [⟨0, 18446744073709551615, 0, 0⟩] from rfl))) (rdx_of_box (has.as (show [.int .u8 4, .int .i64 0, .int .u64 0, .int .u64 0, .int .u64 0, .int .u64 0, .int .u64 7, .int .u64 2, .int .u64 7, .int .u64 7] = accsV [⟨4, 0, .zero, ⟨7, 2, 7, 7⟩⟩] from rfl))) (by omega) (by omega) (by decide)).mono ?_
  rintro e w6 ⟨a6, c6, b6, d6, rfl, hR, _, _, hb⟩
  rw [run_wrap] at hR
  have HR6 := Lib.hid hR
  have HB6 := Lib.hid (keepB hb (moreB (moreB HB5.out _) _))
  clear hb hR hcs has HB5
  go_wp2_with fail
  have hcs := (Box.new w6 30 [.int .u64 0, .int .u64 0, .int .u64 0, .int .u64 0]).alloc (.cells #[.int .u8 0, .int .i64 0, .int .u64 0, .int .u64 0, .int .u64 0, .int .u64 0, .int .u64 0, .int .u64 0, .int .u64 0, .int .u64 0] 36)
  have has := Box.newAt (w6.alloc (.cells #[.int .u64 0, .int .u64 0, .int .u64 0, .int .u64 0] 30)) 36 [.int .u8 0, .int .i64 0, .int .u64 0, .int .u64 0, .int .u64 0, .int .u64 0, .int .u64 0, .int .u64 0, .int .u64 0, .int .u64 0] (g := w6.heap.size + 1) (by simp)
  refine (Run_err _ _ _ _ 1 1 [.zero] [⟨0, 0, .zero, .zero⟩] _ rfl rfl (rd_of_box (hcs.as (show [.int .u64 0, .int .u64 0, .int .u64 0, .int .u64 0] = celsV [.zero] from rfl))) (rdx_of_box (has.as (show [.int .u8 0, .int .i64 0, .int .u64 0, .int .u64 0, .int .u64 0, .int .u64 0, .int .u64 0, .int .u64 0, .int .u64 0, .int .u64 0] = accsV [⟨0, 0, .zero, .zero⟩] from rfl))) (by omega) (by omega) (by decide)).mono ?_
  rintro e w7 ⟨rfl, hb⟩
  have HR7 := Lib.hid ((HR6.out.below (moreB (newB w6 (.cells #[.int .u64 0, .int .u64 0, .int .u64 0, .int .u64 0] 30)) (.cells #[.int .u8 0, .int .i64 0, .int .u64 0, .int .u64 0, .int .u64 0, .int .u64 0, .int .u64 0, .int .u64 0, .int .u64 0, .int .u64 0] 36))).below hb)
  have HB7 := Lib.hid (keepB hb (moreB (moreB HB6.out _) _))
  clear hb hcs has HB6 HR6
  go_wp2_with fail
  have hcs := (Box.new w7 30 [.int .u64 0, .int .u64 0, .int .u64 0, .int .u64 0]).alloc (.cells #[.int .u8 5, .int .i64 0, .int .u64 0, .int .u64 0, .int .u64 0, .int .u64 0, .int .u64 0, .int .u64 0, .int .u64 0, .int .u64 0] 36)
  have has := Box.newAt (w7.alloc (.cells #[.int .u64 0, .int .u64 0, .int .u64 0, .int .u64 0] 30)) 36 [.int .u8 5, .int .i64 0, .int .u64 0, .int .u64 0, .int .u64 0, .int .u64 0, .int .u64 0, .int .u64 0, .int .u64 0, .int .u64 0] (g := w7.heap.size + 1) (by simp)
  refine (Run_err _ _ _ _ 1 1 [.zero] [⟨5, 0, .zero, .zero⟩] _ rfl rfl (rd_of_box (hcs.as (show [.int .u64 0, .int .u64 0, .int .u64 0, .int .u64 0] = celsV [.zero] from rfl))) (rdx_of_box (has.as (show [.int .u8 5, .int .i64 0, .int .u64 0, .int .u64 0, .int .u64 0, .int .u64 0, .int .u64 0, .int .u64 0, .int .u64 0, .int .u64 0] = accsV [⟨5, 0, .zero, .zero⟩] from rfl))) (by omega) (by omega) (by decide)).mono ?_
  rintro e w8 ⟨rfl, hb⟩
  have HR8 := Lib.hid ((HR7.out.below (moreB (newB w7 (.cells #[.int .u64 0, .int .u64 0, .int .u64 0, .int .u64 0] 30)) (.cells #[.int .u8 5, .int .i64 0, .int .u64 0, .int .u64 0, .int .u64 0, .int .u64 0, .int .u64 0, .int .u64 0, .int .u64 0, .int .u64 0] 36))).below hb)
  have HB8 := Lib.hid (keepB hb (moreB (moreB HB7.out _) _))
  clear hb hcs has HB7 HR7
  go_wp2_with fail
  refine (Run_ok none none 0 0 0 0 [] [] _ rfl rfl ⟨fun _ => ⟨rfl, rfl⟩, .inl rfl⟩ (.inl rfl) (by omega) (by omega) rfl).mono ?_
  rintro e w9 ⟨a9, c9, b9, d9, rfl, _, _, _, hb⟩
  have HR9 := Lib.hid (HR8.out.below hb)
  have HB9 := Lib.hid (keepB hb HB8.out)
  clear hb HR8 HB8
  go_wp2_with fail
  refine (alive_any _).mono ?_
  rintro e w10 ⟨rfl, hb⟩
  have HR10 := Lib.hid (HR9.out.below hb)
  have HB10 := Lib.hid (keepB hb HB9.out)
  clear hb HR9 HB9
  go_wp2_with fail
  refine (Cells_nil _).mono ?_
  rintro e w11 ⟨rfl, rfl⟩
  go_wp2_with fail
  have hl := Box.new w10 30 [.int .u64 0, .int .u64 1, .int .u64 0, .int .u64 0]
  refine (SameCells_len' a6 _ c6 _ 1 [⟨0, 1, 0, 0⟩] _ rfl (HR10.out.below (newB w10 _)) (rd_of_box (hl.as (show [.int .u64 0, .int .u64 1, .int .u64 0, .int .u64 0] = celsV [⟨0, 1, 0, 0⟩] from rfl))) (by omega)).mono ?_
  rintro e w12 ⟨rfl, hb⟩
  have HB12 := Lib.hid (keepB hb (moreB HB10.out _))
  clear hb hl
  go_wp2_with fail
  go_ret
  exact ⟨rfl, HB12.out⟩

end Go.Proofs.Ytmfkipefnacjdaa
