/- The walk of CellApart. -/
import Derived.Test.YtmfkipefnacjdaaLaw02b
namespace Go.Proofs.Ytmfkipefnacjdaa
open Go.RowKit

/-- An access turns the cell at its place at most. -/
theorem do_far {l : List Cel} {x : Acc} {i : Nat} (h : (i : Int) ≠ x.at' ∨ x.k = 1) : (doL l x)[i]? = l[i]? := by
  unfold doL
  split
  · rename_i hm
    obtain ⟨_, _, h0, h1⟩ := (mayA_iff _ _ _).1 hm
    rcases h with h | h
    · rw [List.getElem?_set_ne (by omega)]
    · have hb : (becomes (l.getD x.at'.toNat .zero) x.k x.old x.new).1 = l.getD x.at'.toNat .zero := by rw [h]; rfl
      rw [hb, set_self]
  · rfl
theorem below_drewN {B : Nat} {a w : World} (h : Below B a w) (n : Nat) : Below B a (w.drewN n) := ⟨h.os, h.tape, h.output, h.size, h.block⟩
theorem run_one (l : List Cel) (x : Acc) : runL l [x] = doL l x ∧ runB l [x] = mayA l.length x.k x.at' := by
  refine ⟨rfl, ?_⟩
  simp [runB]

theorem apart_many (a0 : Option Addr) (l0 c0 : Nat) (x : Acc) (w : World) (h : 1024 < l0) : Calls Try.prog 6 #[.slice a0 l0 c0, .agg #[.int .u8 x.k, .int .i64 x.at', .int .u64 x.old.t, .int .u64 x.old.a, .int .u64 x.old.b, .int .u64 x.old.c, .int .u64 x.new.t, .int .u64 x.new.a, .int .u64 x.new.b, .int .u64 x.new.c]] w fun e w' => e = .returned (.bool true) ∧ Below w.heap.size w w' := by
  go_enter Try.func6, Try.ntmps6
  go_wp2_with fail
  refine (alive_any _).mono ?_
  rintro e w1 ⟨rfl, hb⟩
  have hx := (Box.new w 36 [.int .u8 x.k, .int .i64 x.at', .int .u64 x.old.t, .int .u64 x.old.a, .int .u64 x.old.b, .int .u64 x.old.c, .int .u64 x.new.t, .int .u64 x.new.a, .int .u64 x.new.b, .int .u64 x.new.c]).below hb
  have HB := Lib.hid (keepB hb (newB w _))
  have x0 := hx.c 0 rfl
  have x1 := hx.c 1 rfl
  have x2 := hx.c 2 rfl
  have x3 := hx.c 3 rfl
  have x4 := hx.c 4 rfl
  have x5 := hx.c 5 rfl
  have x6 := hx.c 6 rfl
  have x7 := hx.c 7 rfl
  have x8 := hx.c 8 rfl
  have x9 := hx.c 9 rfl
  clear hx hb
  go_wp2_with fail
  refine (Run_many a0 _ l0 _ c0 _ _ h).mono ?_
  rintro e w2 ⟨rfl, hb2⟩
  have HB2 := Lib.hid (keepB hb2 (moreB HB.out _))
  clear hb2 HB x0 x1 x2 x3 x4 x5 x6 x7 x8 x9
  go_wp2_with fail
  go_ret
  exact ⟨rfl, HB2.out⟩

theorem apart_err (a0 : Option Addr) (l0 c0 : Nat) (l : List Cel) (x : Acc) (w : World) (hl : l.length = l0) (hR : Rd w a0 c0 l) (h : l0 ≤ 1024) (hm : mayA l0 x.k x.at' = false) : Calls Try.prog 6 #[.slice a0 l0 c0, .agg #[.int .u8 x.k, .int .i64 x.at', .int .u64 x.old.t, .int .u64 x.old.a, .int .u64 x.old.b, .int .u64 x.old.c, .int .u64 x.new.t, .int .u64 x.new.a, .int .u64 x.new.b, .int .u64 x.new.c]] w fun e w' => e = .returned (.bool true) ∧ Below w.heap.size w w' := by
  have HR := Lib.hid hR; have HL := Lib.hid hl; have HM := Lib.hid hm
  clear hR hl hm
  go_enter Try.func6, Try.ntmps6
  go_wp2_with fail
  refine (alive_any _).mono ?_
  rintro e w1 ⟨rfl, hb⟩
  have hx := (Box.new w 36 [.int .u8 x.k, .int .i64 x.at', .int .u64 x.old.t, .int .u64 x.old.a, .int .u64 x.old.b, .int .u64 x.old.c, .int .u64 x.new.t, .int .u64 x.new.a, .int .u64 x.new.b, .int .u64 x.new.c]).below hb
  have HB := Lib.hid (keepB hb (newB w _))
  have x0 := hx.c 0 rfl
  have x1 := hx.c 1 rfl
  have x2 := hx.c 2 rfl
  have x3 := hx.c 3 rfl
  have x4 := hx.c 4 rfl
  have x5 := hx.c 5 rfl
  have x6 := hx.c 6 rfl
  have x7 := hx.c 7 rfl
  have x8 := hx.c 8 rfl
  have x9 := hx.c 9 rfl
  clear hx hb
  go_wp2_with fail
  have has := Box.new w1 36 [.int .u8 x.k, .int .i64 x.at', .int .u64 x.old.t, .int .u64 x.old.a, .int .u64 x.old.b, .int .u64 x.old.c, .int .u64 x.new.t, .int .u64 x.new.a, .int .u64 x.new.b, .int .u64 x.new.c]
  refine (Run_err a0 _ c0 _ l0 1 l [x] _ HL.out rfl ((HR.out.below HB.out).below (newB w1 _)) (rdx_of_box (has.as (show [.int .u8 x.k, .int .i64 x.at', .int .u64 x.old.t, .int .u64 x.old.a, .int .u64 x.old.b, .int .u64 x.old.c, .int .u64 x.new.t, .int .u64 x.new.a, .int .u64 x.new.b, .int .u64 x.new.c] = accsV [x] from rfl))) h (by omega) (by rw [(run_one l x).2, HL.out]; exact HM.out)).mono ?_
  rintro e w2 ⟨rfl, hb2⟩
  have HB2 := Lib.hid (keepB hb2 (moreB HB.out _))
  clear hb2 HB has x0 x1 x2 x3 x4 x5 x6 x7 x8 x9
  go_wp2_with fail
  go_ret
  exact ⟨rfl, HB2.out⟩

set_option maxHeartbeats 3200000 in
theorem apart_go (a0 : Option Addr) (l0 c0 : Nat) (l : List Cel) (x : Acc) (w : World) (hl : l.length = l0) (hR : Rd w a0 c0 l) (h : l0 ≤ 1024) (hm : mayA l0 x.k x.at' = true) : Calls Try.prog 6 #[.slice a0 l0 c0, .agg #[.int .u8 x.k, .int .i64 x.at', .int .u64 x.old.t, .int .u64 x.old.a, .int .u64 x.old.b, .int .u64 x.old.c, .int .u64 x.new.t, .int .u64 x.new.a, .int .u64 x.new.b, .int .u64 x.new.c]] w fun e w' => e = .returned (.bool true) ∧ Below w.heap.size w w' := by
  have HR := Lib.hid hR; have HL := Lib.hid hl; have HM := Lib.hid hm
  clear hR hl hm
  go_enter Try.func6, Try.ntmps6
  go_wp2_with fail
  refine (alive_any _).mono ?_
  rintro e w1 ⟨rfl, hb⟩
  have hx := (Box.new w 36 [.int .u8 x.k, .int .i64 x.at', .int .u64 x.old.t, .int .u64 x.old.a, .int .u64 x.old.b, .int .u64 x.old.c, .int .u64 x.new.t, .int .u64 x.new.a, .int .u64 x.new.b, .int .u64 x.new.c]).below hb
  have HB := Lib.hid (keepB hb (newB w _))
  have x0 := hx.c 0 rfl
  have x1 := hx.c 1 rfl
  have x2 := hx.c 2 rfl
  have x3 := hx.c 3 rfl
  have x4 := hx.c 4 rfl
  have x5 := hx.c 5 rfl
  have x6 := hx.c 6 rfl
  have x7 := hx.c 7 rfl
  have x8 := hx.c 8 rfl
  have x9 := hx.c 9 rfl
  have HX := Lib.hid hx
  clear hx hb
  go_wp2_with fail
  have has := Box.new w1 36 [.int .u8 x.k, .int .i64 x.at', .int .u64 x.old.t, .int .u64 x.old.a, .int .u64 x.old.b, .int .u64 x.old.c, .int .u64 x.new.t, .int .u64 x.new.a, .int .u64 x.new.b, .int .u64 x.new.c]
  refine (Run_ok a0 _ c0 _ l0 1 l [x] _ HL.out rfl ((HR.out.below HB.out).below (newB w1 _)) (rdx_of_box (has.as (show [.int .u8 x.k, .int .i64 x.at', .int .u64 x.old.t, .int .u64 x.old.a, .int .u64 x.old.b, .int .u64 x.old.c, .int .u64 x.new.t, .int .u64 x.new.a, .int .u64 x.new.b, .int .u64 x.new.c] = accsV [x] from rfl))) h (by omega) (by rw [(run_one l x).2, HL.out]; exact HM.out)).mono ?_
  rintro e w2 ⟨a, c, b, d, rfl, hR2, _, _, hb2⟩
  rw [(run_one l x).1] at hR2
  have HB2 := Lib.hid (keepB hb2 (moreB HB.out _))
  have HR2 := Lib.hid hR2
  have HX2 := Lib.hid ((HX.out.alloc (.cells #[.int .u8 x.k, .int .i64 x.at', .int .u64 x.old.t, .int .u64 x.old.a, .int .u64 x.old.b, .int .u64 x.old.c, .int .u64 x.new.t, .int .u64 x.new.a, .int .u64 x.new.b, .int .u64 x.new.c] 36)).below hb2)
  have HL0 := Lib.hid (((HR.out.below HB.out).below (newB w1 (.cells #[.int .u8 x.k, .int .i64 x.at', .int .u64 x.old.t, .int .u64 x.old.a, .int .u64 x.old.b, .int .u64 x.old.c, .int .u64 x.new.t, .int .u64 x.new.a, .int .u64 x.new.b, .int .u64 x.new.c] 36))).below hb2)
  clear hb2 hR2 HB HX has x0 x1 x2 x3 x4 x5 x6 x7 x8 x9
  go_wp2_with fail
  go_loopw [9] (fun i wr => ∃ k : Nat, k ≤ l0 ∧ i = .int .i64 k ∧ Below w2.heap.size w2 wr) (fun i _ => l0 - (intOf i).toNat)
  case atStart => exact ⟨0, Nat.zero_le _, rfl, Below.refl _ _⟩
  case round =>
    obtain ⟨k, hk, rfl, hb⟩ := hrel
    by_cases hlt : k < l0
    · have hkl : k < (doL l x).length := by rw [doL_len, HL.out]; exact hlt
      obtain ⟨b1, o1, rfl⟩ := HR2.out.addr hkl
      obtain ⟨b2, o2, rfl⟩ := HL0.out.addr (k := k) (by rw [HL.out]; exact hlt)
      have xx := HX2.out.below hb
      have x0 := xx.c 0 rfl
      have x1 := xx.c 1 rfl
      have HB3 := Lib.hid hb
      have i1 : (0 : Int) ≤ (k : Int) := by omega
      have i2 : (k : Int) < (l0 : Int) := by omega
      clear xx
      by_cases hc : (k : Int) ≠ x.at' ∨ x.k = 1
      · obtain ⟨y, hy⟩ : ∃ y, l[k]? = some y := ⟨_, List.getElem?_eq_getElem (by rw [HL.out]; exact hlt)⟩
        have hy2 : (doL l x)[k]? = some y := (do_far hc).trans hy
        obtain ⟨c0', c1', c2', c3'⟩ := (HR2.out.below hb).get hy2
        obtain ⟨d0, d1, d2, d3⟩ := (HL0.out.below hb).get hy
        clear hb hy hy2 hkl
        by_cases he : (k : Int) = x.at'
        · have e1 : x.k = 1 := by omega
          rw [← he] at x1
          rw [e1] at x0
          clear hc he e1
          go_wp2_with fail
          go_region_held3 (fun U => Below w2.heap.size w2 U ∧ U.cell? ⟨w.heap.size, 0, none⟩ = some (.int .u8 1) ∧ U.cell? ⟨w.heap.size, 1, none⟩ = some (.int .i64 k) ∧ U.cell? ⟨b1, o1 + k * 4, none⟩ = some (.int .u64 y.t) ∧ U.cell? ⟨b1, o1 + k * 4 + 1, none⟩ = some (.int .u64 y.a) ∧ U.cell? ⟨b1, o1 + k * 4 + 2, none⟩ = some (.int .u64 y.b) ∧ U.cell? ⟨b1, o1 + k * 4 + 3, none⟩ = some (.int .u64 y.c) ∧ U.cell? ⟨b2, o2 + k * 4, none⟩ = some (.int .u64 y.t) ∧ U.cell? ⟨b2, o2 + k * 4 + 1, none⟩ = some (.int .u64 y.a) ∧ U.cell? ⟨b2, o2 + k * 4 + 2, none⟩ = some (.int .u64 y.b) ∧ U.cell? ⟨b2, o2 + k * 4 + 3, none⟩ = some (.int .u64 y.c))
            (first
              | (try go_split_ands
                 repeat' apply And.intro
                 all_goals first
                   | assumption
                   | exact HB3.out
                   | exact Below.drew HB3.out
                   | (rw [World.cell?_drew]; assumption)
                   | exact keepC hb (by first | assumption | (rw [World.cell?_drew]; assumption))
                   | exact keepB hb (by first | assumption | exact Below.drew (by assumption))))
            (first
              | (go_at_call 12; refine (Same_any y y _).mono ?_; rintro e w' ⟨rfl, hb⟩; rw [sameB_self]))
          all_goals go_split_ands
          all_goals go_wp2_with fail
          all_goals go_roundw
          case rel => exact ⟨k + 1, by omega, by go_num, by assumption⟩
          case measure => simp [intOf]; omega
        · have e1 : ((k : Int) != x.at') = true := by rw [bne_iff_ne]; exact he
          clear hc
          go_wp2_with fail
          first | go_region_with (first
            | (go_at_call 12; refine (Same_any y y _).mono ?_; rintro e w' ⟨rfl, hb⟩; rw [sameB_self])) | fail
          all_goals (have HB4 := Lib.hid (keepB hb (Below.drew HB3.out)))
          all_goals go_wp2_with fail
          all_goals go_roundw
          all_goals first
            | exact ⟨k + 1, by omega, by go_num, HB4.out⟩
            | (simp [intOf]; omega)
      · have he : (k : Int) = x.at' := by omega
        have e1 : (x.k == 1) = false := beq_eq_false_iff_ne.2 (by omega)
        rw [← he] at x1
        clear hb hkl hc he
        go_wp2_with fail
        go_quiet (fail)
        have HB4 := Lib.hid (below_drewN HB3.out nq)
        generalize wr.drewN nq = wx at HB4 ⊢
        go_wp2_with fail
        go_roundw
        case rel => exact ⟨k + 1, by omega, by go_num, HB4.out⟩
        case measure => simp [intOf]; omega
    · have HB3 := Lib.hid hb
      have i2 : (l0 : Int) ≤ (k : Int) := by omega
      clear hb
      go_wp2_with fail
      go_ret
      exact ⟨rfl, HB2.out.trans (HB3.out.mono HB2.out.size)⟩

theorem walk_CellApart (a0 : Option Addr) (l0 c0 : Nat) (n1_0 n1_1 n1_2 n1_3 n1_4 n1_5 n1_6 n1_7 n1_8 n1_9 : Int) (w : World) (s0 : Fra.Slc w [.u64, .u64, .u64, .u64] a0 l0 c0) (_b1_0 : IntKind.u8.min ≤ n1_0 ∧ n1_0 ≤ IntKind.u8.max) (_b1_1 : IntKind.i64.min ≤ n1_1 ∧ n1_1 ≤ IntKind.i64.max) (b1_2 : IntKind.u64.min ≤ n1_2 ∧ n1_2 ≤ IntKind.u64.max) (b1_3 : IntKind.u64.min ≤ n1_3 ∧ n1_3 ≤ IntKind.u64.max) (b1_4 : IntKind.u64.min ≤ n1_4 ∧ n1_4 ≤ IntKind.u64.max) (b1_5 : IntKind.u64.min ≤ n1_5 ∧ n1_5 ≤ IntKind.u64.max) (b1_6 : IntKind.u64.min ≤ n1_6 ∧ n1_6 ≤ IntKind.u64.max) (b1_7 : IntKind.u64.min ≤ n1_7 ∧ n1_7 ≤ IntKind.u64.max) (b1_8 : IntKind.u64.min ≤ n1_8 ∧ n1_8 ≤ IntKind.u64.max) (b1_9 : IntKind.u64.min ≤ n1_9 ∧ n1_9 ≤ IntKind.u64.max) :
    Calls Try.prog 6 #[.slice a0 l0 c0, .agg #[.int .u8 n1_0, .int .i64 n1_1, .int .u64 n1_2, .int .u64 n1_3, .int .u64 n1_4, .int .u64 n1_5, .int .u64 n1_6, .int .u64 n1_7, .int .u64 n1_8, .int .u64 n1_9]] w fun e w' => e = .returned (.bool true) ∧ Below w.heap.size w w' := by
  obtain ⟨l, hl, hR⟩ := slc_cells s0
  clear _b1_0 _b1_1 s0
  simp [IntKind.min, IntKind.max, IntKind.signed, IntKind.bits] at *
  obtain ⟨v2, rfl⟩ := Int.eq_ofNat_of_zero_le b1_2.1
  obtain ⟨v3, rfl⟩ := Int.eq_ofNat_of_zero_le b1_3.1
  obtain ⟨v4, rfl⟩ := Int.eq_ofNat_of_zero_le b1_4.1
  obtain ⟨v5, rfl⟩ := Int.eq_ofNat_of_zero_le b1_5.1
  obtain ⟨v6, rfl⟩ := Int.eq_ofNat_of_zero_le b1_6.1
  obtain ⟨v7, rfl⟩ := Int.eq_ofNat_of_zero_le b1_7.1
  obtain ⟨v8, rfl⟩ := Int.eq_ofNat_of_zero_le b1_8.1
  obtain ⟨v9, rfl⟩ := Int.eq_ofNat_of_zero_le b1_9.1
  have key : ∀ x : Acc, Calls Try.prog 6 #[.slice a0 l0 c0, .agg #[.int .u8 x.k, .int .i64 x.at', .int .u64 x.old.t, .int .u64 x.old.a, .int .u64 x.old.b, .int .u64 x.old.c, .int .u64 x.new.t, .int .u64 x.new.a, .int .u64 x.new.b, .int .u64 x.new.c]] w fun e w' => e = .returned (.bool true) ∧ Below w.heap.size w w' := by
    intro x
    by_cases h : l0 ≤ 1024
    · cases hm : mayA l0 x.k x.at' with
      | true => exact apart_go a0 l0 c0 l x w hl hR h hm
      | false => exact apart_err a0 l0 c0 l x w hl hR h hm
    · exact apart_many a0 l0 c0 x w (by omega)
  exact key ⟨n1_0, n1_1, ⟨v2, v3, v4, v5⟩, ⟨v6, v7, v8, v9⟩⟩

end Go.Proofs.Ytmfkipefnacjdaa
