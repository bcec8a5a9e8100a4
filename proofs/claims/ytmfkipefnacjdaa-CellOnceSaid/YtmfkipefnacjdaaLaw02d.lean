/- The walk of CellOnce. -/
import Derived.Test.YtmfkipefnacjdaaLaw02b
import Derived.Test.YtmfkipefnacjdaaPlainOnce
namespace Go.Proofs.Ytmfkipefnacjdaa
open Go.RowKit

theorem once_short (a0 a2 : Option Addr) (l0 c0 l2 c2 : Nat) (i : Int) (w : World) (h : 1024 < l0 ∨ (l0 ≤ 1024 ∧ i < 0) ∨ (l0 ≤ 1024 ∧ 0 ≤ i ∧ (l0 : Int) ≤ i) ∨ (l0 ≤ 1024 ∧ 0 ≤ i ∧ i < (l0 : Int) ∧ 100 < l2) ∨ (l0 ≤ 1024 ∧ 0 ≤ i ∧ i < (l0 : Int) ∧ l2 = 0)) : Calls Try.prog 7 #[.slice a0 l0 c0, .int .i64 i, .slice a2 l2 c2] w fun e w' => e = .returned (.bool true) ∧ Below w.heap.size w w' := by
  rcases h with h | ⟨h1, h2⟩ | ⟨h1, h2, h3⟩ | ⟨h1, h2, h3, h4⟩ | ⟨h1, h2, h3, rfl⟩
  all_goals go_enter Try.func7, Try.ntmps7
  all_goals go_wp2_with fail
  all_goals refine (alive_any _).mono ?_
  all_goals rintro e w1 ⟨rfl, hb⟩
  all_goals have HB := Lib.hid hb
  all_goals clear hb
  all_goals go_wp2_with fail
  all_goals go_ret
  all_goals exact ⟨rfl, HB.out⟩

set_option maxHeartbeats 3200000 in
theorem once_go (a0 a2 : Option Addr) (l0 c0 p n c2 : Nat) (l ns : List Cel) (w : World) (hl : l.length = l0) (hns : ns.length = n) (hR : Rd w a0 c0 l) (hN : Rd w a2 c2 ns) (h0 : l0 ≤ 1024) (hp : p < l0) (hn : n ≤ 100) (h1 : 0 < n) : Calls Try.prog 7 #[.slice a0 l0 c0, .int .i64 (p : Int), .slice a2 n c2] w fun e w' => e = .returned (.bool true) ∧ Below w.heap.size w w' := by
  obtain ⟨k0, hk0, hq0, hq1, hq2⟩ := info_parts infoAcc
  obtain ⟨b1, o1, rfl⟩ := hR.addr (k := p) (by omega)
  obtain ⟨b2, o2, rfl⟩ := hN.addr (k := 0) (by omega)
  obtain ⟨o, ho⟩ : ∃ o, l[p]? = some o := ⟨_, List.getElem?_eq_getElem (by omega)⟩
  have lb1 : b1 < w.heap.size := by
    rcases hR.at' with h | ⟨b, off, e, hb, _⟩
    · cases h
    · cases e
      rcases hb with h | h
      · rw [h] at hl; simp at hl; omega
      · exact h
  have lb2 : b2 < w.heap.size := by
    rcases hN.at' with h | ⟨b, off, e, hb, _⟩
    · cases h
    · cases e
      rcases hb with h | h
      · rw [h] at hns; simp at hns; omega
      · exact h
  have HR := Lib.hid hR; have HN := Lib.hid hN; have HL := Lib.hid hl; have HS := Lib.hid hns; have HO := Lib.hid ho
  clear hR hN hl hns ho
  have i0 : (l0 : Int) ≤ 1024 := by omega
  have i1 : (0 : Int) ≤ (p : Int) := by omega
  have i2 : (p : Int) < (l0 : Int) := by omega
  have i3 : (0 : Int) < (n : Int) := by omega
  have i4 : (n : Int) ≤ 100 := by omega
  have i5 : ((n : Int) == 0) = false := beq_eq_false_iff_ne.2 (by omega)
  have d1 : decide ((1024 : Int) < (l0 : Int)) = false := decide_eq_false (by omega)
  have d2 : decide ((p : Int) < 0) = false := decide_eq_false (by omega)
  have d3 : decide (l0 ≤ p) = false := decide_eq_false (by omega)
  have d4 : decide ((100 : Int) < (n : Int)) = false := decide_eq_false (by omega)
  go_enter Try.func7, Try.ntmps7
  go_wp2_with fail
  refine (alive_any _).mono ?_
  rintro e w1 ⟨rfl, hb⟩
  have HB := Lib.hid hb
  clear hb
  go_wp2_with fail
  clear d1 d2 d3 d4
  go_loopw [8, 9] (fun xs i wr => ∃ k : Nat, k ≤ n ∧ i = .int .i64 k ∧ wr.ownsRow w.heap.size 36 10 xs k (accsV (casL p o (ns.take k))) ∧ Hid (∀ y, y ∈ ns.take k → y ≠ o) ∧ Below w.heap.size w wr) (fun _ i _ => n - (intOf i).toNat)
  case atStart => exact ⟨0, Nat.zero_le _, rfl, World.ownsRow_nil _ _ _ _, Lib.hid (fun y hy => by simp at hy), HB.out⟩
  case round =>
    obtain ⟨k, hk, rfl, hth, HQ, hb⟩ := hrel
    have HT := Lib.hid hth; have HB2 := Lib.hid hb
    clear hth hb HB
    by_cases hlt : k < n
    · have j1 : (0 : Int) ≤ (k : Int) := by omega
      have j2 : (k : Int) < (n : Int) := by omega
      obtain ⟨y, hy⟩ : ∃ y, ns[k]? = some y := ⟨_, List.getElem?_eq_getElem (by rw [HS.out]; exact hlt)⟩
      have HY := Lib.hid hy
      obtain ⟨y0, y1, y2, y3⟩ := (HN.out.below HB2.out).get hy
      obtain ⟨z0, z1, z2, z3⟩ := (HR.out.below HB2.out).get HO.out
      clear hy
      cases hs : sameB y o with
      | true =>
        have HE := Lib.hid hs
        clear hs
        go_wp2_with fail
        go_region_held3 (fun U => Below wr.heap.size wr U ∧ U.cell? ⟨b2, o2 + k * 4, none⟩ = some (.int .u64 y.t) ∧ U.cell? ⟨b2, o2 + k * 4 + 1, none⟩ = some (.int .u64 y.a) ∧ U.cell? ⟨b2, o2 + k * 4 + 2, none⟩ = some (.int .u64 y.b) ∧ U.cell? ⟨b2, o2 + k * 4 + 3, none⟩ = some (.int .u64 y.c) ∧ U.cell? ⟨b1, o1 + p * 4, none⟩ = some (.int .u64 o.t) ∧ U.cell? ⟨b1, o1 + p * 4 + 1, none⟩ = some (.int .u64 o.a) ∧ U.cell? ⟨b1, o1 + p * 4 + 2, none⟩ = some (.int .u64 o.b) ∧ U.cell? ⟨b1, o1 + p * 4 + 3, none⟩ = some (.int .u64 o.c))
          (first
            | (try go_split_ands
               repeat' apply And.intro
               all_goals first
                 | assumption
                 | exact Below.drew (Below.refl _ _)
                 | (rw [World.cell?_drew]; assumption)
                 | exact keepC hb (by first | assumption | (rw [World.cell?_drew]; assumption))
                 | exact keepB hb (by first | assumption | exact Below.drew (Below.refl _ _))))
          (first
            | (go_at_call 12; refine (Same_any y o _).mono ?_; rintro e w3 ⟨rfl, hb⟩; rw [HE.out]))
        all_goals go_split_ands
        have HB3 := Lib.hid (keepB (show Below wr.heap.size wr w3 by assumption) HB2.out)
        go_wp2_with fail
        go_ret
        exact ⟨rfl, HB3.out⟩
      | false =>
        have HE := Lib.hid hs
        clear hs
        go_wp2_with fail
        go_region_held3 (fun U => Below wr.heap.size wr U ∧ U.cell? ⟨b2, o2 + k * 4, none⟩ = some (.int .u64 y.t) ∧ U.cell? ⟨b2, o2 + k * 4 + 1, none⟩ = some (.int .u64 y.a) ∧ U.cell? ⟨b2, o2 + k * 4 + 2, none⟩ = some (.int .u64 y.b) ∧ U.cell? ⟨b2, o2 + k * 4 + 3, none⟩ = some (.int .u64 y.c) ∧ U.cell? ⟨b1, o1 + p * 4, none⟩ = some (.int .u64 o.t) ∧ U.cell? ⟨b1, o1 + p * 4 + 1, none⟩ = some (.int .u64 o.a) ∧ U.cell? ⟨b1, o1 + p * 4 + 2, none⟩ = some (.int .u64 o.b) ∧ U.cell? ⟨b1, o1 + p * 4 + 3, none⟩ = some (.int .u64 o.c))
          (first
            | (try go_split_ands
               repeat' apply And.intro
               all_goals first
                 | assumption
                 | exact Below.drew (Below.refl _ _)
                 | (rw [World.cell?_drew]; assumption)
                 | exact keepC hb (by first | assumption | (rw [World.cell?_drew]; assumption))
                 | exact keepB hb (by first | assumption | exact Below.drew (Below.refl _ _))))
          (first
            | (go_at_call 12; refine (Same_any y o _).mono ?_; rintro e w3 ⟨rfl, hb⟩; rw [HE.out]))
        all_goals go_split_ands
        rename Below wr.heap.size wr w3 => hbw
        have HB3 := Lib.hid (keepB hbw HB2.out)
        have HT3 := Lib.hid (own_below HT.out hbw)
        clear hbw y0 y1 y2 y3 z0 z1 z2 z3
        have ne1 : u8.ownBlock ≠ some b1 := fun e => by have := (World.ownsRow.lt HT3.out b1 e).1; omega
        have ne2 : u8.ownBlock ≠ some b2 := fun e => by have := (World.ownsRow.lt HT3.out b2 e).1; omega
        have sz := HB3.out.size
        go_wp2_with fail
        go_region_held3 (fun U => U.cell? ⟨b2, o2 + k * 4, none⟩ = some (.int .u64 y.t) ∧ U.cell? ⟨b2, o2 + k * 4 + 1, none⟩ = some (.int .u64 y.a) ∧ U.cell? ⟨b2, o2 + k * 4 + 2, none⟩ = some (.int .u64 y.b) ∧ U.cell? ⟨b2, o2 + k * 4 + 3, none⟩ = some (.int .u64 y.c) ∧ U.cell? ⟨b1, o1 + p * 4, none⟩ = some (.int .u64 o.t) ∧ U.cell? ⟨b1, o1 + p * 4 + 1, none⟩ = some (.int .u64 o.a) ∧ U.cell? ⟨b1, o1 + p * 4 + 2, none⟩ = some (.int .u64 o.b) ∧ U.cell? ⟨b1, o1 + p * 4 + 3, none⟩ = some (.int .u64 o.c))
          (first
            | go_keep
            | (go_split_ands
               repeat' apply And.intro
               all_goals first
                 | (rw [hgrow.cell_far _ (by simp; omega) (Ne.symm ne1)]; assumption)
                 | (rw [hgrow.cell_far _ (by simp; omega) (Ne.symm ne2)]; assumption)))
          ((refine step_append_lies _ (by rfl) _ _ _ (by rfl) w.heap.size 36 k0 (.agg #[.int .u8 0, .int .i64 0, .int .u64 0, .int .u64 0, .int .u64 0, .int .u64 0, .int .u64 0, .int .u64 0, .int .u64 0, .int .u64 0]) 10 80 Try.underlying23 hk0 hq0 hq1 hq2 rfl (by omega) u8 k (accsV (casL p o (ns.take k))) (by rfl) ((World.ownsRow.alloc HT3.out _).drew) ⟨w3.heap.size, 0, none⟩ 1 1 [.int .u8 3, .int .i64 (p : Int), .int .u64 o.t, .int .u64 o.a, .int .u64 o.b, .int .u64 o.c, .int .u64 y.t, .int .u64 y.a, .int .u64 y.b, .int .u64 y.c] (by rfl) (by rfl) (World.news_of_block (cs := #[.int .u8 3, .int .i64 (p : Int), .int .u64 o.t, .int .u64 o.a, .int .u64 o.b, .int .u64 o.c, .int .u64 y.t, .int .u64 y.a, .int .u64 y.b, .int .u64 y.c]) (t := 36) (fr := (0, 0)) (heap_alloc_new w3 _)) (by simp [Value.oneCell']) (by omega) (by unfold maxLen; omega) (by omega) (by simp; omega) (w3.heap.size + 1) (by simp) ?_; intro gg cap w4 hown1 hgrow hat hlt1))
        all_goals go_split_ands
        have HW := Lib.hid hown1
        have HB4 := Lib.hid (((HB3.out.alloc HB3.out.size (.cells #[.int .u8 3, .int .i64 (p : Int), .int .u64 o.t, .int .u64 o.a, .int .u64 o.b, .int .u64 o.c, .int .u64 y.t, .int .u64 y.a, .int .u64 y.b, .int .u64 y.c] 36)).drew).grown hgrow (by simp; omega) (fun j e => (World.ownsRow.lt HT3.out j e).1))
        clear hown1 hgrow hat
        go_wp2_with fail
        go_roundw
        case rel =>
          refine ⟨k + 1, by omega, by go_num, ?_, Lib.hid ?_, HB4.out⟩
          · rw [casL_take p o HY.out, accsV_snoc]; exact HW.out
          · intro z hz
            rw [List.take_add_one, HY.out] at hz
            rcases List.mem_append.1 hz with hz | hz
            · exact HQ.out z hz
            · obtain rfl : z = y := by simpa using hz
              intro e
              rw [e, sameB_self] at HE
              exact absurd HE.out (by decide)
        case measure => simp [intOf]; omega
    · obtain rfl : k = n := by omega
      have hall := HQ.out
      rw [show ns.take k = ns from by rw [← HS.out, List.take_length]] at hall
      have hT := HT.out
      rw [show ns.take k = ns from by rw [← HS.out, List.take_length]] at hT
      have HA := Lib.hid hall; have HT2 := Lib.hid hT
      clear hall hT HQ HT
      have sz := HB2.out.size
      have j2 : (k : Int) ≤ (k : Int) := by omega
      have j3 : (k : Int) < (((k + 1 : Nat)) : Int) := by omega
      go_wp2_with (at_builtin; refine wpList_append_own _ rfl _ _ 23 rfl w.heap.size 36 k0 (.agg #[.int .u8 0, .int .i64 0, .int .u64 0, .int .u64 0, .int .u64 0, .int .u64 0, .int .u64 0, .int .u64 0, .int .u64 0, .int .u64 0]) 10 80 Try.underlying23 hk0 hq0 hq1 hq2 rfl (by decide) _ _ _ rfl (World.ownsRow.alloc HT2.out _) ⟨wr.heap.size, 0, none⟩ 1 1 [.int .u8 1, .int .i64 (p : Int), .int .u64 0, .int .u64 0, .int .u64 0, .int .u64 0, .int .u64 0, .int .u64 0, .int .u64 0, .int .u64 0] rfl rfl (new10 wr (.int .u8 1) (.int .i64 (p : Int)) (.int .u64 0) (.int .u64 0) (.int .u64 0) (.int .u64 0) (.int .u64 0) (.int .u64 0) (.int .u64 0) (.int .u64 0) 36) (by simp [Value.oneCell']) (by unfold maxLen; omega) (by omega) (by simp; omega) ?_; intro v' w3 hown1 hgrow1 _; obtain ⟨ax, cx, rfl, hX⟩ := rdx_of_own (l := onceL p o ns) (show w3.ownsRow w.heap.size 36 10 v' (k + 1) (accsV (onceL p o ns)) from by unfold onceL; rw [accsV_snoc]; exact hown1) (by rw [onceL_len, HS.out]); have HX := Lib.hid hX; have HB3 := Lib.hid ((moreB HB2.out (.cells #[.int .u8 1, .int .i64 (p : Int), .int .u64 0, .int .u64 0, .int .u64 0, .int .u64 0, .int .u64 0, .int .u64 0, .int .u64 0, .int .u64 0] 36)).grown hgrow1 (by simp; omega) (fun j e => (World.ownsRow.lt HT2.out j e).1)); clear hX hown1 hgrow1)
      refine (Run_ok _ _ _ _ l0 (k + 1) l (onceL p o ns) _ HL.out (by rw [onceL_len, HS.out]) (HR.out.below HB3.out) HX.out h0 (by omega) (once_ok o ns (by rw [HL.out]; exact hp))).mono ?_
      rintro e w4 ⟨ar, cr, br, dr, rfl, _, hS2, _, hb2⟩
      obtain ⟨b3, o3, rfl⟩ := hS2.addr (k := 0) (by rw [once_len]; omega)
      have HS2 := Lib.hid hS2; have HB4 := Lib.hid (keepB hb2 HB3.out)
      clear hS2 hb2
      go_wp2_with fail
      go_loopw [13] (fun i wx => ∃ j : Nat, j ≤ k ∧ i = .int .i64 j ∧ wx = w4) (fun i _ => k - (intOf i).toNat)
      case atStart => exact ⟨0, Nat.zero_le _, rfl, rfl⟩
      case round =>
        obtain ⟨j, hj, rfl, rfl⟩ := hrel
        by_cases hlt2 : j < k
        · have j4 : (0 : Int) ≤ (j : Int) := by omega
          have j5 : (j : Int) < (k : Int) := by omega
          have j6 : (j : Int) < (((k + 1 : Nat)) : Int) := by omega
          obtain ⟨s, hs, he⟩ := once_at HO.out HA.out (k := j) (by rw [HS.out]; exact hlt2)
          obtain ⟨_, _, _, _, c4⟩ := HS2.out.get hs
          rw [he] at c4
          clear hs he
          cases hz : ((j : Int) == 0) with
          | true =>
            rw [hz] at c4
            go_wp2_with fail
            go_roundw
            case rel => exact ⟨j + 1, by omega, by go_num, by trivial⟩
            case measure => simp [intOf]; omega
          | false =>
            rw [hz] at c4
            go_wp2_with fail
            go_roundw
            case rel => exact ⟨j + 1, by omega, by go_num, by trivial⟩
            case measure => simp [intOf]; omega
        · obtain rfl : j = k := by omega
          have j4 : (0 : Int) ≤ (j : Int) := by omega
          have j6 : (j : Int) < (j : Int) + 1 := by omega
          obtain ⟨y, hy⟩ : ∃ y, ns[0]? = some y := ⟨_, List.getElem?_eq_getElem (by rw [HS.out]; exact h1)⟩
          have hlast := once_last HO.out HA.out hy
          rw [HS.out] at hlast
          obtain ⟨z0, z1, z2, z3, _⟩ := HS2.out.get hlast
          obtain ⟨y0, y1, y2, y3⟩ := (HN.out.below HB4.out).get hy
          simp only [Nat.zero_mul, Nat.add_zero] at y0 y1 y2 y3
          clear hlast hy
          go_wp2_with fail
          go_region_held3 (fun U => Below wr.heap.size wr U ∧ U.cell? ⟨b3, o3 + j * 5, none⟩ = some (.int .u64 y.t) ∧ U.cell? ⟨b3, o3 + j * 5 + 1, none⟩ = some (.int .u64 y.a) ∧ U.cell? ⟨b3, o3 + j * 5 + 2, none⟩ = some (.int .u64 y.b) ∧ U.cell? ⟨b3, o3 + j * 5 + 3, none⟩ = some (.int .u64 y.c) ∧ U.cell? ⟨b2, o2, none⟩ = some (.int .u64 y.t) ∧ U.cell? ⟨b2, o2 + 1, none⟩ = some (.int .u64 y.a) ∧ U.cell? ⟨b2, o2 + 2, none⟩ = some (.int .u64 y.b) ∧ U.cell? ⟨b2, o2 + 3, none⟩ = some (.int .u64 y.c))
            (first
            | (try go_split_ands
               repeat' apply And.intro
               all_goals first
                 | assumption
                 | exact Below.drew (Below.refl _ _)
                 | (rw [World.cell?_drew]; assumption)
                 | exact keepC hb (by first | assumption | (rw [World.cell?_drew]; assumption))
                 | exact keepB hb (by first | assumption | exact Below.drew (Below.refl _ _))))
            (first
              | (go_at_call 12; refine (Same_any y y _).mono ?_; rintro e w5 ⟨rfl, hb⟩; rw [sameB_self]))
          all_goals go_split_ands
          have HB5 := Lib.hid (keepB (show Below wr.heap.size wr w5 by assumption) HB4.out)
          go_wp2_with fail
          go_ret
          exact ⟨rfl, HB5.out⟩

theorem walk_CellOnce (a0 : Option Addr) (l0 c0 : Nat) (n1 : Int) (a2 : Option Addr) (l2 c2 : Nat) (w : World) (s0 : Fra.Slc w [.u64, .u64, .u64, .u64] a0 l0 c0) (_b1 : IntKind.i64.min ≤ n1 ∧ n1 ≤ IntKind.i64.max) (s2 : Fra.Slc w [.u64, .u64, .u64, .u64] a2 l2 c2) :
    Calls Try.prog 7 #[.slice a0 l0 c0, .int .i64 n1, .slice a2 l2 c2] w fun e w' => e = .returned (.bool true) ∧ Below w.heap.size w w' := by
  obtain ⟨l, hl, hR⟩ := slc_cells s0
  obtain ⟨ns, hns, hN⟩ := slc_cells s2
  by_cases h : l0 ≤ 1024
  · by_cases h' : 0 ≤ n1
    · by_cases h'' : n1 < (l0 : Int)
      · by_cases h3 : l2 ≤ 100
        · by_cases h4 : l2 = 0
          · exact once_short a0 a2 l0 c0 l2 c2 n1 w (.inr (.inr (.inr (.inr ⟨h, h', h'', h4⟩))))
          · obtain ⟨p, rfl⟩ := Int.eq_ofNat_of_zero_le h'
            exact once_go a0 a2 l0 c0 p l2 c2 l ns w hl hns hR hN h (by omega) h3 (by omega)
        · exact once_short a0 a2 l0 c0 l2 c2 n1 w (.inr (.inr (.inr (.inl ⟨h, h', h'', by omega⟩))))
      · exact once_short a0 a2 l0 c0 l2 c2 n1 w (.inr (.inr (.inl ⟨h, h', by omega⟩)))
    · exact once_short a0 a2 l0 c0 l2 c2 n1 w (.inr (.inl ⟨h, by omega⟩))
  · exact once_short a0 a2 l0 c0 l2 c2 n1 w (.inl (by omega))

end Go.Proofs.Ytmfkipefnacjdaa
