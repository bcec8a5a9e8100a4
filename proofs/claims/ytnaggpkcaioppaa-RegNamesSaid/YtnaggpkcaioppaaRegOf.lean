/- Contract of reg.Of. -/
import Derived.Test.YtnaggpkcaioppaaRegLaid
import Derived.Test.YtnaggpkcaioppaaBox
namespace Go.Proofs.Ytnaggpkcaioppaa
open Go.RowKit

def nineOf (x : Nat) : Nat → Nat := nine (x % 32) (x / 32 % 128) (x / 4096 % 16) (x / 65536 % 32) (x / 2097152 % 128) (x / 268435456 % 128) (x / 34359738368 % 64) (x / 2199023255552 % 64) (x / 140737488355328 % 8)
def ofD (tag x b c : Nat) : Value := descV tag (x % 32) (x / 32 % 128) (x / 4096 % 16) (b % 4294967296) (b / 4294967296 % 4294967296) (x / 65536 % 32) (x / 2097152 % 128) (x / 268435456 % 128) (x / 34359738368 % 64) (x / 2199023255552 % 64) (x / 140737488355328 % 8) (c % 4294967296) (c / 4294967296 % 4294967296)

theorem small_split (x : Nat) : splitE smallB 9 = 0 ∧ splitL x smallB 9 = (List.range 9).map (nineOf x) := by
  refine ⟨by decide, ?_⟩
  rw [splitL, if_pos small_room]
  show [fieldN x 0 5, fieldN x 5 7, fieldN x 12 4, fieldN x 16 5, fieldN x 21 7, fieldN x 28 7, fieldN x 35 6, fieldN x 41 6, fieldN x 47 3] = [nineOf x 0, nineOf x 1, nineOf x 2, nineOf x 3, nineOf x 4, nineOf x 5, nineOf x 6, nineOf x 7, nineOf x 8]
  simp [fieldN, nineOf, nine]
theorem two_split (x : Nat) : splitE twoB 2 = 0 ∧ splitL x twoB 2 = [x % 4294967296, x / 4294967296 % 4294967296] := split_two x 32 32 (by omega) (by omega) (by omega)
theorem nineOf_lt (x k : Nat) (hk : k < 9) : nineOf x k < 256 := by
  rcases nine_k k hk with rfl | rfl | rfl | rfl | rfl | rfl | rfl | rfl | rfl <;> simp only [nineOf, nine, List.getD_cons_zero, List.getD_cons_succ] <;> omega

/-- The array behind k rounds. -/
def arrV (x k : Nat) : List Value := (List.range 9).map fun j => .int .u8 ((if j < k then nineOf x j else 0 : Nat) : Int)
theorem arrV_zero (x : Nat) : arrV x 0 = [.int .u8 0, .int .u8 0, .int .u8 0, .int .u8 0, .int .u8 0, .int .u8 0, .int .u8 0, .int .u8 0, .int .u8 0] := rfl
theorem arrV_succ (x k : Nat) (hk : k < 9) : (arrV x k).set k (.int .u8 (nineOf x k)) = arrV x (k + 1) := by
  rcases nine_k k hk with rfl | rfl | rfl | rfl | rfl | rfl | rfl | rfl | rfl <;> rfl
theorem arrV_at (x k : Nat) (hk : k < 9) : (arrV x k)[k]? = some (.int .u8 0) := by
  simp [arrV, hk]
theorem arrV_end (x j : Nat) (hj : j < 9) : (arrV x 9)[j]? = some (.int .u8 (nineOf x j)) := by
  simp [arrV, hj]

structure OfW (w : World) (tag x b c : Nat) (U : World) : Prop where
  below : Below w.heap.size w U
  l : Box U w.heap.size [.int .u64 tag, .int .u64 x, .int .u64 b, .int .u64 c]
  r : Box U (w.heap.size + 1) [.int .u64 0, .int .u8 0, .int .u8 0, .int .u8 0, .int .u32 0, .int .u32 0, .int .u8 0, .int .u8 0, .int .u8 0, .int .u8 0, .int .u8 0, .int .u8 0, .int .u32 0, .int .u32 0]
theorem OfW.next {w U V : World} {tag x b c : Nat} (h : OfW w tag x b c U) (hb : Below U.heap.size U V) : OfW w tag x b c V := ⟨keepB hb h.below, h.l.below hb, h.r.below hb⟩

theorem words_range {w : World} {b : Nat} {v : Value} {n : Nat} {f : Nat → Nat} (h : w.ownsRow b 30 1 v ((List.range n).map f).length (u64s ((List.range n).map f))) : ∃ a cap, v = .slice a n cap ∧ WordsAt w a n f := by
  obtain ⟨a, cap, hv, hw⟩ := words_own h
  simp only [List.length_map, List.length_range] at hv hw
  refine ⟨a, cap, hv, ?_⟩
  rcases hw with hw | ⟨g, off, ha, hc⟩
  · exact .inl hw
  · exact .inr ⟨g, off, ha, fun i hi => by rw [hc i hi]; simp [hi]⟩
theorem words_pair {w : World} {b : Nat} {v : Value} {x y : Nat} (h : w.ownsRow b 30 1 v [x, y].length (u64s [x, y])) : ∃ a cap, v = .slice a 2 cap ∧ WordsAt w a 2 (fun i => [x, y].getD i 0) := words_own h

structure OfL (w : World) (tag x b c ga oa gb ob gc oc g k : Nat) (U : World) : Prop where
  o : OfW w tag x b c U
  a : ∀ i, i < 9 → U.cell? ⟨ga, oa + i, none⟩ = some (.int .u64 (nineOf x i))
  b : ∀ i, i < 2 → U.cell? ⟨gb, ob + i, none⟩ = some (.int .u64 ([b % 4294967296, b / 4294967296 % 4294967296].getD i 0))
  c : ∀ i, i < 2 → U.cell? ⟨gc, oc + i, none⟩ = some (.int .u64 ([c % 4294967296, c / 4294967296 % 4294967296].getD i 0))
  v : Box U g (arrV x k)
  la : ga < g
  lb : gb < g
  lc : gc < g
  lw : w.heap.size + 1 < g
theorem OfL.next {w U : World} {tag x b c ga oa gb ob gc oc g k : Nat} (h : OfL w tag x b c ga oa gb ob gc oc g k U) (hk : k < 9) : OfL w tag x b c ga oa gb ob gc oc g (k + 1) (U.setCell ⟨g, k, none⟩ (.int .u8 (nineOf x k))) where
  o := ⟨h.o.below.setCell (p := ⟨g, k, none⟩) (by have := h.lw; show w.heap.size ≤ g; omega) _, h.o.l.far (a := ⟨g, k, none⟩) (by have := h.lw; show w.heap.size ≠ g; omega) _, h.o.r.far (a := ⟨g, k, none⟩) (by have := h.lw; show w.heap.size + 1 ≠ g; omega) _⟩
  a := fun i hi => (World.cell?_setCell_other _ _ _ _ (fun e => by have := h.la; injection e; omega)).trans (h.a i hi)
  b := fun i hi => (World.cell?_setCell_other _ _ _ _ (fun e => by have := h.lb; injection e; omega)).trans (h.b i hi)
  c := fun i hi => (World.cell?_setCell_other _ _ _ _ (fun e => by have := h.lc; injection e; omega)).trans (h.c i hi)
  v := (h.v.set k _).as (arrV_succ x k hk)
  la := h.la
  lb := h.lb
  lc := h.lc
  lw := h.lw
theorem OfL.drew {w U : World} {tag x b c ga oa gb ob gc oc g k : Nat} (h : OfL w tag x b c ga oa gb ob gc oc g k U) : OfL w tag x b c ga oa gb ob gc oc g k U.drew := ⟨⟨h.o.below.drew, h.o.l, h.o.r⟩, h.a, h.b, h.c, h.v, h.la, h.lb, h.lc, h.lw⟩
theorem words_addr {w : World} {a : Option Addr} {n : Nat} {f : Nat → Nat} (h : WordsAt w a n f) (hn : 0 < n) : ∃ g o, a = some ⟨g, o, none⟩ ∧ g < w.heap.size ∧ ∀ i, i < n → w.cell? ⟨g, o + i, none⟩ = some (.int .u64 (f i)) := by
  rcases h with h | ⟨g, o, e, h⟩
  · omega
  · exact ⟨g, o, e, World.block_lt_of_cell? w ⟨g, o + 0, none⟩ (h 0 hn), h⟩
theorem u8_id (n : Nat) (h : n < 256) : IntKind.u8.wrap (n : Int) = n := by simp [IntKind.wrap, IntKind.bits, IntKind.signed]; omega
theorem u32_id (n : Nat) (h : n < 4294967296) : IntKind.u32.wrap (n : Int) = n := by simp [IntKind.wrap, IntKind.bits, IntKind.signed]; omega
theorem OfL.start {w U : World} {tag x b c ga oa gb ob gc oc : Nat} (hw : OfW w tag x b c U) (a : ∀ i, i < 9 → U.cell? ⟨ga, oa + i, none⟩ = some (.int .u64 (nineOf x i))) (b' : ∀ i, i < 2 → U.cell? ⟨gb, ob + i, none⟩ = some (.int .u64 ([b % 4294967296, b / 4294967296 % 4294967296].getD i 0)))
    (c' : ∀ i, i < 2 → U.cell? ⟨gc, oc + i, none⟩ = some (.int .u64 ([c % 4294967296, c / 4294967296 % 4294967296].getD i 0))) (la : ga < U.heap.size) (lb : gb < U.heap.size) (lc : gc < U.heap.size) (t : TypeId) :
    OfL w tag x b c ga oa gb ob gc oc U.heap.size 0 (U.alloc (.cells #[.int .u8 0, .int .u8 0, .int .u8 0, .int .u8 0, .int .u8 0, .int .u8 0, .int .u8 0, .int .u8 0, .int .u8 0] t)) :=
  ⟨hw.next (newB _ _), fun i hi => keepC (newB _ _) (a i hi), fun i hi => keepC (newB _ _) (b' i hi), fun i hi => keepC (newB _ _) (c' i hi), Box.new _ _ _, la, lb, lc, hw.r.lt⟩

theorem OfW.fin {w U : World} {tag x b c : Nat} (h : OfW w tag x b c U) (o : Obj) (v0 v1 v2 v3 v4 v5 v6 v7 v8 v9 v10 v11 v12 v13 : Value) :
    Box (((((((((((((((U.alloc o).setCell ⟨w.heap.size + 1, 0, none⟩ v0).setCell ⟨w.heap.size + 1, 1, none⟩ v1).setCell ⟨w.heap.size + 1, 2, none⟩ v2).setCell ⟨w.heap.size + 1, 3, none⟩ v3).setCell ⟨w.heap.size + 1, 4, none⟩ v4).setCell ⟨w.heap.size + 1, 5, none⟩ v5).setCell ⟨w.heap.size + 1, 6, none⟩ v6).setCell ⟨w.heap.size + 1, 7, none⟩ v7).setCell ⟨w.heap.size + 1, 8, none⟩ v8).setCell ⟨w.heap.size + 1, 9, none⟩ v9).setCell ⟨w.heap.size + 1, 10, none⟩ v10).setCell ⟨w.heap.size + 1, 11, none⟩ v11).setCell ⟨w.heap.size + 1, 12, none⟩ v12).setCell ⟨w.heap.size + 1, 13, none⟩ v13).drew (w.heap.size + 1) [v0, v1, v2, v3, v4, v5, v6, v7, v8, v9, v10, v11, v12, v13] ∧ Below w.heap.size w (((((((((((((((U.alloc o).setCell ⟨w.heap.size + 1, 0, none⟩ v0).setCell ⟨w.heap.size + 1, 1, none⟩ v1).setCell ⟨w.heap.size + 1, 2, none⟩ v2).setCell ⟨w.heap.size + 1, 3, none⟩ v3).setCell ⟨w.heap.size + 1, 4, none⟩ v4).setCell ⟨w.heap.size + 1, 5, none⟩ v5).setCell ⟨w.heap.size + 1, 6, none⟩ v6).setCell ⟨w.heap.size + 1, 7, none⟩ v7).setCell ⟨w.heap.size + 1, 8, none⟩ v8).setCell ⟨w.heap.size + 1, 9, none⟩ v9).setCell ⟨w.heap.size + 1, 10, none⟩ v10).setCell ⟨w.heap.size + 1, 11, none⟩ v11).setCell ⟨w.heap.size + 1, 12, none⟩ v12).setCell ⟨w.heap.size + 1, 13, none⟩ v13).drew :=
  ⟨((((((((((((((((h.r.alloc o).set 0 _).set 1 _).set 2 _).set 3 _).set 4 _).set 5 _).set 6 _).set 7 _).set 8 _).set 9 _).set 10 _).set 11 _).set 12 _).set 13 _).drew).as rfl, (((((((((((((((h.below.alloc h.below.size o).setCell (p := ⟨w.heap.size + 1, 0, none⟩) (Nat.le_succ _) _).setCell (p := ⟨w.heap.size + 1, 1, none⟩) (Nat.le_succ _) _).setCell (p := ⟨w.heap.size + 1, 2, none⟩) (Nat.le_succ _) _).setCell (p := ⟨w.heap.size + 1, 3, none⟩) (Nat.le_succ _) _).setCell (p := ⟨w.heap.size + 1, 4, none⟩) (Nat.le_succ _) _).setCell (p := ⟨w.heap.size + 1, 5, none⟩) (Nat.le_succ _) _).setCell (p := ⟨w.heap.size + 1, 6, none⟩) (Nat.le_succ _) _).setCell (p := ⟨w.heap.size + 1, 7, none⟩) (Nat.le_succ _) _).setCell (p := ⟨w.heap.size + 1, 8, none⟩) (Nat.le_succ _) _).setCell (p := ⟨w.heap.size + 1, 9, none⟩) (Nat.le_succ _) _).setCell (p := ⟨w.heap.size + 1, 10, none⟩) (Nat.le_succ _) _).setCell (p := ⟨w.heap.size + 1, 11, none⟩) (Nat.le_succ _) _).setCell (p := ⟨w.heap.size + 1, 12, none⟩) (Nat.le_succ _) _).setCell (p := ⟨w.heap.size + 1, 13, none⟩) (Nat.le_succ _) _).drew⟩

set_option maxHeartbeats 3200000 in
theorem Of_any (tag x b c : Nat) (w : World) (hx : x < 18446744073709551616) (hb : b < 18446744073709551616) (hc : c < 18446744073709551616) :
    Calls Try.prog 11 #[.agg #[.int .u64 tag, .int .u64 x, .int .u64 b, .int .u64 c]] w fun e w' => e = .returned (ofD tag x b c) ∧ Below w.heap.size w w' := by
  have HX := Lib.hid hx; have HB := Lib.hid hb; have HC := Lib.hid hc
  clear hx hb hc
  go_enter Try.func11, Try.ntmps11
  go_wp2_with fail
  have hW : OfW w tag x b c ((w.alloc (.cells #[.int .u64 tag, .int .u64 x, .int .u64 b, .int .u64 c] 34)).alloc (.cells #[.int .u64 0, .int .u8 0, .int .u8 0, .int .u8 0, .int .u32 0, .int .u32 0, .int .u8 0, .int .u8 0, .int .u8 0, .int .u8 0, .int .u8 0, .int .u8 0, .int .u32 0, .int .u32 0] 32)) :=
    ⟨by (repeat (first | exact Below.refl _ _ | assumption | apply Below.drew | apply below_drewN | (refine Below.alloc ?_ (by simp <;> omega) _) | (refine Below.setCell ?_ (by simp <;> omega) _))), (Box.new _ _ _).alloc _, Box.newAt _ _ _ (by simp)⟩
  generalize ((w.alloc (.cells #[.int .u64 tag, .int .u64 x, .int .u64 b, .int .u64 c] 34)).alloc (.cells #[.int .u64 0, .int .u8 0, .int .u8 0, .int .u8 0, .int .u32 0, .int .u32 0, .int .u8 0, .int .u8 0, .int .u8 0, .int .u8 0, .int .u8 0, .int .u8 0, .int .u32 0, .int .u32 0] 32)) = W at *
  have c1 := hW.l.c 1 rfl
  have HW := Lib.hid hW
  clear hW
  go_region_held3 (fun U => OfW w tag x b c U ∧ U.cell? ⟨w.heap.size, 1, none⟩ = some (.int .u64 x))
    (first
      | (try go_split_ands
         repeat' apply And.intro
         all_goals first
           | assumption
           | exact HW.out
           | exact OfW.next HW.out (Below.drew (Below.refl _ _))
           | (rw [World.cell?_drew]; assumption)
           | exact keepC hb (by first | assumption | (rw [World.cell?_drew]; assumption))
           | exact OfW.next (by assumption) hb))
    (first
      | (go_at_call 16; refine (small_any _).mono ?_; rintro e w' ⟨rfl, hI, hb⟩)
      | (go_at_call 18; refine (Split_any _ x 9 9 smallB _ (by omega) (by omega) HX.out small_lo small_hi (by first | exact hI | (simpa using hI))).mono ?_; rintro e w' ⟨v, rfl, hown, hb⟩; rw [(small_split x).1]; rw [(small_split x).2] at hown; obtain ⟨av, cv, rfl, hWA⟩ := words_range hown))
  all_goals go_split_ands
  all_goals go_wp2_with fail
  all_goals rename WordsAt _ av 9 _ => hWA
  all_goals rename World => U1
  all_goals rename OfW w tag x b c U1 => hU1
  all_goals have c2 := hU1.l.c 2 rfl
  all_goals have HU1 := Lib.hid hU1
  all_goals have HA1 := Lib.hid hWA
  all_goals clear hU1 hWA hown hb hI c1 HW
  all_goals go_region_held3 (fun U => OfW w tag x b c U ∧ WordsAt U av 9 (nineOf x) ∧ U.cell? ⟨w.heap.size, 2, none⟩ = some (.int .u64 b))
    (first
      | (try go_split_ands
         repeat' apply And.intro
         all_goals first
           | assumption
           | exact HU1.out
           | exact HA1.out
           | exact OfW.next HU1.out (Below.drew (Below.refl _ _))
           | exact WordsAt.below HA1.out (Below.drew (Below.refl _ _))
           | (rw [World.cell?_drew]; assumption)
           | exact keepC hb (by first | assumption | (rw [World.cell?_drew]; assumption))
           | exact OfW.next (by assumption) hb
           | exact WordsAt.below (by assumption) hb))
    (first
      | (go_at_call 17; refine (regtwo_any _).mono ?_; rintro e w' ⟨rfl, hI, hb⟩)
      | (go_at_call 18; refine (Split_any _ b 2 2 twoB _ (by omega) (by omega) HB.out two_lo two_hi (by first | exact hI | (simpa using hI))).mono ?_; rintro e w' ⟨v, rfl, hown, hb⟩; rw [(two_split b).1]; rw [(two_split b).2] at hown; obtain ⟨ab, cb, rfl, hWB⟩ := words_pair hown))
  all_goals go_split_ands
  all_goals go_wp2_with fail
  all_goals rename WordsAt _ ab 2 _ => hWB
  all_goals rename World => U2
  all_goals rename OfW w tag x b c U2 => hU2
  all_goals rename WordsAt U2 av 9 _ => hWA2
  all_goals have c3 := hU2.l.c 3 rfl
  all_goals have HU2 := Lib.hid hU2
  all_goals have HA2 := Lib.hid hWA2
  all_goals have HB2 := Lib.hid hWB
  all_goals clear hU2 hWA2 hWB hown hb hI c2 HU1 HA1
  all_goals go_region_held3 (fun U => OfW w tag x b c U ∧ WordsAt U av 9 (nineOf x) ∧ WordsAt U ab 2 (fun i => [b % 4294967296, b / 4294967296 % 4294967296].getD i 0) ∧ U.cell? ⟨w.heap.size, 3, none⟩ = some (.int .u64 c))
    (first
      | (try go_split_ands
         repeat' apply And.intro
         all_goals first
           | assumption
           | exact HU2.out
           | exact HA2.out
           | exact HB2.out
           | exact OfW.next HU2.out (Below.drew (Below.refl _ _))
           | exact WordsAt.below HA2.out (Below.drew (Below.refl _ _))
           | exact WordsAt.below HB2.out (Below.drew (Below.refl _ _))
           | (rw [World.cell?_drew]; assumption)
           | exact keepC hb (by first | assumption | (rw [World.cell?_drew]; assumption))
           | exact OfW.next (by assumption) hb
           | exact WordsAt.below (by assumption) hb))
    (first
      | (go_at_call 17; refine (regtwo_any _).mono ?_; rintro e w' ⟨rfl, hI, hb⟩)
      | (go_at_call 18; refine (Split_any _ c 2 2 twoB _ (by omega) (by omega) HC.out two_lo two_hi (by first | exact hI | (simpa using hI))).mono ?_; rintro e w' ⟨v, rfl, hown, hb⟩; rw [(two_split c).1]; rw [(two_split c).2] at hown; obtain ⟨ac, cc, rfl, hWC⟩ := words_pair hown))
  all_goals go_split_ands
  all_goals rename WordsAt _ ac 2 _ => hWC
  all_goals rename World => U3
  all_goals rename OfW w tag x b c U3 => hU3
  all_goals rename WordsAt U3 av 9 _ => hWA3
  all_goals rename WordsAt U3 ab 2 _ => hWB3
  all_goals obtain ⟨ga, oa, rfl, la, ca⟩ := words_addr hWA3 (by omega)
  all_goals obtain ⟨gb, ob, rfl, lb, cb'⟩ := words_addr hWB3 (by omega)
  all_goals obtain ⟨gc, oc, rfl, lc, cc'⟩ := words_addr hWC (by omega)
  all_goals have HL0 := Lib.hid (OfL.start hU3 ca cb' cc' la lb lc 45)
  all_goals clear hU3 ca cb' cc' hWA3 hWB3 hWC hown hb hI c3 HU2 HA2 HB2
  all_goals go_wp2_with fail
  all_goals generalize U3.heap.size = g at HL0 la lb lc ⊢
  all_goals generalize U3.alloc _ = V at HL0 ⊢
  all_goals go_loopw [10, 33] (fun _ i wr => ∃ k : Nat, k ≤ 9 ∧ i = .int .i64 k ∧ OfL w tag x b c ga oa gb ob gc oc g k wr) (fun _ i _ => 9 - (intOf i).toNat)
  case atStart => exact ⟨0, by omega, rfl, HL0.out⟩
  case round =>
    obtain ⟨k, hk9, rfl, hL⟩ := hrel
    by_cases hlt : k < 9
    · have d1 := hL.a k hlt
      have d2 := hL.v.c k (arrV_at x k hlt)
      have d3 := hL.v.f k
      have d4 := u8_id (nineOf x k) (nineOf_lt x k hlt)
      have HL := Lib.hid hL
      have HD := Lib.hid (hL.next hlt)
      clear hL HL0
      go_wp2_with fail
      go_roundw
      case rel => exact ⟨k + 1, by omega, by go_num, HD.out⟩
      case measure => simp [intOf]; omega
    · obtain rfl : k = 9 := by omega
      have HL := Lib.hid hL
      clear hL HL0
      go_wp2_with fail
      have v2 := HL.out.v.c 2 (arrV_end x 2 (by omega))
      have v3 := HL.out.v.c 3 (arrV_end x 3 (by omega))
      have v4 := HL.out.v.c 4 (arrV_end x 4 (by omega))
      have v5 := HL.out.v.c 5 (arrV_end x 5 (by omega))
      have v6 := HL.out.v.c 6 (arrV_end x 6 (by omega))
      have v7 := HL.out.v.c 7 (arrV_end x 7 (by omega))
      have v8 := HL.out.v.c 8 (arrV_end x 8 (by omega))
      have b0 := HL.out.b 0 (by omega)
      have b1 := HL.out.b 1 (by omega)
      have c0 := HL.out.c 0 (by omega)
      have c1 := HL.out.c 1 (by omega)
      simp only [Nat.add_zero, List.getD_cons_zero, List.getD_cons_succ] at b0 b1 c0 c1
      have e0 := u32_id (b % 4294967296) (by omega)
      have e1 := u32_id (b / 4294967296 % 4294967296) (by omega)
      have e2 := u32_id (c % 4294967296) (by omega)
      have e3 := u32_id (c / 4294967296 % 4294967296) (by omega)
      have HOF := Lib.hid (show ofD tag x b c = descV tag (nineOf x 0) (nineOf x 1) (nineOf x 2) (b % 4294967296) (b / 4294967296 % 4294967296) (nineOf x 3) (nineOf x 4) (nineOf x 5) (nineOf x 6) (nineOf x 7) (nineOf x 8) (c % 4294967296) (c / 4294967296 % 4294967296) from rfl)
      generalize b / 4294967296 % 4294967296 = b2 at *
      generalize b % 4294967296 = b3 at *
      generalize c / 4294967296 % 4294967296 = c2 at *
      generalize c % 4294967296 = c3 at *
      have t0 := fun o => (HL.out.o.l.alloc o).c 0 rfl
      have v0 := fun o => (HL.out.v.alloc o).c 0 (arrV_end x 0 (by omega))
      have v1 := fun o => (HL.out.v.alloc o).c 1 (arrV_end x 1 (by omega))
      have q0 := fun o => (HL.out.o.r.alloc o).c 0 rfl
      have f0 := fun o => (HL.out.o.r.alloc o).f 0
      have q1 := fun o => (HL.out.o.r.alloc o).c 1 rfl
      have f1 := fun o => (HL.out.o.r.alloc o).f 1
      have q2 := fun o => (HL.out.o.r.alloc o).c 2 rfl
      have f2 := fun o => (HL.out.o.r.alloc o).f 2
      have q3 := fun o => (HL.out.o.r.alloc o).c 3 rfl
      have f3 := fun o => (HL.out.o.r.alloc o).f 3
      have q4 := fun o => (HL.out.o.r.alloc o).c 4 rfl
      have f4 := fun o => (HL.out.o.r.alloc o).f 4
      have q5 := fun o => (HL.out.o.r.alloc o).c 5 rfl
      have f5 := fun o => (HL.out.o.r.alloc o).f 5
      have q6 := fun o => (HL.out.o.r.alloc o).c 6 rfl
      have f6 := fun o => (HL.out.o.r.alloc o).f 6
      have q7 := fun o => (HL.out.o.r.alloc o).c 7 rfl
      have f7 := fun o => (HL.out.o.r.alloc o).f 7
      have q8 := fun o => (HL.out.o.r.alloc o).c 8 rfl
      have f8 := fun o => (HL.out.o.r.alloc o).f 8
      have q9 := fun o => (HL.out.o.r.alloc o).c 9 rfl
      have f9 := fun o => (HL.out.o.r.alloc o).f 9
      have q10 := fun o => (HL.out.o.r.alloc o).c 10 rfl
      have f10 := fun o => (HL.out.o.r.alloc o).f 10
      have q11 := fun o => (HL.out.o.r.alloc o).c 11 rfl
      have f11 := fun o => (HL.out.o.r.alloc o).f 11
      have q12 := fun o => (HL.out.o.r.alloc o).c 12 rfl
      have f12 := fun o => (HL.out.o.r.alloc o).f 12
      have q13 := fun o => (HL.out.o.r.alloc o).c 13 rfl
      have f13 := fun o => (HL.out.o.r.alloc o).f 13
      go_region_held3 (fun U => U.cell? ⟨g, 2, none⟩ = some (.int .u8 (nineOf x 2)) ∧ U.cell? ⟨g, 3, none⟩ = some (.int .u8 (nineOf x 3)) ∧ U.cell? ⟨g, 4, none⟩ = some (.int .u8 (nineOf x 4)) ∧ U.cell? ⟨g, 5, none⟩ = some (.int .u8 (nineOf x 5)) ∧ U.cell? ⟨g, 6, none⟩ = some (.int .u8 (nineOf x 6)) ∧ U.cell? ⟨g, 7, none⟩ = some (.int .u8 (nineOf x 7)) ∧ U.cell? ⟨g, 8, none⟩ = some (.int .u8 (nineOf x 8)) ∧ U.cell? ⟨gb, ob, none⟩ = some (.int .u64 b3) ∧ U.cell? ⟨gb, ob + 1, none⟩ = some (.int .u64 b2) ∧ U.cell? ⟨gc, oc, none⟩ = some (.int .u64 c3) ∧ U.cell? ⟨gc, oc + 1, none⟩ = some (.int .u64 c2)) (go_keep) (fail)
      all_goals go_split_ands
      all_goals go_wp2_with fail
      all_goals (try simp only [Exit.inBlock, Exit.then])
      all_goals clear t0 v0 v1 v2 v3 v4 v5 v6 v7 v8 b0 b1 c0 c1 e0 e1 e2 e3 q0 q1 q2 q3 q4 q5 q6 q7 q8 q9 q10 q11 q12 q13 f0 f1 f2 f3 f4 f5 f6 f7 f8 f9 f10 f11 f12 f13
      all_goals exact bodyPost_ret (v := descV tag (nineOf x 0) (nineOf x 1) (nineOf x 2) b3 b2 (nineOf x 3) (nineOf x 4) (nineOf x 5) (nineOf x 6) (nineOf x 7) (nineOf x 8) c3 c2) ((HL.out.o.fin _ _ _ _ _ _ _ _ _ _ _ _ _ _ _).1.results rfl Try.isAgg32 Try.sizeOf32 rfl) rfl ⟨by rw [HOF.out], (HL.out.o.fin _ _ _ _ _ _ _ _ _ _ _ _ _ _ _).2⟩

end Go.Proofs.Ytnaggpkcaioppaa
