/- Contracts of the reference of cells: SameSeen, Becomes. -/
import Derived.Test.YtmfkipefnacjdaaCellRef
namespace Go.Proofs.Ytmfkipefnacjdaa
open Go.RowKit

theorem seensV_cons (s : Cel × Bool) (l : List (Cel × Bool)) : seensV (s :: l) = .int .u64 s.1.t :: .int .u64 s.1.a :: .int .u64 s.1.b :: .int .u64 s.1.c :: .bool s.2 :: seensV l := rfl
theorem seensV_len (l : List (Cel × Bool)) : (seensV l).length = l.length * 5 := by
  induction l with
  | nil => rfl
  | cons x l ih => rw [seensV_cons]; simp [ih]; omega
theorem seensV_at : ∀ (l : List (Cel × Bool)) (k : Nat) (s : Cel × Bool), l[k]? = some s → (seensV l)[k * 5]? = some (.int .u64 s.1.t) ∧ (seensV l)[k * 5 + 1]? = some (.int .u64 s.1.a) ∧ (seensV l)[k * 5 + 2]? = some (.int .u64 s.1.b) ∧ (seensV l)[k * 5 + 3]? = some (.int .u64 s.1.c) ∧ (seensV l)[k * 5 + 4]? = some (.bool s.2)
  | [], k, x, h => by simp at h
  | y :: l, 0, x, h => by
    simp at h
    subst h
    rw [seensV_cons]
    exact ⟨rfl, rfl, rfl, rfl, rfl⟩
  | y :: l, k + 1, x, h => by
    have ih := seensV_at l k x (by simpa using h)
    rw [seensV_cons, show (k + 1) * 5 = k * 5 + 5 from by omega]
    exact ih

/-- Answers that are read. -/
def RdS (W : World) (a : Option Addr) (l : List (Cel × Bool)) : Prop :=
  l = [] ∨ ∃ b off, a = some ⟨b, off, none⟩ ∧ b < W.heap.size ∧ ∀ k s, l[k]? = some s → W.cell? ⟨b, off + k * 5, none⟩ = some (.int .u64 s.1.t) ∧ W.cell? ⟨b, off + k * 5 + 1, none⟩ = some (.int .u64 s.1.a) ∧ W.cell? ⟨b, off + k * 5 + 2, none⟩ = some (.int .u64 s.1.b) ∧ W.cell? ⟨b, off + k * 5 + 3, none⟩ = some (.int .u64 s.1.c) ∧ W.cell? ⟨b, off + k * 5 + 4, none⟩ = some (.bool s.2)
theorem RdS.below {W W' : World} {a : Option Addr} {l : List (Cel × Bool)} (h : RdS W a l) (hb : Below W.heap.size W W') : RdS W' a l := by
  rcases h with h | ⟨b, off, e, hlt, hc⟩
  · exact .inl h
  · refine .inr ⟨b, off, e, by have := hb.size; omega, fun k s hs => ?_⟩
    obtain ⟨h0, h1, h2, h3, h4⟩ := hc k s hs
    exact ⟨keepC hb h0, keepC hb h1, keepC hb h2, keepC hb h3, keepC hb h4⟩
theorem RdS.addr {W : World} {a : Option Addr} {l : List (Cel × Bool)} (h : RdS W a l) {k : Nat} (hk : k < l.length) : ∃ b off, a = some ⟨b, off, none⟩ := by
  rcases h with rfl | ⟨b, off, e, _⟩
  · simp at hk
  · exact ⟨b, off, e⟩
theorem RdS.get {W : World} {b off : Nat} {l : List (Cel × Bool)} (h : RdS W (some ⟨b, off, none⟩) l) {k : Nat} {s : Cel × Bool} (hs : l[k]? = some s) :
    W.cell? ⟨b, off + k * 5, none⟩ = some (.int .u64 s.1.t) ∧ W.cell? ⟨b, off + k * 5 + 1, none⟩ = some (.int .u64 s.1.a) ∧ W.cell? ⟨b, off + k * 5 + 2, none⟩ = some (.int .u64 s.1.b) ∧ W.cell? ⟨b, off + k * 5 + 3, none⟩ = some (.int .u64 s.1.c) ∧ W.cell? ⟨b, off + k * 5 + 4, none⟩ = some (.bool s.2) := by
  rcases h with rfl | ⟨b', off', e, _, hc⟩
  · simp at hs
  · cases e
    exact hc k s hs
theorem own_seens {W : World} {B n : Nat} {v : Value} {l : List (Cel × Bool)} (h : W.ownsRow B 32 5 v n (seensV l)) (hn : l.length = n) : ∃ a cap, v = .slice a n cap ∧ RdS W a l := by
  rcases h.2 with ⟨rfl, h0⟩ | ⟨g, cap, cur, rfl, hB, hh, _⟩
  · exact ⟨none, 0, by rw [h0], .inl (List.eq_nil_of_length_eq_zero (by omega))⟩
  · refine ⟨_, cap, rfl, .inr ⟨g, 0, rfl, (Array.getElem?_eq_some_iff.1 hh).1, fun k s hs => ?_⟩⟩
    have hk : k < l.length := (List.getElem?_eq_some_iff.1 hs).1
    obtain ⟨h0, h1, h2, h3, h4⟩ := seensV_at l k s hs
    rw [Nat.zero_add]
    exact ⟨(h.cellAt _ (by omega)).trans h0, (h.cellAt _ (by omega)).trans h1, (h.cellAt _ (by omega)).trans h2, (h.cellAt _ (by omega)).trans h3, (h.cellAt _ (by omega)).trans h4⟩

set_option maxHeartbeats 1600000 in
theorem SameSeen_eq (a a' : Option Addr) (c c' : Nat) (l : List (Cel × Bool)) (w : World) (h : RdS w a l) (h' : RdS w a' l) (hn : l.length ≤ 4611686018427387904) : Calls Try.prog 18 #[.slice a l.length c, .slice a' l.length c'] w fun e w' => e = .returned (.bool true) ∧ Below w.heap.size w w' := by
  have HR := Lib.hid h
  have HR' := Lib.hid h'
  clear h h'
  go_enter Try.func18, Try.ntmps18
  go_wp2_with fail
  go_loopw [5] (fun i wr => ∃ k : Nat, k ≤ l.length ∧ i = .int .i64 k ∧ Below w.heap.size w wr) (fun i _ => l.length - (intOf i).toNat)
  case atStart => exact ⟨0, Nat.zero_le _, rfl, Below.refl _ _⟩
  case round =>
    obtain ⟨k, hk, rfl, hb⟩ := hrel
    by_cases hlt : k < l.length
    · obtain ⟨⟨y, z⟩, hy⟩ : ∃ y, l[k]? = some y := ⟨_, List.getElem?_eq_getElem hlt⟩
      obtain ⟨b, off, rfl⟩ := HR.out.addr hlt
      obtain ⟨b', off', rfl⟩ := HR'.out.addr hlt
      obtain ⟨c0, c1, c2, c3, c4⟩ := (HR.out.below hb).get hy
      obtain ⟨d0, d1, d2, d3, d4⟩ := (HR'.out.below hb).get hy
      have HB := Lib.hid hb
      have i1 : (0 : Int) ≤ (k : Int) := by omega
      have i2 : (k : Int) < (l.length : Int) := by omega
      clear hb hy
      go_wp2_with fail
      go_region_held3 (fun U => Below w.heap.size w U ∧ U.cell? ⟨b, off + k * 5, none⟩ = some (.int .u64 y.t) ∧ U.cell? ⟨b, off + k * 5 + 1, none⟩ = some (.int .u64 y.a) ∧ U.cell? ⟨b, off + k * 5 + 2, none⟩ = some (.int .u64 y.b) ∧ U.cell? ⟨b, off + k * 5 + 3, none⟩ = some (.int .u64 y.c) ∧ U.cell? ⟨b, off + k * 5 + 4, none⟩ = some (.bool z) ∧ U.cell? ⟨b', off' + k * 5, none⟩ = some (.int .u64 y.t) ∧ U.cell? ⟨b', off' + k * 5 + 1, none⟩ = some (.int .u64 y.a) ∧ U.cell? ⟨b', off' + k * 5 + 2, none⟩ = some (.int .u64 y.b) ∧ U.cell? ⟨b', off' + k * 5 + 3, none⟩ = some (.int .u64 y.c) ∧ U.cell? ⟨b', off' + k * 5 + 4, none⟩ = some (.bool z))
        (first
          | (try go_split_ands
             repeat' apply And.intro
             all_goals first
               | assumption
               | exact HB.out
               | exact Below.drew HB.out
               | (rw [World.cell?_drew]; assumption)
               | exact keepC hb (by first | assumption | (rw [World.cell?_drew]; assumption))
               | exact keepB hb (by first | assumption | exact Below.drew (by assumption))))
        (first
          | (go_at_call 12; refine (Same_any y y _).mono ?_; rintro e w' ⟨rfl, hb⟩; rw [sameB_self]))
      all_goals go_split_ands
      all_goals go_wp2_with fail
      all_goals go_roundw
      case rel => exact ⟨k + 1, by omega, by go_num, by assumption⟩
      case measure => simp [intOf]; omega
    · have HB := Lib.hid hb
      clear hb
      have i2 : (l.length : Int) ≤ (k : Int) := by omega
      go_wp2_with fail
      go_ret
      exact ⟨rfl, HB.out⟩

/-- What Becomes answers. -/
def BecPost (y : Cel) (x : Acc) (w : World) (e : Ending) (w' : World) : Prop :=
  e = .returned (.tuple #[.agg #[.int .u64 (becomes y x.k x.old x.new).1.t, .int .u64 (becomes y x.k x.old x.new).1.a, .int .u64 (becomes y x.k x.old x.new).1.b, .int .u64 (becomes y x.k x.old x.new).1.c], .bool (becomes y x.k x.old x.new).2]) ∧ Below w.heap.size w w'

theorem becW (w : World) (A B C : Array Value) (s t u : TypeId) : Below w.heap.size w (((w.alloc (.cells A s)).alloc (.cells B t)).alloc (.cells C u)) := moreB (moreB (newB w _) _) _

set_option maxHeartbeats 1600000 in
theorem Becomes_any (y : Cel) (x : Acc) (w : World) (h1 : 1 ≤ x.k) (h4 : x.k ≤ 4) : Calls Try.prog 25 #[.agg #[.int .u64 y.t, .int .u64 y.a, .int .u64 y.b, .int .u64 y.c], .agg #[.int .u8 x.k, .int .i64 x.at', .int .u64 x.old.t, .int .u64 x.old.a, .int .u64 x.old.b, .int .u64 x.old.c, .int .u64 x.new.t, .int .u64 x.new.a, .int .u64 x.new.b, .int .u64 x.new.c]] w (BecPost y x w) := by
  obtain ⟨kd, i, o, z⟩ := x
  have hc : kd = 1 ∨ kd = 2 ∨ kd = 3 ∨ kd = 4 := by simp only at h1 h4; omega
  clear h1 h4
  rcases hc with rfl | rfl | rfl | rfl
  · have HE := Lib.hid (show becomes y 1 o z = (y, true) from rfl)
    go_enter Try.func25, Try.ntmps25
    go_wp2_with fail
    refine bodyPost_ret (v := .tuple #[.agg #[.int .u64 y.t, .int .u64 y.a, .int .u64 y.b, .int .u64 y.c], .bool true]) (by simp [results, Try.f25, go_sem]) rfl ⟨?_, by (repeat (first | exact Below.refl _ _ | assumption | apply Below.drew | apply below_drewN | (refine Below.alloc ?_ (by simp <;> omega) _) | (refine Below.setCell ?_ (by simp <;> omega) _)))⟩
    show _ = Ending.returned (.tuple #[.agg #[.int .u64 (becomes y 1 o z).1.t, .int .u64 (becomes y 1 o z).1.a, .int .u64 (becomes y 1 o z).1.b, .int .u64 (becomes y 1 o z).1.c], .bool (becomes y 1 o z).2])
    rw [HE.out]
  · have HE := Lib.hid (show becomes y 2 o z = (z, true) from rfl)
    go_enter Try.func25, Try.ntmps25
    go_wp2_with fail
    refine bodyPost_ret (v := .tuple #[.agg #[.int .u64 z.t, .int .u64 z.a, .int .u64 z.b, .int .u64 z.c], .bool true]) (by simp [results, Try.f25, go_sem]) rfl ⟨?_, by (repeat (first | exact Below.refl _ _ | assumption | apply Below.drew | apply below_drewN | (refine Below.alloc ?_ (by simp <;> omega) _) | (refine Below.setCell ?_ (by simp <;> omega) _)))⟩
    show _ = Ending.returned (.tuple #[.agg #[.int .u64 (becomes y 2 o z).1.t, .int .u64 (becomes y 2 o z).1.a, .int .u64 (becomes y 2 o z).1.b, .int .u64 (becomes y 2 o z).1.c], .bool (becomes y 2 o z).2])
    rw [HE.out]
  · by_cases he : y = o
    · have HE := Lib.hid (show becomes y 3 o z = (z, true) by simp only [becomes, if_pos he]; rfl)
      have hsB : sameB y o = true := (sameB_iff _ _).2 he
      have HSB := Lib.hid hsB
      clear he hsB
      go_enter Try.func25, Try.ntmps25
      go_wp2_with fail
      refine (Same_any y o _).mono ?_
      rintro e w1 ⟨rfl, hb1⟩
      rw [HSB.out]
      have hx := ((Box.newAt (w.alloc (.cells #[.int .u64 y.t, .int .u64 y.a, .int .u64 y.b, .int .u64 y.c] 30)) 36 [.int .u8 3, .int .i64 i, .int .u64 o.t, .int .u64 o.a, .int .u64 o.b, .int .u64 o.c, .int .u64 z.t, .int .u64 z.a, .int .u64 z.b, .int .u64 z.c] (g := w.heap.size + 1) (by simp)).alloc (.cells #[.int .u64 0, .int .u64 0, .int .u64 0, .int .u64 0] 30)).below hb1
      have hr := (Box.newAt ((w.alloc (.cells #[.int .u64 y.t, .int .u64 y.a, .int .u64 y.b, .int .u64 y.c] 30)).alloc (.cells #[.int .u8 3, .int .i64 i, .int .u64 o.t, .int .u64 o.a, .int .u64 o.b, .int .u64 o.c, .int .u64 z.t, .int .u64 z.a, .int .u64 z.b, .int .u64 z.c] 36)) 30 [.int .u64 0, .int .u64 0, .int .u64 0, .int .u64 0] (g := w.heap.size + 1 + 1) (by simp)).below hb1
      have HB1 := Lib.hid (keepB hb1 (becW w _ _ _ _ _ _))
      have x0 := hx.c 0 rfl
      have x1 := hx.c 1 rfl
      have x2 := hx.c 2 rfl
      have x3 := hx.c 3 rfl
      have x4 := hx.c 4 rfl
      have x5 := hx.c 5 rfl
      have x6 := hx.c 6 rfl
      have x7 := hx.c 7 rfl
      have x8 := hx.c 8 rfl
      have x9 := hx.c 9 rfl
      have r0 := hr.c 0 rfl
      have r1 := hr.c 1 rfl
      have r2 := hr.c 2 rfl
      have r3 := hr.c 3 rfl
      have f0 := hr.f 0
      have f1 := hr.f 1
      have f2 := hr.f 2
      have f3 := hr.f 3
      have HRR := Lib.hid hr
      clear hb1 hx hr
      go_wp2_with fail
      refine bodyPost_ret (v := .tuple #[.agg #[.int .u64 z.t, .int .u64 z.a, .int .u64 z.b, .int .u64 z.c], .bool true]) (by simp [results, Try.f25, go_sem, r0, r1, r2, r3]) rfl ⟨?_, ?_⟩
      · show _ = Ending.returned (.tuple #[.agg #[.int .u64 (becomes y 3 o z).1.t, .int .u64 (becomes y 3 o z).1.a, .int .u64 (becomes y 3 o z).1.b, .int .u64 (becomes y 3 o z).1.c], .bool (becomes y 3 o z).2])
        rw [HE.out]
      · exact (((HB1.out.setCell (p := ⟨w.heap.size + 1 + 1, 0, none⟩) (by simp; omega) _).setCell (p := ⟨w.heap.size + 1 + 1, 1, none⟩) (by simp; omega) _).setCell (p := ⟨w.heap.size + 1 + 1, 2, none⟩) (by simp; omega) _).setCell (p := ⟨w.heap.size + 1 + 1, 3, none⟩) (by simp; omega) _
    · have HE := Lib.hid (show becomes y 3 o z = (y, false) by simp only [becomes, if_neg he]; rfl)
      have hsB : sameB y o = false := by cases hs : sameB y o with | false => rfl | true => exact absurd ((sameB_iff _ _).1 hs) he
      have HSB := Lib.hid hsB
      clear he hsB
      go_enter Try.func25, Try.ntmps25
      go_wp2_with fail
      refine (Same_any y o _).mono ?_
      rintro e w1 ⟨rfl, hb1⟩
      rw [HSB.out]
      have hx := ((Box.new w 30 [.int .u64 y.t, .int .u64 y.a, .int .u64 y.b, .int .u64 y.c]).alloc (.cells #[.int .u8 3, .int .i64 i, .int .u64 o.t, .int .u64 o.a, .int .u64 o.b, .int .u64 o.c, .int .u64 z.t, .int .u64 z.a, .int .u64 z.b, .int .u64 z.c] 36)).alloc (.cells #[.int .u64 0, .int .u64 0, .int .u64 0, .int .u64 0] 30) |>.below hb1
      have hr := (Box.newAt ((w.alloc (.cells #[.int .u64 y.t, .int .u64 y.a, .int .u64 y.b, .int .u64 y.c] 30)).alloc (.cells #[.int .u8 3, .int .i64 i, .int .u64 o.t, .int .u64 o.a, .int .u64 o.b, .int .u64 o.c, .int .u64 z.t, .int .u64 z.a, .int .u64 z.b, .int .u64 z.c] 36)) 30 [.int .u64 0, .int .u64 0, .int .u64 0, .int .u64 0] (g := w.heap.size + 1 + 1) (by simp)).below hb1
      have HB1 := Lib.hid (keepB hb1 (becW w _ _ _ _ _ _))
      have x0 := hx.c 0 rfl
      have x1 := hx.c 1 rfl
      have x2 := hx.c 2 rfl
      have x3 := hx.c 3 rfl
      have r0 := hr.c 0 rfl
      have r1 := hr.c 1 rfl
      have r2 := hr.c 2 rfl
      have r3 := hr.c 3 rfl
      have f0 := hr.f 0
      have f1 := hr.f 1
      have f2 := hr.f 2
      have f3 := hr.f 3
      have HRR := Lib.hid hr
      clear hb1 hx hr
      go_wp2_with fail
      refine bodyPost_ret (v := .tuple #[.agg #[.int .u64 y.t, .int .u64 y.a, .int .u64 y.b, .int .u64 y.c], .bool false]) (by simp [results, Try.f25, go_sem, r0, r1, r2, r3]) rfl ⟨?_, ?_⟩
      · show _ = Ending.returned (.tuple #[.agg #[.int .u64 (becomes y 3 o z).1.t, .int .u64 (becomes y 3 o z).1.a, .int .u64 (becomes y 3 o z).1.b, .int .u64 (becomes y 3 o z).1.c], .bool (becomes y 3 o z).2])
        rw [HE.out]
      · exact (((HB1.out.setCell (p := ⟨w.heap.size + 1 + 1, 0, none⟩) (by simp; omega) _).setCell (p := ⟨w.heap.size + 1 + 1, 1, none⟩) (by simp; omega) _).setCell (p := ⟨w.heap.size + 1 + 1, 2, none⟩) (by simp; omega) _).setCell (p := ⟨w.heap.size + 1 + 1, 3, none⟩) (by simp; omega) _
  · have HE := Lib.hid (show becomes y 4 o z = (⟨y.t, plusN y.a z.a, y.b, y.c⟩, true) from rfl)
    have hs : IntKind.u64.wrap ((y.a : Int) + (z.a : Int)) = (plusN y.a z.a : Int) := u64_add _ _
    go_enter Try.func25, Try.ntmps25
    go_wp2_with fail
    refine bodyPost_ret (v := .tuple #[.agg #[.int .u64 y.t, .int .u64 (plusN y.a z.a), .int .u64 y.b, .int .u64 y.c], .bool true]) (by simp [results, Try.f25, go_sem]) rfl ⟨?_, by (repeat (first | exact Below.refl _ _ | assumption | apply Below.drew | apply below_drewN | (refine Below.alloc ?_ (by simp <;> omega) _) | (refine Below.setCell ?_ (by simp <;> omega) _)))⟩
    show _ = Ending.returned (.tuple #[.agg #[.int .u64 (becomes y 4 o z).1.t, .int .u64 (becomes y 4 o z).1.a, .int .u64 (becomes y 4 o z).1.b, .int .u64 (becomes y 4 o z).1.c], .bool (becomes y 4 o z).2])
    rw [HE.out]

end Go.Proofs.Ytmfkipefnacjdaa
