/- Chapter 4: part.At: where a place stands. -/
import Derived.Test.YtecjbgddjejjdaaPartI
import Derived.Test.YtecjbgddjejjdaaPart
import Derived.Laws.EntriesVeiled
namespace Go.Proofs.Ytecjbgddjejjdaa
open Go.RowKit Go.Shelf
attribute [local go_sem] Oper.semAt_some


theorem Box.other {A B : World} {row : Option Nat} {g : Nat} {cs : List Value} (h : Box A g cs) (hg : A.grownBy B row) (hr : ∀ r, row = some r → ∃ o : Obj, A.heap[r]? = some o ∧ o.isCells = false) : Box B g cs := by
  refine h.grown hg fun e => ?_
  obtain ⟨o, ho, hc⟩ := hr g e
  obtain ⟨t, ht⟩ := h
  rw [ho] at ht
  cases ht
  simp [Obj.isCells] at hc
theorem Below.other {w A B : World} {row : Option Nat} {n : Nat} (h : Below n w A) (hg : A.grownBy B row) (hA : n ≤ A.heap.size) (hr : ∀ r, row = some r → n ≤ r) : Below n w B := h.grown hg hA hr

theorem KpO.put {own : Nat → Prop} (W : World) (l : Nat) (o o' : Obj) (h : W.heap[l]? = some o) (hc : o.isCells = false) : KpO own W (W.putObj l o') := by
  refine ⟨by simp, fun k u _ hu huc => ?_⟩
  refine (World.putObj_heap_other ?_).trans hu
  rintro rfl
  rw [h] at hu
  cases hu
  rw [hc] at huc
  cases huc

theorem places_fn (c : Cfg) (w : World) : Calls Try.prog 84 #[.agg #[.int .u8 c.ob, .int .i64 c.inst, .int .i64 c.thr, .int .u8 c.kd, .int .i64 c.str, .int .i64 c.bits, .int .i64 c.cap, .int .i64 c.node, .int .i64 c.bat, .int .i64 c.chk, .int .u64 c.lim, .int .u64 c.most]] w fun e w' => e = .returned (.func (.func 85) #[] #[.pointer (some ⟨w.heap.size, 0, none⟩)]) ∧ w.alloc (.cells ⟨cfgL c⟩ 37) = w' := by
  have hmf : ∀ (fn : Fn) (first cap : Array Value) (w : World), (Instr.makeFunc fn first cap).run Try.prog w = .ok (.func fn first cap) w := fun _ _ _ _ => rfl
  go_enter Try.func84, Try.ntmps84
  go_wp2
  go_ret
  exact ⟨rfl, rfl⟩

def mt (x : Pl) (k a b : Int) : Prop := (x.k : Int) = k ∧ (x.a : Int) = a ∧ (x.b : Int) = b

/-- At's own variables between two rounds. -/
structure AtW (w : World) (N : Nat) (c : Cfg) (k a b : Int) (n : Nat) (W : World) : Prop where
  below : Below w.heap.size w W
  pb : Box W (w.heap.size + 1) [.int .u8 k, .int .i64 a, .int .i64 b]
  r0 : Box W (w.heap.size + 1 + 1) [.int .i64 0]
  r1 : Box W (w.heap.size + 1 + 1 + 1) [.int .i64 0]
  nb : Box W N [.int .i64 n]
structure AtOut (w : World) (v e : Int) (W : World) : Prop where
  below : Below w.heap.size w W
  r0 : Box W (w.heap.size + 1 + 1) [.int .i64 v]
  r1 : Box W (w.heap.size + 1 + 1 + 1) [.int .i64 e]

theorem AtW.other {w : World} {N : Nat} {c : Cfg} {k a b : Int} {n : Nat} {A B : World} {row : Option Nat} (h : AtW w N c k a b n A) (hg : A.grownBy B row) {C : Nat} (hC : w.heap.size ≤ C) (hr : ∀ r, row = some r → C ≤ r ∧ ∃ o : Obj, A.heap[r]? = some o ∧ o.isCells = false) : AtW w N c k a b n B :=
  ⟨h.below.grown hg h.below.size (fun r e => Nat.le_trans hC (hr r e).1), h.pb.other hg fun r e => (hr r e).2, h.r0.other hg fun r e => (hr r e).2, h.r1.other hg fun r e => (hr r e).2, h.nb.other hg fun r e => (hr r e).2⟩
theorem AtOut.other {w : World} {v e : Int} {A B : World} {row : Option Nat} (h : AtOut w v e A) (hg : A.grownBy B row) {C : Nat} (hC : w.heap.size ≤ C) (hr : ∀ r, row = some r → C ≤ r ∧ ∃ o : Obj, A.heap[r]? = some o ∧ o.isCells = false) : AtOut w v e B :=
  ⟨h.below.grown hg h.below.size (fun r e => Nat.le_trans hC (hr r e).1), h.r0.other hg fun r e => (hr r e).2, h.r1.other hg fun r e => (hr r e).2⟩
theorem AtW.grown {w : World} {N : Nat} {c : Cfg} {k a b : Int} {n : Nat} {A B : World} (h : AtW w N c k a b n A) (hg : A.grownBy B none) : AtW w N c k a b n B :=
  h.other hg (Nat.le_refl _) fun r e => by cases e
theorem AtOut.grown {w : World} {v e : Int} {A B : World} (h : AtOut w v e A) (hg : A.grownBy B none) : AtOut w v e B :=
  h.other hg (Nat.le_refl _) fun r e => by cases e

theorem KpO.set {own : Nat → Prop} {b : Nat} (hb : own b) (A : World) (v : Value) : KpO own A (A.setCell ⟨b, 0, none⟩ v) :=
  ⟨by simp [World.setCell], fun k o hk ho _ => (Below.heap_setCell A ⟨b, 0, none⟩ v k (fun e => hk (by have e' : k = b := e; exact e' ▸ hb))).trans ho⟩
theorem AtW.setN {w : World} {N : Nat} {c : Cfg} {k a b : Int} {n : Nat} {A : World} (h : AtW w N c k a b n A) (hN : w.heap.size + 4 ≤ N) (m : Nat) : AtW w N c k a b m (A.setCell ⟨N, 0, none⟩ (.int .i64 m)) :=
  ⟨h.below.setCell (p := ⟨N, 0, none⟩) (by simp only; omega) _, h.pb.far (a := ⟨N, 0, none⟩) (by simp only; omega) _, h.r0.far (a := ⟨N, 0, none⟩) (by simp only; omega) _, h.r1.far (a := ⟨N, 0, none⟩) (by simp only; omega) _, (h.nb.set 0 (.int .i64 m)).as rfl⟩
theorem AtW.out {w : World} {N : Nat} {c : Cfg} {k a b : Int} {n : Nat} {A : World} (h : AtW w N c k a b n A) (v e : Int) : AtOut w v e ((A.setCell ⟨w.heap.size + 1 + 1, 0, none⟩ (.int .i64 v)).setCell ⟨w.heap.size + 1 + 1 + 1, 0, none⟩ (.int .i64 e)) :=
  ⟨(h.below.setCell (p := ⟨w.heap.size + 1 + 1, 0, none⟩) (by simp only; omega) _).setCell (p := ⟨w.heap.size + 1 + 1 + 1, 0, none⟩) (by simp only; omega) _,
    ((h.r0.set 0 (.int .i64 v)).as rfl).far (a := ⟨w.heap.size + 1 + 1 + 1, 0, none⟩) (by simp only; omega) _,
    ((h.r1.far (a := ⟨w.heap.size + 1 + 1, 0, none⟩) (by simp only; omega) _).set 0 (.int .i64 e)).as rfl⟩
def cellsP (x : Pl) : List Value := [.int .u8 x.k, .int .i64 x.a, .int .i64 x.b]

/-- A place that is met stands there. -/
theorem mt_at {s : Shp} {k a b : Int} {pre rest : List Pl} {x : Pl} (hL : placesL s = pre ++ x :: rest) (h : mt x k a b) : hasZ s k a b = true ∧ whereN s (plZ k a b) = pre.length := by
  obtain ⟨rfl, rfl, rfl⟩ := h
  have hx : plZ (x.k : Int) x.a x.b = x := by simp [plZ]
  have hi : (placesL s)[pre.length]? = some x := by rw [hL]; simp
  obtain ⟨h1, h2⟩ := where_of hi
  rw [hx]
  exact ⟨hasZ_t.2 ⟨by omega, by omega, by rw [hx]; exact h2⟩, h1⟩
theorem mt_no {s : Shp} {k a b : Int} (hk : 0 ≤ k) (h : ∀ x ∈ placesL s, ¬ mt x k a b) : hasZ s k a b = false := by
  refine hasZ_f.2 fun ⟨h1, h2, h3⟩ => h _ ((mem_places s _).2 h3) ?_
  unfold plZ mt
  simp only
  omega

set_option maxHeartbeats 1000000 in
theorem At_no (c : Cfg) (k a b : Int) (w : World) (hm : ¬ c.May) :
    Calls Try.prog 83 #[.agg #[.int .u8 c.ob, .int .i64 c.inst, .int .i64 c.thr, .int .u8 c.kd, .int .i64 c.str, .int .i64 c.bits, .int .i64 c.cap, .int .i64 c.node, .int .i64 c.bat, .int .i64 c.chk, .int .u64 c.lim, .int .u64 c.most], .agg #[.int .u8 k, .int .i64 a, .int .i64 b]] w fun e w' => e = .returned (.tuple #[.int .i64 0, .int .i64 40]) ∧ Below w.heap.size w w' := by
  have HE := Lib.hid (show checkE c = 40 by simp [checkE, hm])
  clear hm
  go_enter Try.func83, Try.ntmps83
  go_wp2_with fail
  have hr0 := (Box.new ((w.alloc (.cells ⟨cfgL c⟩ 37)).alloc (.cells #[.int .u8 k, .int .i64 a, .int .i64 b] 86)) 3 [.int .i64 0]).alloc (.cells #[.int .i64 0] 23)
  have hr1 := Box.new (((w.alloc (.cells ⟨cfgL c⟩ 37)).alloc (.cells #[.int .u8 k, .int .i64 a, .int .i64 b] 86)).alloc (.cells #[.int .i64 0] 3)) 23 [.int .i64 0]
  have HB := Lib.hid (moreB (moreB (moreB (newB w (.cells ⟨cfgL c⟩ 37)) (.cells #[.int .u8 k, .int .i64 a, .int .i64 b] 86)) (.cells #[.int .i64 0] 3)) (.cells #[.int .i64 0] 23))
  simp only [World.size_alloc] at hr0 hr1
  unfold cfgL at *
  generalize (((w.alloc _).alloc _).alloc _).alloc _ = V at *
  refine (Check_any c V).mono ?_
  rintro e w1 ⟨rfl, hb⟩
  rw [HE.out]
  have hr0 := hr0.below hb
  have hr1 := hr1.below hb
  have HB := Lib.hid (keepB hb HB.out)
  have q0 := hr0.c 0 rfl
  have q1 := hr1.c 0 rfl
  have f0 := hr0.f 0
  have f1 := hr1.f 0
  clear hb hr0 hr1
  go_wp2_with fail
  exact bodyPost_ret (v := .tuple #[.int .i64 0, .int .i64 40]) (by simp [results, Try.f83, go_sem, q0, q1]) rfl ⟨rfl, (HB.out.setCell (p := ⟨w.heap.size + 1 + 1, 0, none⟩) (by simp <;> omega) _).setCell (p := ⟨w.heap.size + 1 + 1 + 1, 0, none⟩) (by simp <;> omega) _⟩

set_option maxHeartbeats 1000000 in
set_option maxRecDepth 100000 in
theorem At_go (c : Cfg) (k a b : Int) (w : World) (hm : c.May) (hp : PwO c w) (hk0 : 0 ≤ k) :
    Calls Try.prog 83 #[.agg #[.int .u8 c.ob, .int .i64 c.inst, .int .i64 c.thr, .int .u8 c.kd, .int .i64 c.str, .int .i64 c.bits, .int .i64 c.cap, .int .i64 c.node, .int .i64 c.bat, .int .i64 c.chk, .int .u64 c.lim, .int .u64 c.most], .agg #[.int .u8 k, .int .i64 a, .int .i64 b]] w fun e w' => e = .returned (.tuple #[.int .i64 (atV c k a b), .int .i64 (atE c k a b)]) ∧ Below w.heap.size w w' := by
  have HE := Lib.hid (show checkE c = 0 by simp [checkE, hm])
  have HM := Lib.hid hm
  have HP := Lib.hid hp
  have HK := Lib.hid hk0
  clear hm hp hk0
  refine (callsIn_wide (n := 0)).1 ?_
  refine callsIn_of_wp_marks Try.func83 rfl trivial ?_ rfl
  simp only [Try.ntmps83, List.size_toArray, List.length_cons, List.length_nil, Nat.reduceAdd, Nat.reduceSub, Array.replicate_succ, Array.replicate_zero, List.push_toArray, List.append_toArray, List.nil_append, List.cons_append]
  gi_wp2_with fail
  refine ⟨trivial, rfl, ?_⟩
  have hx := (((Box.new w 37 (cfgL c)).alloc (.cells #[.int .u8 k, .int .i64 a, .int .i64 b] 86)).alloc (.cells #[.int .i64 0] 3)).alloc (.cells #[.int .i64 0] 23)
  have hpb := ((Box.new (w.alloc (.cells ⟨cfgL c⟩ 37)) 86 [.int .u8 k, .int .i64 a, .int .i64 b]).alloc (.cells #[.int .i64 0] 3)).alloc (.cells #[.int .i64 0] 23)
  have hr0 := (Box.new ((w.alloc (.cells ⟨cfgL c⟩ 37)).alloc (.cells #[.int .u8 k, .int .i64 a, .int .i64 b] 86)) 3 [.int .i64 0]).alloc (.cells #[.int .i64 0] 23)
  have hr1 := Box.new (((w.alloc (.cells ⟨cfgL c⟩ 37)).alloc (.cells #[.int .u8 k, .int .i64 a, .int .i64 b] 86)).alloc (.cells #[.int .i64 0] 3)) 23 [.int .i64 0]
  have HB := Lib.hid (moreB (moreB (moreB (newB w (.cells ⟨cfgL c⟩ 37)) (.cells #[.int .u8 k, .int .i64 a, .int .i64 b] 86)) (.cells #[.int .i64 0] 3)) (.cells #[.int .i64 0] 23))
  simp only [World.size_alloc] at hr0 hr1 hpb
  unfold cfgL at *
  generalize (((w.alloc _).alloc _).alloc _).alloc _ = V at *
  refine (callsIn_wide.2 (Check_any c V)).mono ?_
  rintro e w1 ⟨rfl, hb⟩
  rw [HE.out]
  have hx := hx.below hb
  have hpb := hpb.below hb
  have hr0 := hr0.below hb
  have hr1 := hr1.below hb
  have HB1 := Lib.hid (keepB hb HB.out)
  have x0 := fun o => (hx.alloc o).c 0 rfl
  have x1 := fun o => (hx.alloc o).c 1 rfl
  have x2 := fun o => (hx.alloc o).c 2 rfl
  have x3 := fun o => (hx.alloc o).c 3 rfl
  have x4 := fun o => (hx.alloc o).c 4 rfl
  have x5 := fun o => (hx.alloc o).c 5 rfl
  have x6 := fun o => (hx.alloc o).c 6 rfl
  have x7 := fun o => (hx.alloc o).c 7 rfl
  have x8 := fun o => (hx.alloc o).c 8 rfl
  have x9 := fun o => (hx.alloc o).c 9 rfl
  have x10 := fun o => (hx.alloc o).c 10 rfl
  have x11 := fun o => (hx.alloc o).c 11 rfl
  clear hb HB
  have HX := Lib.hid hx; have HPB := Lib.hid hpb; have HR0 := Lib.hid hr0; have HR1 := Lib.hid hr1
  clear hx hpb hr0 hr1
  gi_wp2_with fail
  refine ⟨trivial, rfl, ?_⟩
  refine (callsIn_wide.2 (places_fn c _)).mono ?_
  rintro e w2 ⟨rfl, rfl⟩
  clear x0 x1 x2 x3 x4 x5 x6 x7 x8 x9 x10 x11
  gi_wp2_with fail
  have hz1 : w.heap.size + 4 ≤ w1.heap.size := by have := HR1.out.lt; omega
  have hSt : AtW w w1.heap.size c k a b 0 ((w1.alloc (.cells #[.int .i64 0] 3)).alloc (.cells ⟨cfgL c⟩ 37)) :=
    ⟨moreB (moreB HB1.out _) _, (HPB.out.alloc _).alloc _, (HR0.out.alloc _).alloc _, (HR1.out.alloc _).alloc _, (Box.new w1 3 [.int .i64 0]).alloc _⟩
  have hcb := Box.new (w1.alloc (.cells #[.int .i64 0] 3)) 37 (cfgL c)
  have hzz : ((w1.alloc (.cells #[.int .i64 0] 3)).alloc (.cells ⟨cfgL c⟩ 37)).heap.size = w1.heap.size + 2 := by simp
  have hpw := HP.out.more (moreB (moreB HB1.out (.cells #[.int .i64 0] 3)) (.cells ⟨cfgL c⟩ 37))
  have hpg := Lib.hid (fun (e : c.ob = 2) => (HP.out e).pos)
  rw [World.size_alloc] at hcb
  generalize (w1.alloc (.cells #[.int .i64 0] 3)).alloc (.cells ⟨cfgL c⟩ 37) = W0 at *
  obtain ⟨own, hown⟩ : ∃ own : Nat → Prop, own = fun j => j = w.heap.size + 1 + 1 ∨ j = w.heap.size + 1 + 1 + 1 ∨ j = w1.heap.size := ⟨_, rfl⟩
  have ow : ∀ j, own j ↔ j = w.heap.size + 1 + 1 ∨ j = w.heap.size + 1 + 1 + 1 ∨ j = w1.heap.size := fun j => by rw [hown]
  have o1 : own (w.heap.size + 1 + 1) := (ow _).2 (.inl rfl)
  have o2 : own (w.heap.size + 1 + 1 + 1) := (ow _).2 (.inr (.inl rfl))
  have o3 : own w1.heap.size := (ow _).2 (.inr (.inr rfl))
  have OW := Lib.hid ow
  clear ow hown
  refine wp_range_new (gf := 85) rfl (enters_of Try.func85 (by kernel_rfl) rfl)
    (places_seq c (w1.heap.size + 1) own W0 HM.out hpw hcb (fun j hj => by have := (OW.out j).1 hj; omega) (fun hj => by have := (OW.out _).1 hj; omega) (fun e hj => by have := hpg.out e; have := (OW.out _).1 hj; omega))
    (Below.refl _ _) (fun r e => by cases e) (fun _ => rfl)
    (fun h g => h.trans g)
    (fun W l o o' _ h hc _ => KpO.put W l o o' h hc)
    (fun h => KpO.grown h)
    (fun pre W => AtW w w1.heap.size c k a b pre.length W ∧ ∀ x ∈ pre, ¬ mt x k a b)
    (fun cd pre W => cd = .ret ∧ hasZ c.shp k a b = true ∧ AtOut w (whereN c.shp (plZ k a b) : Nat) 0 W)
    (fun s A B row hs hg hr => ⟨hs.1.other hg (by omega) hr, hs.2⟩)
    (fun cd s A B row hs hg hr => ⟨hs.1, hs.2.1, hs.2.2.other hg (by omega) hr⟩)
    (fun s A B hs hg => ⟨hs.1.grown hg, hs.2⟩)
    (fun s A B hs hg => ⟨hs.1.grown hg, hs.2⟩)
    (fun cd s A B hs hg => ⟨hs.1, hs.2.1, hs.2.2.grown hg⟩)
    ⟨hSt, fun x hx => by cases hx⟩ cellsP (fun x W => W.alloc (.cells ⟨cellsP x⟩ 86)) (fun x W => ⟨World.grownBy_alloc _ _ none, Box.new _ _ _⟩)
    (fun x q => { tmps := #[.agg #[.int .u8 c.ob, .int .i64 c.inst, .int .i64 c.thr, .int .u8 c.kd, .int .i64 c.str, .int .i64 c.bits, .int .i64 c.cap, .int .i64 c.node, .int .i64 c.bat, .int .i64 c.chk, .int .u64 c.lim, .int .u64 c.most], .agg #[.int .u8 k, .int .i64 a, .int .i64 b], .pointer (some ⟨w.heap.size, 0, none⟩), .pointer (some ⟨w.heap.size + 1, 0, none⟩), .pointer (some ⟨w.heap.size + 1 + 1, 0, none⟩), .pointer (some ⟨w.heap.size + 1 + 1 + 1, 0, none⟩), .int .i64 0, .pointer (some ⟨w1.heap.size, 0, none⟩), .pointer (some ⟨q, 0, none⟩), .agg #[.int .u8 c.ob, .int .i64 c.inst, .int .i64 c.thr, .int .u8 c.kd, .int .i64 c.str, .int .i64 c.bits, .int .i64 c.cap, .int .i64 c.node, .int .i64 c.bat, .int .i64 c.chk, .int .u64 c.lim, .int .u64 c.most], .int .i64 0, .int .i64 0, .bool false, undef, .agg #[.int .u8 c.ob, .int .i64 c.inst, .int .i64 c.thr, .int .u8 c.kd, .int .i64 c.str, .int .i64 c.bits, .int .i64 c.cap, .int .i64 c.node, .int .i64 c.bat, .int .i64 c.chk, .int .u64 c.lim, .int .u64 c.most], .func (.func 85) #[] #[.pointer (some ⟨w1.heap.size + 1, 0, none⟩)], .agg #[.int .u8 x.k, .int .i64 x.a, .int .i64 x.b], undef, undef, undef, undef, undef, undef], defers := [] }) ?assign ?body ?done ?stop
  case assign =>
    intro l x W K hK
    simp only [encP, plV]
    gi_wp2
    exact hK
  case body =>
    rintro l pre x rest q V hL ⟨hw, hne⟩ hq hqz
    have p0 := hw.pb.c 0 rfl
    have p1 := hw.pb.c 1 rfl
    have p2 := hw.pb.c 2 rfl
    have q0 := hq.c 0 rfl
    have q1 := hq.c 1 rfl
    have q2 := hq.c 2 rfl
    have n0 := hw.nb.c 0 rfl
    have nf := hw.nb.f 0
    have HW := Lib.hid hw
    have HNE := Lib.hid hne
    have HL := Lib.hid hL
    generalize hn : pre.length = n at *
    have hnl : n ≤ 714 := by
      have := congrArg List.length hL
      rw [places_len] at this
      simp at this
      have := (all_le (May.small HM.out)).1
      omega
    have HN := Lib.hid hn
    clear hw hne hL hq hn
    by_cases hit : mt x k a b
    · obtain ⟨g1, g2⟩ := mt_at HL.out hit
      have HG := Lib.hid (show (whereN c.shp (plZ k a b)) = n from by rw [g2, HN.out])
      have HZ := Lib.hid g1
      have r0 := HW.out.r0.c 0 rfl
      have r1 := HW.out.r1.c 0 rfl
      have f0 := HW.out.r0.f 0
      have f1 := HW.out.r1.f 0
      obtain ⟨rfl, rfl, rfl⟩ := hit
      clear g1 g2
      gi_wp2_with fail
      refine ⟨(KeepsOthers.setCell _ _ _).trans (KeepsOthers.setCell _ _ _), (KpO.set o1 _ _).trans (KpO.set o2 _ _), rfl, HZ.out, ?_⟩
      rw [HG.out]
      exact HW.out.out _ _
    · have HI := Lib.hid hit
      have hneq : ((x.k : Int) == k) = false ∨ (((x.k : Int) == k) = true ∧ ((x.a : Int) == a) = false) ∨ (((x.k : Int) == k) = true ∧ ((x.a : Int) == a) = true ∧ ((x.b : Int) == b) = false) := by
        unfold mt at hit
        by_cases h1 : (x.k : Int) = k
        · by_cases h2 : (x.a : Int) = a
          · by_cases h3 : (x.b : Int) = b
            · exact absurd ⟨h1, h2, h3⟩ hit
            · exact .inr (.inr ⟨by simp [h1], by simp [h2], by simp [h3]⟩)
          · exact .inr (.inl ⟨by simp [h1], by simp [h2]⟩)
        · exact .inl (by simp [h1])
      clear hit
      rcases hneq with e1 | ⟨e1, e2⟩ | ⟨e1, e2, e3⟩
      all_goals
        gi_wp2_with fail
        refine ⟨KeepsOthers.setCell _ _ _, KpO.set o3 _ _, ?_, ?_⟩
        · rw [List.length_append, HN.out]
          exact (HW.out.setN hz1 (n + 1))
        · intro y hy
          rcases List.mem_append.1 hy with h | h
          · exact HNE.out y h
          · rw [List.mem_singleton.1 h]
            exact HI.out
  case done =>
    rintro D W hD ⟨hw, hne⟩ hK
    have hz := mt_no HK.out hne
    have E1 := Lib.hid (atV_out hz)
    have E2 := Lib.hid (atE_out HM.out hz)
    have r0 := hw.r0.c 0 rfl
    have r1 := hw.r1.c 0 rfl
    have f0 := hw.r0.f 0
    have f1 := hw.r1.f 0
    have hO := hw.out 0 2
    have HO := Lib.hid hO
    clear hw hne hz hO
    gi_wp2_with fail
    have hO := HO.out
    generalize hU : (W.setCell ⟨w.heap.size + 1 + 1, 0, none⟩ (.int .i64 0)).setCell ⟨w.heap.size + 1 + 1 + 1, 0, none⟩ (.int .i64 2) = U at *
    have hK' : U.heap[D]? = some (.deferred (some [])) := by rw [← hU]; exact ((KeepsOthers.setCell _ _ _).trans (KeepsOthers.setCell _ _ _)).same D _ hK rfl
    refine ⟨by simp, .inl ⟨_, _, rfl, run_takeDeferred hK', ?_⟩⟩
    have hO2 := hO.other (C := W0.heap.size) (grownBy_putObj' U D (.deferred none)) (by omega) (fun r e => by cases e; exact ⟨hD, _, hK', rfl⟩)
    have q0 := hO2.r0.c 0 rfl
    have q1 := hO2.r1.c 0 rfl
    refine ⟨.tuple #[.int .i64 0, .int .i64 2], ?_, by rw [E1.out, E2.out] <;> rfl, hO2.below⟩
    simp [results, Try.f83, go_sem, q0, q1]
  case stop =>
    rintro D cd pre x rest W hD hL ⟨rfl, hz, hO⟩ hK
    have E1 := Lib.hid (atV_in HM.out hz)
    have E2 := Lib.hid (atE_in HM.out hz)
    gi_wp2
    refine ⟨by simp, .inl ⟨_, _, rfl, run_takeDeferred hK, ?_⟩⟩
    have hO2 := hO.other (C := W0.heap.size) (grownBy_putObj' W D (.deferred none)) (by omega) (fun r e => by cases e; exact ⟨hD, _, hK, rfl⟩)
    have q0 := hO2.r0.c 0 rfl
    have q1 := hO2.r1.c 0 rfl
    refine ⟨.tuple #[.int .i64 (whereN c.shp (plZ k a b) : Nat), .int .i64 0], ?_, by rw [E1.out, E2.out] <;> rfl, hO2.below⟩
    simp [results, Try.f83, go_sem, q0, q1]

theorem At_any (c : Cfg) (k a b : Int) (w : World) (hp : PwO c w) (hk0 : 0 ≤ k) :
    Calls Try.prog 83 #[.agg #[.int .u8 c.ob, .int .i64 c.inst, .int .i64 c.thr, .int .u8 c.kd, .int .i64 c.str, .int .i64 c.bits, .int .i64 c.cap, .int .i64 c.node, .int .i64 c.bat, .int .i64 c.chk, .int .u64 c.lim, .int .u64 c.most], .agg #[.int .u8 k, .int .i64 a, .int .i64 b]] w fun e w' => e = .returned (.tuple #[.int .i64 (atV c k a b), .int .i64 (atE c k a b)]) ∧ Below w.heap.size w w' := by
  by_cases hm : c.May
  · exact At_go c k a b w hm hp hk0
  · refine (At_no c k a b w hm).mono ?_
    rintro e w' ⟨rfl, hb⟩
    exact ⟨by rw [atV_no hm, atE_no hm], hb⟩

end Go.Proofs.Ytecjbgddjejjdaa
