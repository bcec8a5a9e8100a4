/- Chapter 4: part.What: which place stands somewhere. -/
import Derived.Test.YtoamhkgnnjoaaaaDoorPartJ
import Derived.Laws.EntriesVeiled
namespace Go.Proofs.YtoamhkgnnjoaaaaDoor
open Go.RowKit Go.Shelf
attribute [local go_sem] Oper.semAt_some


/-- What's own variables between two rounds. -/
structure WhW (w : World) (N : Nat) (i : Int) (n : Nat) (W : World) : Prop where
  below : Below w.heap.size w W
  pb : Box W (w.heap.size + 1) [.int .i64 i]
  r0 : Box W (w.heap.size + 1 + 1) [.int .u8 0, .int .i64 0, .int .i64 0]
  r1 : Box W (w.heap.size + 1 + 1 + 1) [.int .i64 0]
  nb : Box W N [.int .i64 n]
structure WhOut (w : World) (x : Pl) (e : Int) (W : World) : Prop where
  below : Below w.heap.size w W
  r0 : Box W (w.heap.size + 1 + 1) (cellsP x)
  r1 : Box W (w.heap.size + 1 + 1 + 1) [.int .i64 e]

theorem WhW.other {w : World} {N : Nat} {i : Int} {n : Nat} {A B : World} {row : Option Nat} (h : WhW w N i n A) (hg : A.grownBy B row) {C : Nat} (hC : w.heap.size ≤ C) (hr : ∀ r, row = some r → C ≤ r ∧ ∃ o : Obj, A.heap[r]? = some o ∧ o.isCells = false) : WhW w N i n B :=
  ⟨h.below.grown hg h.below.size (fun r e => Nat.le_trans hC (hr r e).1), h.pb.other hg fun r e => (hr r e).2, h.r0.other hg fun r e => (hr r e).2, h.r1.other hg fun r e => (hr r e).2, h.nb.other hg fun r e => (hr r e).2⟩
theorem WhOut.other {w : World} {x : Pl} {e : Int} {A B : World} {row : Option Nat} (h : WhOut w x e A) (hg : A.grownBy B row) {C : Nat} (hC : w.heap.size ≤ C) (hr : ∀ r, row = some r → C ≤ r ∧ ∃ o : Obj, A.heap[r]? = some o ∧ o.isCells = false) : WhOut w x e B :=
  ⟨h.below.grown hg h.below.size (fun r e => Nat.le_trans hC (hr r e).1), h.r0.other hg fun r e => (hr r e).2, h.r1.other hg fun r e => (hr r e).2⟩
theorem WhW.grown {w : World} {N : Nat} {i : Int} {n : Nat} {A B : World} (h : WhW w N i n A) (hg : A.grownBy B none) : WhW w N i n B :=
  h.other hg (Nat.le_refl _) fun r e => by cases e
theorem WhOut.grown {w : World} {x : Pl} {e : Int} {A B : World} (h : WhOut w x e A) (hg : A.grownBy B none) : WhOut w x e B :=
  h.other hg (Nat.le_refl _) fun r e => by cases e

theorem WhW.setN {w : World} {N : Nat} {i : Int} {n : Nat} {A : World} (h : WhW w N i n A) (hN : w.heap.size + 4 ≤ N) (m : Nat) : WhW w N i m (A.setCell ⟨N, 0, none⟩ (.int .i64 m)) :=
  ⟨h.below.setCell (p := ⟨N, 0, none⟩) (by simp only; omega) _, h.pb.far (a := ⟨N, 0, none⟩) (by simp only; omega) _, h.r0.far (a := ⟨N, 0, none⟩) (by simp only; omega) _, h.r1.far (a := ⟨N, 0, none⟩) (by simp only; omega) _, (h.nb.set 0 (.int .i64 m)).as rfl⟩
theorem WhW.out {w : World} {N : Nat} {i : Int} {n : Nat} {A : World} (h : WhW w N i n A) (x : Pl) (e : Int) : WhOut w x e ((((A.setCell ⟨w.heap.size + 1 + 1, 0, none⟩ (.int .u8 x.k)).setCell ⟨w.heap.size + 1 + 1, 1, none⟩ (.int .i64 x.a)).setCell ⟨w.heap.size + 1 + 1, 2, none⟩ (.int .i64 x.b)).setCell ⟨w.heap.size + 1 + 1 + 1, 0, none⟩ (.int .i64 e)) :=
  ⟨(((h.below.setCell (p := ⟨w.heap.size + 1 + 1, 0, none⟩) (by simp only; omega) _).setCell (p := ⟨w.heap.size + 1 + 1, 1, none⟩) (by simp only; omega) _).setCell (p := ⟨w.heap.size + 1 + 1, 2, none⟩) (by simp only; omega) _).setCell (p := ⟨w.heap.size + 1 + 1 + 1, 0, none⟩) (by simp only; omega) _,
    ((((h.r0.set 0 (.int .u8 x.k)).set 1 (.int .i64 x.a)).set 2 (.int .i64 x.b)).as rfl).far (a := ⟨w.heap.size + 1 + 1 + 1, 0, none⟩) (by simp only; omega) _,
    ((((h.r1.far (a := ⟨w.heap.size + 1 + 1, 0, none⟩) (by simp only; omega) _).far (a := ⟨w.heap.size + 1 + 1, 1, none⟩) (by simp only; omega) _).far (a := ⟨w.heap.size + 1 + 1, 2, none⟩) (by simp only; omega) _).set 0 (.int .i64 e)).as rfl⟩
theorem KpO.setc {own : Nat → Prop} {b : Nat} (hb : own b) (A : World) (j : Nat) (v : Value) : KpO own A (A.setCell ⟨b, j, none⟩ v) :=
  ⟨by simp [World.setCell], fun k o hk ho _ => (Below.heap_setCell A ⟨b, j, none⟩ v k (fun e => hk (by have e' : k = b := e; exact e' ▸ hb))).trans ho⟩
def plR (x : Pl) (e : Int) : Value := .tuple #[.agg ⟨cellsP x⟩, .int .i64 e]

set_option maxHeartbeats 1000000 in
theorem What_no (c : Cfg) (i : Int) (w : World) (hm : ¬ c.May) :
    Calls Tryd.prog 31 #[.agg #[.int .u8 c.ob, .int .i64 c.inst, .int .i64 c.thr, .int .u8 c.kd, .int .i64 c.str, .int .i64 c.bits, .int .i64 c.cap, .int .i64 c.node, .int .i64 c.bat, .int .i64 c.chk, .int .u64 c.lim, .int .u64 c.most], .int .i64 i] w fun e w' => e = .returned (plR ⟨0, 0, 0⟩ 40) ∧ Below w.heap.size w w' := by
  have HE := Lib.hid (show checkE c = 40 by simp [checkE, hm])
  clear hm
  go_enter Tryd.func31, Tryd.ntmps31
  go_wp2_with fail
  have hr0 := (Box.new ((w.alloc (.cells ⟨cfgL c⟩ 24)).alloc (.cells #[.int .i64 i] 3)) 48 [.int .u8 0, .int .i64 0, .int .i64 0]).alloc (.cells #[.int .i64 0] 30)
  have hr1 := Box.new (((w.alloc (.cells ⟨cfgL c⟩ 24)).alloc (.cells #[.int .i64 i] 3)).alloc (.cells #[.int .u8 0, .int .i64 0, .int .i64 0] 48)) 30 [.int .i64 0]
  have HB := Lib.hid (moreB (moreB (moreB (newB w (.cells ⟨cfgL c⟩ 24)) (.cells #[.int .i64 i] 3)) (.cells #[.int .u8 0, .int .i64 0, .int .i64 0] 48)) (.cells #[.int .i64 0] 30))
  simp only [World.size_alloc] at hr0 hr1
  unfold cfgL at *
  generalize (((w.alloc _).alloc _).alloc _).alloc _ = V at *
  refine (Check_any c V).mono ?_
  rintro e w1 ⟨rfl, hb⟩
  rw [HE.out]
  have hr0 := hr0.below hb
  have hr1 := hr1.below hb
  have HB := Lib.hid (keepB hb HB.out)
  have q0 := hr0.c 0 rfl
  have q0' := hr0.c 1 rfl
  have q0'' := hr0.c 2 rfl
  have q1 := hr1.c 0 rfl
  have f0 := hr0.f 0
  have f0' := hr0.f 1
  have f0'' := hr0.f 2
  have f1 := hr1.f 0
  clear hb hr0 hr1
  go_wp2_with fail
  exact bodyPost_ret (v := .tuple #[.agg #[.int .u8 0, .int .i64 0, .int .i64 0], .int .i64 40]) (by simp [results, Tryd.f31, go_sem, q0, q0', q0'', q1]) rfl ⟨rfl, (((HB.out.setCell (p := ⟨w.heap.size + 1 + 1, 0, none⟩) (by simp <;> omega) _).setCell (p := ⟨w.heap.size + 1 + 1, 1, none⟩) (by simp <;> omega) _).setCell (p := ⟨w.heap.size + 1 + 1, 2, none⟩) (by simp <;> omega) _).setCell (p := ⟨w.heap.size + 1 + 1 + 1, 0, none⟩) (by simp <;> omega) _⟩

set_option maxHeartbeats 1000000 in
set_option maxRecDepth 100000 in
theorem What_go (c : Cfg) (i : Int) (w : World) (hm : c.May) (hp : Pw w) :
    Calls Tryd.prog 31 #[.agg #[.int .u8 c.ob, .int .i64 c.inst, .int .i64 c.thr, .int .u8 c.kd, .int .i64 c.str, .int .i64 c.bits, .int .i64 c.cap, .int .i64 c.node, .int .i64 c.bat, .int .i64 c.chk, .int .u64 c.lim, .int .u64 c.most], .int .i64 i] w fun e w' => e = .returned (plR (whatP c i) (whatE c i)) ∧ Below w.heap.size w w' := by
  have HE := Lib.hid (show checkE c = 0 by simp [checkE, hm])
  have HM := Lib.hid hm
  have HP := Lib.hid hp
  clear hm hp
  refine (callsIn_wide (n := 0)).1 ?_
  refine callsIn_of_wp_marks Tryd.func31 rfl trivial ?_ rfl
  simp only [Tryd.ntmps31, List.size_toArray, List.length_cons, List.length_nil, Nat.reduceAdd, Nat.reduceSub, Array.replicate_succ, Array.replicate_zero, List.push_toArray, List.append_toArray, List.nil_append, List.cons_append]
  gi_wp2_with fail
  refine ⟨trivial, rfl, ?_⟩
  have hx := (((Box.new w 24 (cfgL c)).alloc (.cells #[.int .i64 i] 3)).alloc (.cells #[.int .u8 0, .int .i64 0, .int .i64 0] 48)).alloc (.cells #[.int .i64 0] 30)
  have hpb := ((Box.new (w.alloc (.cells ⟨cfgL c⟩ 24)) 3 [.int .i64 i]).alloc (.cells #[.int .u8 0, .int .i64 0, .int .i64 0] 48)).alloc (.cells #[.int .i64 0] 30)
  have hr0 := (Box.new ((w.alloc (.cells ⟨cfgL c⟩ 24)).alloc (.cells #[.int .i64 i] 3)) 48 [.int .u8 0, .int .i64 0, .int .i64 0]).alloc (.cells #[.int .i64 0] 30)
  have hr1 := Box.new (((w.alloc (.cells ⟨cfgL c⟩ 24)).alloc (.cells #[.int .i64 i] 3)).alloc (.cells #[.int .u8 0, .int .i64 0, .int .i64 0] 48)) 30 [.int .i64 0]
  have HB := Lib.hid (moreB (moreB (moreB (newB w (.cells ⟨cfgL c⟩ 24)) (.cells #[.int .i64 i] 3)) (.cells #[.int .u8 0, .int .i64 0, .int .i64 0] 48)) (.cells #[.int .i64 0] 30))
  simp only [World.size_alloc] at hr0 hr1 hpb
  unfold cfgL at *
  generalize (((w.alloc _).alloc _).alloc _).alloc _ = V at *
  refine (callsIn_wide.2 (Check_any c V)).mono ?_
  rintro e w1 ⟨rfl, hb⟩
  rw [HE.out]
  have hx := hx.below hb
  have hpb := hpb.below hb
  have hr0 := hr0.below hb
  have hr1 := hr1.below hb
  have HB1 := Lib.hid (keepB hb HB.out)
  have x0 := fun o => (hx.alloc o).c 0 rfl
  have x1 := fun o => (hx.alloc o).c 1 rfl
  have x2 := fun o => (hx.alloc o).c 2 rfl
  have x3 := fun o => (hx.alloc o).c 3 rfl
  have x4 := fun o => (hx.alloc o).c 4 rfl
  have x5 := fun o => (hx.alloc o).c 5 rfl
  have x6 := fun o => (hx.alloc o).c 6 rfl
  have x7 := fun o => (hx.alloc o).c 7 rfl
  have x8 := fun o => (hx.alloc o).c 8 rfl
  have x9 := fun o => (hx.alloc o).c 9 rfl
  have x10 := fun o => (hx.alloc o).c 10 rfl
  have x11 := fun o => (hx.alloc o).c 11 rfl
  clear hb HB
  have HX := Lib.hid hx; have HPB := Lib.hid hpb; have HR0 := Lib.hid hr0; have HR1 := Lib.hid hr1
  clear hx hpb hr0 hr1
  gi_wp2_with fail
  refine ⟨trivial, rfl, ?_⟩
  refine (callsIn_wide.2 (places_fn c _)).mono ?_
  rintro e w2 ⟨rfl, rfl⟩
  clear x0 x1 x2 x3 x4 x5 x6 x7 x8 x9 x10 x11
  gi_wp2_with fail
  have hz1 : w.heap.size + 4 ≤ w1.heap.size := by have := HR1.out.lt; omega
  have hSt : WhW w w1.heap.size i 0 ((w1.alloc (.cells #[.int .i64 0] 3)).alloc (.cells ⟨cfgL c⟩ 24)) :=
    ⟨moreB (moreB HB1.out _) _, (HPB.out.alloc _).alloc _, (HR0.out.alloc _).alloc _, (HR1.out.alloc _).alloc _, (Box.new w1 3 [.int .i64 0]).alloc _⟩
  have hcb := Box.new (w1.alloc (.cells #[.int .i64 0] 3)) 24 (cfgL c)
  have hzz : ((w1.alloc (.cells #[.int .i64 0] 3)).alloc (.cells ⟨cfgL c⟩ 24)).heap.size = w1.heap.size + 2 := by simp
  have hpw := HP.out.more (moreB (moreB HB1.out (.cells #[.int .i64 0] 3)) (.cells ⟨cfgL c⟩ 24))
  have hpg := HP.out.pos
  rw [World.size_alloc] at hcb
  generalize (w1.alloc (.cells #[.int .i64 0] 3)).alloc (.cells ⟨cfgL c⟩ 24) = W0 at *
  obtain ⟨own, hown⟩ : ∃ own : Nat → Prop, own = fun j => j = w.heap.size + 1 + 1 ∨ j = w.heap.size + 1 + 1 + 1 ∨ j = w1.heap.size := ⟨_, rfl⟩
  have ow : ∀ j, own j ↔ j = w.heap.size + 1 + 1 ∨ j = w.heap.size + 1 + 1 + 1 ∨ j = w1.heap.size := fun j => by rw [hown]
  have o1 : own (w.heap.size + 1 + 1) := (ow _).2 (.inl rfl)
  have o2 : own (w.heap.size + 1 + 1 + 1) := (ow _).2 (.inr (.inl rfl))
  have o3 : own w1.heap.size := (ow _).2 (.inr (.inr rfl))
  have OW := Lib.hid ow
  clear ow hown
  refine wp_range_new (gf := 59) rfl (enters_of Tryd.func59 (by kernel_rfl) rfl)
    (places_seq c (w1.heap.size + 1) own W0 HM.out hpw hcb (fun j hj => by have := (OW.out j).1 hj; omega) (fun hj => by have := (OW.out _).1 hj; omega) (fun hj => by have := (OW.out _).1 hj; omega))
    (Below.refl _ _) (fun r e => by cases e) (fun _ => rfl)
    (fun h g => h.trans g)
    (fun W l o o' _ h hc _ => KpO.put W l o o' h hc)
    (fun h => KpO.grown h)
    (fun pre W => WhW w w1.heap.size i pre.length W ∧ ∀ m : Nat, m < pre.length → (m : Int) ≠ i)
    (fun cd pre W => cd = .ret ∧ ∃ x : Pl, whatP c i = x ∧ whatE c i = 0 ∧ WhOut w x 0 W)
    (fun s A B row hs hg hr => ⟨hs.1.other hg (by omega) hr, hs.2⟩)
    (fun cd s A B row hs hg hr => by obtain ⟨h0, x, h1, h2, h3⟩ := hs; exact ⟨h0, x, h1, h2, h3.other hg (by omega) hr⟩)
    (fun s A B hs hg => ⟨hs.1.grown hg, hs.2⟩)
    (fun s A B hs hg => ⟨hs.1.grown hg, hs.2⟩)
    (fun cd s A B hs hg => by obtain ⟨h0, x, h1, h2, h3⟩ := hs; exact ⟨h0, x, h1, h2, h3.grown hg⟩)
    ⟨hSt, fun x hx => by cases hx⟩ cellsP (fun x W => W.alloc (.cells ⟨cellsP x⟩ 48)) (fun x W => ⟨World.grownBy_alloc _ _ none, Box.new _ _ _⟩)
    (fun x q => { tmps := #[.agg #[.int .u8 c.ob, .int .i64 c.inst, .int .i64 c.thr, .int .u8 c.kd, .int .i64 c.str, .int .i64 c.bits, .int .i64 c.cap, .int .i64 c.node, .int .i64 c.bat, .int .i64 c.chk, .int .u64 c.lim, .int .u64 c.most], .int .i64 i, .pointer (some ⟨w.heap.size, 0, none⟩), .pointer (some ⟨w.heap.size + 1, 0, none⟩), .pointer (some ⟨w.heap.size + 1 + 1, 0, none⟩), .pointer (some ⟨w.heap.size + 1 + 1 + 1, 0, none⟩), .int .i64 0, .pointer (some ⟨w1.heap.size, 0, none⟩), .pointer (some ⟨q, 0, none⟩), .agg #[.int .u8 c.ob, .int .i64 c.inst, .int .i64 c.thr, .int .u8 c.kd, .int .i64 c.str, .int .i64 c.bits, .int .i64 c.cap, .int .i64 c.node, .int .i64 c.bat, .int .i64 c.chk, .int .u64 c.lim, .int .u64 c.most], .int .i64 0, .int .i64 0, .bool false, undef, undef, .agg #[.int .u8 c.ob, .int .i64 c.inst, .int .i64 c.thr, .int .u8 c.kd, .int .i64 c.str, .int .i64 c.bits, .int .i64 c.cap, .int .i64 c.node, .int .i64 c.bat, .int .i64 c.chk, .int .u64 c.lim, .int .u64 c.most], .func (.func 59) #[] #[.pointer (some ⟨w1.heap.size + 1, 0, none⟩)], .agg #[.int .u8 x.k, .int .i64 x.a, .int .i64 x.b], undef, undef, undef, undef, undef, undef, undef], defers := [] }) ?assign ?body ?done ?stop
  case assign =>
    intro l x W K hK
    simp only [encP, plV]
    gi_wp2
    exact hK
  case body =>
    rintro l pre x rest q V hL ⟨hw, hne⟩ hq hqz
    have p0 := hw.pb.c 0 rfl
    have q0 := hq.c 0 rfl
    have q1 := hq.c 1 rfl
    have q2 := hq.c 2 rfl
    have n0 := hw.nb.c 0 rfl
    have nf := hw.nb.f 0
    have HW := Lib.hid hw
    have HNE := Lib.hid hne
    have hi : (placesL c.shp)[pre.length]? = some x := by rw [hL]; simp
    generalize hn : pre.length = n at *
    have hnl : n ≤ 714 := by
      have := congrArg List.length hL
      rw [places_len] at this
      simp at this
      have := (all_le (May.small HM.out)).1
      omega
    have HN := Lib.hid hn
    have HI := Lib.hid hi
    clear hw hne hL hq hn hi
    by_cases hit : (n : Int) = i
    · subst hit
      have HZ := Lib.hid (what_at HM.out HI.out)
      have r0 := HW.out.r0.c 0 rfl
      have r0' := HW.out.r0.c 1 rfl
      have r0'' := HW.out.r0.c 2 rfl
      have r1 := HW.out.r1.c 0 rfl
      have f0 := HW.out.r0.f 0
      have f0' := HW.out.r0.f 1
      have f0'' := HW.out.r0.f 2
      have f1 := HW.out.r1.f 0
      gi_wp2_with fail
      refine ⟨(((KeepsOthers.setCell _ _ _).trans (KeepsOthers.setCell _ _ _)).trans (KeepsOthers.setCell _ _ _)).trans (KeepsOthers.setCell _ _ _), (((KpO.setc o1 _ _ _).trans (KpO.setc o1 _ _ _)).trans (KpO.setc o1 _ _ _)).trans (KpO.setc o2 _ _ _), rfl, x, HZ.out.1, HZ.out.2, ?_⟩
      exact HW.out.out _ _
    · have HI := Lib.hid hit
      have e1 : ((n : Int) == i) = false := by simpa using hit
      clear hit
      gi_wp2_with fail
      refine ⟨KeepsOthers.setCell _ _ _, KpO.setc o3 _ _ _, ?_, ?_⟩
      · rw [List.length_append, HN.out]
        exact (HW.out.setN hz1 (n + 1))
      · intro m hm
        rw [List.length_append, HN.out] at hm
        simp only [List.length_cons, List.length_nil] at hm
        by_cases hmn : m = n
        · subst hmn; exact HI.out
        · exact HNE.out m (by omega)
  case done =>
    rintro D W hD ⟨hw, hne⟩ hK
    have hz : inZ c i = false := inZ_f.2 fun ⟨h1, h2, h3⟩ => by
      obtain ⟨m, rfl⟩ := Int.eq_ofNat_of_zero_le h2
      exact hne m (by rw [places_len]; omega) rfl
    have E1 := Lib.hid (what_out hz)
    have E2 := Lib.hid (whatE_out HM.out hz)
    have r0 := hw.r0.c 0 rfl
    have r0' := hw.r0.c 1 rfl
    have r0'' := hw.r0.c 2 rfl
    have r1 := hw.r1.c 0 rfl
    have f0 := hw.r0.f 0
    have f0' := hw.r0.f 1
    have f0'' := hw.r0.f 2
    have f1 := hw.r1.f 0
    have hO := hw.out ⟨0, 0, 0⟩ 2
    have HO := Lib.hid hO
    clear hw hne hz hO
    gi_wp2_with fail
    have hO := HO.out
    change WhOut _ _ _ ((((W.setCell ⟨w.heap.size + 1 + 1, 0, none⟩ (.int .u8 0)).setCell ⟨w.heap.size + 1 + 1, 1, none⟩ (.int .i64 0)).setCell ⟨w.heap.size + 1 + 1, 2, none⟩ (.int .i64 0)).setCell ⟨w.heap.size + 1 + 1 + 1, 0, none⟩ (.int .i64 2)) at hO
    generalize hU : (((W.setCell ⟨w.heap.size + 1 + 1, 0, none⟩ (.int .u8 0)).setCell ⟨w.heap.size + 1 + 1, 1, none⟩ (.int .i64 0)).setCell ⟨w.heap.size + 1 + 1, 2, none⟩ (.int .i64 0)).setCell ⟨w.heap.size + 1 + 1 + 1, 0, none⟩ (.int .i64 2) = U at *
    have hK' : U.heap[D]? = some (.deferred (some [])) := by rw [← hU]; exact ((((KeepsOthers.setCell _ _ _).trans (KeepsOthers.setCell _ _ _)).trans (KeepsOthers.setCell _ _ _)).trans (KeepsOthers.setCell _ _ _)).same D _ hK rfl
    refine ⟨by simp, .inl ⟨_, _, rfl, run_takeDeferred hK', ?_⟩⟩
    have hO2 := hO.other (C := W0.heap.size) (grownBy_putObj' U D (.deferred none)) (by omega) (fun r e => by cases e; exact ⟨hD, _, hK', rfl⟩)
    have q0 := hO2.r0.c 0 rfl
    have q0' := hO2.r0.c 1 rfl
    have q0'' := hO2.r0.c 2 rfl
    have q1 := hO2.r1.c 0 rfl
    refine ⟨plR ⟨0, 0, 0⟩ 2, ?_, by rw [E1.out, E2.out], hO2.below⟩
    simp [results, Tryd.f31, go_sem, q0, q0', q0'', q1, plR, cellsP]
  case stop =>
    rintro D cd pre x rest W hD hL ⟨rfl, x, E1, E2, hO⟩ hK
    have E1 := Lib.hid E1
    have E2 := Lib.hid E2
    gi_wp2
    refine ⟨by simp, .inl ⟨_, _, rfl, run_takeDeferred hK, ?_⟩⟩
    have hO2 := hO.other (C := W0.heap.size) (grownBy_putObj' W D (.deferred none)) (by omega) (fun r e => by cases e; exact ⟨hD, _, hK, rfl⟩)
    have q0 := hO2.r0.c 0 rfl
    have q0' := hO2.r0.c 1 rfl
    have q0'' := hO2.r0.c 2 rfl
    have q1 := hO2.r1.c 0 rfl
    refine ⟨plR x 0, ?_, by rw [E1.out, E2.out], hO2.below⟩
    simp [results, Tryd.f31, go_sem, q0, q0', q0'', q1, plR, cellsP]

theorem What_any (c : Cfg) (i : Int) (w : World) (hp : Pw w) :
    Calls Tryd.prog 31 #[.agg #[.int .u8 c.ob, .int .i64 c.inst, .int .i64 c.thr, .int .u8 c.kd, .int .i64 c.str, .int .i64 c.bits, .int .i64 c.cap, .int .i64 c.node, .int .i64 c.bat, .int .i64 c.chk, .int .u64 c.lim, .int .u64 c.most], .int .i64 i] w fun e w' => e = .returned (plR (whatP c i) (whatE c i)) ∧ Below w.heap.size w w' := by
  by_cases hm : c.May
  · exact What_go c i w hm hp
  · refine (What_no c i w hm).mono ?_
    rintro e w' ⟨rfl, hb⟩
    exact ⟨by rw [what_out (inZ_no hm), whatE_no hm], hb⟩

end Go.Proofs.YtoamhkgnnjoaaaaDoor
