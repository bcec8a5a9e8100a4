/- Contract of the reference's Do. -/
import Derived.Test.YtmfkipefnacjdaaCellRefB
namespace Go.Proofs.Ytmfkipefnacjdaa
open Go.RowKit

theorem Box.results3 {P : Program} {fn : Func} {p q r : Tmp} {t : TypeId} {W : World} {g : Nat} {cs : List Value} (h : Box W g cs) (hr : fn.results = #[.tmp q, .cell p t, .tmp r]) (hagg : ∀ w, (isAgg t).run P w = .ok true w) (hsz : ∀ w, (Go.sizeOf t).run P w = .ok cs.length w)
    {tmps : Array Value} {u v : Value} (ht : tmps.getD p undef = .pointer (some ⟨g, 0, none⟩)) (hq : tmps.getD q undef = u) (hv : tmps.getD r undef = v) : (Go.results fn tmps).run P W = .ok (.tuple #[u, .agg ⟨cs⟩, v]) W := by
  have hl := h.load (t := t) hagg hsz
  rw [Array.getD_eq_getD_getElem?] at ht hq hv
  simp only [Go.results, hr]
  simp [ht, hq, hv, asAddr, hl]

structure RDoS (w : World) (xs : List Value) (b off c g1 B cap1 : Nat) (l : List Cel) (U : World) : Prop where
  below : Below w.heap.size w U
  acc : Box U w.heap.size xs
  seen : Box U (w.heap.size + 1) [.int .u64 0, .int .u64 0, .int .u64 0, .int .u64 0, .bool false]
  rd : Rd U (some ⟨b, off, none⟩) c l
  own : Own U B (.slice (some ⟨g1, 0, none⟩) l.length cap1) l
theorem RDoS.next {w U V : World} {xs : List Value} {b off c g1 B cap1 : Nat} {l : List Cel} (h : RDoS w xs b off c g1 B cap1 l U) (hb : Below U.heap.size U V) : RDoS w xs b off c g1 B cap1 l V :=
  ⟨keepB hb h.below, h.acc.below hb, h.seen.below hb, h.rd.below hb, own_below h.own hb⟩

/-- A store into a later block. -/
theorem RDoS.put {w U : World} {xs : List Value} {b off c g1 B cap1 N : Nat} {l : List Cel} (h : RDoS w xs b off c g1 B cap1 l U) (h0 : w.heap.size + 1 < N) (h1 : b < N) (h2 : g1 < N) (j : Nat) (v : Value) : RDoS w xs b off c g1 B cap1 l (U.setCell ⟨N, j, none⟩ v) :=
  ⟨h.below.setCell (p := ⟨N, j, none⟩) (by show w.heap.size ≤ N; omega) v, h.acc.far (a := ⟨N, j, none⟩) (by show w.heap.size ≠ N; omega) v, h.seen.far (a := ⟨N, j, none⟩) (by show w.heap.size + 1 ≠ N; omega) v,
    ⟨h.rd.nil, by
      rcases h.rd.at' with h' | ⟨b', off', e, hlt, hc⟩
      · cases h'
      · refine .inr ⟨b', off', e, hlt.elim .inl (fun h => .inr (by simpa using h)), fun j' u hu => ?_⟩
        cases e
        exact (World.cell?_setCell_other _ _ _ _ (fun e => by injection e; omega)).trans (hc j' u hu)⟩,
    own_far h.own (by simp [Value.ownBlock]; omega) v⟩
theorem RDoS.put4 {w U : World} {xs : List Value} {b off c g1 B cap1 N : Nat} {l : List Cel} (h : RDoS w xs b off c g1 B cap1 l U) (h0 : w.heap.size + 1 < N) (h1 : b < N) (h2 : g1 < N) (v0 v1 v2 v3 : Value) :
    RDoS w xs b off c g1 B cap1 l ((((U.setCell ⟨N, 0, none⟩ v0).setCell ⟨N, 1, none⟩ v1).setCell ⟨N, 2, none⟩ v2).setCell ⟨N, 3, none⟩ v3) :=
  (((h.put h0 h1 h2 0 v0).put h0 h1 h2 1 v1).put h0 h1 h2 2 v2).put h0 h1 h2 3 v3
theorem put4_cell {U : World} {a : Addr} {v : Value} {N : Nat} (h : U.cell? a = some v) (hn : a.block ≠ N) (v0 v1 v2 v3 : Value) : ((((U.setCell ⟨N, 0, none⟩ v0).setCell ⟨N, 1, none⟩ v1).setCell ⟨N, 2, none⟩ v2).setCell ⟨N, 3, none⟩ v3).cell? a = some v := by
  have e : ∀ (V : World) (j : Nat) (u : Value), (V.setCell ⟨N, j, none⟩ u).cell? a = V.cell? a := fun V j u => World.cell?_setCell_other _ _ _ _ (fun e => hn (by rw [← e]))
  rw [e, e, e, e]; exact h

theorem below_put4 {B : Nat} {w U : World} (h : Below B w U) (v0 v1 v2 v3 : Value) : Below B w ((((U.setCell ⟨B, 0, none⟩ v0).setCell ⟨B, 1, none⟩ v1).setCell ⟨B, 2, none⟩ v2).setCell ⟨B, 3, none⟩ v3) :=
  (((h.setCell (p := ⟨B, 0, none⟩) (Nat.le_refl _) v0).setCell (p := ⟨B, 1, none⟩) (Nat.le_refl _) v1).setCell (p := ⟨B, 2, none⟩) (Nat.le_refl _) v2).setCell (p := ⟨B, 3, none⟩) (Nat.le_refl _) v3
theorem box_put4 {U : World} {N : Nat} {u0 u1 u2 u3 : Value} (h : Box U N [u0, u1, u2, u3]) (v0 v1 v2 v3 : Value) : Box ((((U.setCell ⟨N, 0, none⟩ v0).setCell ⟨N, 1, none⟩ v1).setCell ⟨N, 2, none⟩ v2).setCell ⟨N, 3, none⟩ v3) N [v0, v1, v2, v3] :=
  ((((h.set 0 _).set 1 _).set 2 _).set 3 _).as rfl

theorem rd_of_own {W : World} {B g cap n : Nat} {l : List Cel} (h : Own W B (.slice (some ⟨g, 0, none⟩) n cap) l) (hn : l.length = n) : Rd W (some ⟨g, 0, none⟩) cap l := by
  subst hn
  refine ⟨by simp, .inr ⟨g, 0, rfl, .inr (World.ownsRow.lt h g rfl).2, fun j u hu => ?_⟩⟩
  have hj : j < l.length * 4 := by
    have := (List.getElem?_eq_some_iff.1 hu).1
    rwa [celsV_len] at this
  rw [Nat.zero_add, h.cellAt j hj, hu]
theorem seen_fin2 {w V : World} {B h : Nat} {v : Value} {l : List Cel} (hr : Box V h [.int .u64 0, .int .u64 0, .int .u64 0, .int .u64 0, .bool false]) (ho : Own V B v l) (hb : Below w.heap.size w V) (hne : v.ownBlock ≠ some h) (hh : w.heap.size ≤ h) (v0 v1 v2 v3 v4 : Value) :
    Box (((((V.setCell ⟨h, 0, none⟩ v0).setCell ⟨h, 1, none⟩ v1).setCell ⟨h, 2, none⟩ v2).setCell ⟨h, 3, none⟩ v3).setCell ⟨h, 4, none⟩ v4).drew h [v0, v1, v2, v3, v4]
    ∧ Own (((((V.setCell ⟨h, 0, none⟩ v0).setCell ⟨h, 1, none⟩ v1).setCell ⟨h, 2, none⟩ v2).setCell ⟨h, 3, none⟩ v3).setCell ⟨h, 4, none⟩ v4).drew B v l
    ∧ Below w.heap.size w (((((V.setCell ⟨h, 0, none⟩ v0).setCell ⟨h, 1, none⟩ v1).setCell ⟨h, 2, none⟩ v2).setCell ⟨h, 3, none⟩ v3).setCell ⟨h, 4, none⟩ v4).drew :=
  ⟨Box.drew (seen_set hr v0 v1 v2 v3 v4), World.ownsRow.drew (own_far (own_far (own_far (own_far (own_far ho hne v0) hne v1) hne v2) hne v3) hne v4),
    (((((hb.setCell (p := ⟨h, 0, none⟩) hh v0).setCell (p := ⟨h, 1, none⟩) hh v1).setCell (p := ⟨h, 2, none⟩) hh v2).setCell (p := ⟨h, 3, none⟩) hh v3).setCell (p := ⟨h, 4, none⟩) hh v4).drew⟩

def RDoPost (a : Option Addr) (c : Nat) (l : List Cel) (x : Acc) (w : World) (e : Ending) (w' : World) : Prop :=
  ∃ a' c', e = .returned (.tuple #[.slice a' l.length c', .agg #[.int .u64 (doS l x).1.t, .int .u64 (doS l x).1.a, .int .u64 (doS l x).1.b, .int .u64 (doS l x).1.c, .bool (doS l x).2], .int .i64 (doE l x)]) ∧ Rd w' a' c' (doL l x)
    ∧ ((a' = a ∧ c' = c) ∨ a' = none ∨ ∃ g, a' = some ⟨g, 0, none⟩ ∧ w.heap.size ≤ g) ∧ Below w.heap.size w w'

set_option maxHeartbeats 1600000 in
theorem rDo_no (a : Option Addr) (c : Nat) (l : List Cel) (x : Acc) (w : World) (h : Rd w a c l) (hm : mayA l.length x.k x.at' = false) : Calls Try.prog 11 #[.slice a l.length c, .agg #[.int .u8 x.k, .int .i64 x.at', .int .u64 x.old.t, .int .u64 x.old.a, .int .u64 x.old.b, .int .u64 x.old.c, .int .u64 x.new.t, .int .u64 x.new.a, .int .u64 x.new.b, .int .u64 x.new.c]] w (RDoPost a c l x w) := by
  obtain ⟨e1, e2, e3⟩ := doL_no hm
  have H1 := Lib.hid e1; have H2 := Lib.hid e2; have H3 := Lib.hid e3; have HM := Lib.hid hm; have HR := Lib.hid h
  clear e1 e2 e3 hm h
  go_enter Try.func11, Try.ntmps11
  go_wp2_with fail
  refine (rMay_any l.length x _).mono ?_
  rintro e w1 ⟨rfl, hb1⟩
  rw [HM.out]
  have hr := (Box.newAt (w.alloc (.cells #[.int .u8 x.k, .int .i64 x.at', .int .u64 x.old.t, .int .u64 x.old.a, .int .u64 x.old.b, .int .u64 x.old.c, .int .u64 x.new.t, .int .u64 x.new.a, .int .u64 x.new.b, .int .u64 x.new.c] 36)) 32 [.int .u64 0, .int .u64 0, .int .u64 0, .int .u64 0, .bool false] (g := w.heap.size + 1) (by simp)).below hb1
  have HB := Lib.hid (keepB hb1 (moreB (newB w _) _))
  have HRR := Lib.hid hr
  have r0 := hr.c 0 rfl
  have r1 := hr.c 1 rfl
  have r2 := hr.c 2 rfl
  have r3 := hr.c 3 rfl
  have r4 := hr.c 4 rfl
  have f0 := hr.f 0
  have f1 := hr.f 1
  have f2 := hr.f 2
  have f3 := hr.f 3
  have f4 := hr.f 4
  clear hr hb1
  go_wp2_with fail
  refine bodyPost_ret (v := .tuple #[.slice a l.length c, .agg #[.int .u64 0, .int .u64 0, .int .u64 0, .int .u64 0, .bool false], .int .i64 2]) ((seen_set HRR.out _ _ _ _ _).results3 rfl Try.isAgg32 Try.sizeOf32 rfl rfl rfl) rfl ?_
  have hB : Below w.heap.size w (((((w1.setCell ⟨w.heap.size + 1, 0, none⟩ (.int .u64 0)).setCell ⟨w.heap.size + 1, 1, none⟩ (.int .u64 0)).setCell ⟨w.heap.size + 1, 2, none⟩ (.int .u64 0)).setCell ⟨w.heap.size + 1, 3, none⟩ (.int .u64 0)).setCell ⟨w.heap.size + 1, 4, none⟩ (.bool false)) :=
    ((((HB.out.setCell (p := ⟨w.heap.size + 1, 0, none⟩) (Nat.le_succ _) _).setCell (p := ⟨w.heap.size + 1, 1, none⟩) (Nat.le_succ _) _).setCell (p := ⟨w.heap.size + 1, 2, none⟩) (Nat.le_succ _) _).setCell (p := ⟨w.heap.size + 1, 3, none⟩) (Nat.le_succ _) _).setCell (p := ⟨w.heap.size + 1, 4, none⟩) (Nat.le_succ _) _
  refine ⟨a, c, ?_, ?_, .inl ⟨rfl, rfl⟩, hB⟩
  · rw [H2.out, H3.out]; rfl
  · rw [H1.out]; exact HR.out.below hB

set_option maxHeartbeats 3200000 in
theorem rDo_yes (a : Option Addr) (c k : Nat) (l : List Cel) (x : Acc) (w : World) (h : Rd w a c l) (hk : k < l.length) (hn : l.length ≤ 100000000) (h1 : 1 ≤ x.k) (h4 : x.k ≤ 4) :
    Calls Try.prog 11 #[.slice a l.length c, .agg #[.int .u8 x.k, .int .i64 k, .int .u64 x.old.t, .int .u64 x.old.a, .int .u64 x.old.b, .int .u64 x.old.c, .int .u64 x.new.t, .int .u64 x.new.a, .int .u64 x.new.b, .int .u64 x.new.c]] w (RDoPost a c l ⟨x.k, k, x.old, x.new⟩ w) := by
  obtain ⟨k0, hk0, hq0, hq1, hq2⟩ := info_parts infoCell
  obtain ⟨b, off, rfl⟩ := h.addr hk
  obtain ⟨y, hy⟩ : ∃ y, l[k]? = some y := ⟨_, List.getElem?_eq_getElem hk⟩
  have hyd : l.getD k .zero = y := by simp [hy]
  obtain ⟨e1, e2, e3⟩ := doL_yes (l := l) (x := ⟨x.k, k, x.old, x.new⟩) rfl hk h1 h4
  rw [hyd] at e1 e2
  have hmay : mayA l.length x.k (k : Int) = true := (mayA_iff _ _ _).2 ⟨h1, h4, by omega, by omega⟩
  have H1 := Lib.hid e1; have H2 := Lib.hid e2; have H3 := Lib.hid e3; have HM := Lib.hid hmay; have HR := Lib.hid h; have HY := Lib.hid hy; have H14 := Lib.hid (And.intro h1 h4)
  have i1 : (0 : Int) ≤ (k : Int) := by omega
  have i2 : (k : Int) < (l.length : Int) := by omega
  clear e1 e2 e3 hmay h hyd hy h1 h4
  go_enter Try.func11, Try.ntmps11
  go_wp2_with fail
  refine (rMay_any l.length ⟨x.k, k, x.old, x.new⟩ _).mono ?_
  rintro e w1 ⟨rfl, hb1⟩
  rw [show mayA l.length (⟨x.k, k, x.old, x.new⟩ : Acc).k (⟨x.k, k, x.old, x.new⟩ : Acc).at' = true from HM.out]
  have hx := ((Box.new w 36 [.int .u8 x.k, .int .i64 k, .int .u64 x.old.t, .int .u64 x.old.a, .int .u64 x.old.b, .int .u64 x.old.c, .int .u64 x.new.t, .int .u64 x.new.a, .int .u64 x.new.b, .int .u64 x.new.c]).alloc (.cells #[.int .u64 0, .int .u64 0, .int .u64 0, .int .u64 0, .bool false] 32)).below hb1
  have hr := (Box.newAt (w.alloc (.cells #[.int .u8 x.k, .int .i64 k, .int .u64 x.old.t, .int .u64 x.old.a, .int .u64 x.old.b, .int .u64 x.old.c, .int .u64 x.new.t, .int .u64 x.new.a, .int .u64 x.new.b, .int .u64 x.new.c] 36)) 32 [.int .u64 0, .int .u64 0, .int .u64 0, .int .u64 0, .bool false] (g := w.heap.size + 1) (by simp)).below hb1
  have hrd := HR.out.below (keepB hb1 (moreB (newB w _) _))
  have HB := Lib.hid (keepB hb1 (moreB (newB w _) _))
  have HX := Lib.hid hx; have HRR := Lib.hid hr; have HRD := Lib.hid hrd
  clear hr hb1 hx hrd
  go_wp2_with (at_builtin; refine wpList_append_copy rfl _ _ 22 rfl w1.heap.size 30 k0 (.agg #[.int .u64 0, .int .u64 0, .int .u64 0, .int .u64 0]) 4 32 Try.underlying22 hk0 hq0 hq1 hq2 rfl (by decide) _ rfl (World.ownsRow_lit w1 #[] 0 (Nat.le_refl _) (by decide) rfl) (some ⟨b, off, none⟩) l.length c (celsV l) rfl (by simp) (celsV_len l) (HRD.out.below (newB w1 _)).news (celsV_one l) (by unfold maxLen; omega) (by omega) (by simp) ?_; intro v1 w2 hown2 hgrow2; have hb2 : Below w1.heap.size w1 w2 := ((Below.refl _ w1).alloc (Nat.le_refl _) _).grown hgrow2 (by simp) (fun j e => by cases e; exact Nat.le_refl _); have HO2 := Lib.hid (show Own w2 w1.heap.size v1 l from hown2); have HB2 := Lib.hid hb2; clear hown2 hgrow2 hb2)
  obtain ⟨g1, cap1, hv1⟩ : ∃ g1 cap1, v1 = .slice (some ⟨g1, 0, none⟩) l.length cap1 := by
    obtain ⟨a', cap', e, _, h0 | ⟨g, e', _⟩⟩ := own_form HO2.out
    · rcases HO2.out.2 with ⟨_, hz⟩ | ⟨g, cap, cur, e1, _⟩
      · omega
      · exact ⟨g, cap, e1⟩
    · exact ⟨g, cap', by rw [e, e']⟩
  subst hv1
  have hx := HX.out.below HB2.out
  have hr := HRR.out.below HB2.out
  have hrd := HRD.out.below HB2.out
  obtain ⟨c0, c1, c2, c3⟩ := hrd.get HY.out
  have x0 := hx.c 0 rfl
  have x1 := hx.c 1 rfl
  have x2 := hx.c 2 rfl
  have x3 := hx.c 3 rfl
  have x4 := hx.c 4 rfl
  have x5 := hx.c 5 rfl
  have x6 := hx.c 6 rfl
  have x7 := hx.c 7 rfl
  have x8 := hx.c 8 rfl
  have x9 := hx.c 9 rfl
  have HZ := Lib.hid (RDoS.mk (keepB HB2.out HB.out) hx hr hrd HO2.out)
  have HLE := Lib.hid HB.out.size
  have hg1 := (World.ownsRow.lt HO2.out g1 rfl).1
  have hxl := HX.out.lt
  have hrl := HRR.out.lt
  have hbb : b < w1.heap.size := World.block_lt_of_cell? w1 _ (HRD.out.get HY.out).1
  have HG1 := Lib.hid (show w.heap.size + 1 < g1 ∧ b < g1 ∧ b < w.heap.size by have := World.block_lt_of_cell? w _ (HR.out.get HY.out).1; exact ⟨by omega, by omega, this⟩)
  clear hbb
  have N0 : w.heap.size + 1 < w2.heap.size := hr.lt
  have N1 : b < w2.heap.size := World.block_lt_of_cell? w2 _ c0
  have N2 : g1 < w2.heap.size := (World.ownsRow.lt HO2.out g1 rfl).2
  have N3 : w.heap.size < w2.heap.size := by omega
  clear hx hr hrd hg1 hxl hrl HX HRR HRD HB HO2 HB2
  go_wp2_with fail
  have hS : ∀ U : World, Below w2.heap.size w2 U → (Below w2.heap.size w2 U ∧ U.cell? ⟨w.heap.size, 0, none⟩ = some (.int .u8 x.k) ∧ U.cell? ⟨w.heap.size, 1, none⟩ = some (.int .i64 k) ∧ U.cell? ⟨w.heap.size, 2, none⟩ = some (.int .u64 x.old.t) ∧ U.cell? ⟨w.heap.size, 3, none⟩ = some (.int .u64 x.old.a) ∧ U.cell? ⟨w.heap.size, 4, none⟩ = some (.int .u64 x.old.b) ∧ U.cell? ⟨w.heap.size, 5, none⟩ = some (.int .u64 x.old.c) ∧ U.cell? ⟨w.heap.size, 6, none⟩ = some (.int .u64 x.new.t) ∧ U.cell? ⟨w.heap.size, 7, none⟩ = some (.int .u64 x.new.a) ∧ U.cell? ⟨w.heap.size, 8, none⟩ = some (.int .u64 x.new.b) ∧ U.cell? ⟨w.heap.size, 9, none⟩ = some (.int .u64 x.new.c) ∧ U.cell? ⟨b, off + k * 4, none⟩ = some (.int .u64 y.t) ∧ U.cell? ⟨b, off + k * 4 + 1, none⟩ = some (.int .u64 y.a) ∧ U.cell? ⟨b, off + k * 4 + 2, none⟩ = some (.int .u64 y.b) ∧ U.cell? ⟨b, off + k * 4 + 3, none⟩ = some (.int .u64 y.c)) := fun U hB => ⟨hB, (hB.cell N3).trans x0, (hB.cell N3).trans x1, (hB.cell N3).trans x2, (hB.cell N3).trans x3, (hB.cell N3).trans x4, (hB.cell N3).trans x5, (hB.cell N3).trans x6, (hB.cell N3).trans x7, (hB.cell N3).trans x8, (hB.cell N3).trans x9, (hB.cell N1).trans c0, (hB.cell N1).trans c1, (hB.cell N1).trans c2, (hB.cell N1).trans c3⟩
  have HSS := Lib.hid hS
  clear hS
  go_region_held3 (fun U => Below w2.heap.size w2 U ∧ U.cell? ⟨w.heap.size, 0, none⟩ = some (.int .u8 x.k) ∧ U.cell? ⟨w.heap.size, 1, none⟩ = some (.int .i64 k) ∧ U.cell? ⟨w.heap.size, 2, none⟩ = some (.int .u64 x.old.t) ∧ U.cell? ⟨w.heap.size, 3, none⟩ = some (.int .u64 x.old.a) ∧ U.cell? ⟨w.heap.size, 4, none⟩ = some (.int .u64 x.old.b) ∧ U.cell? ⟨w.heap.size, 5, none⟩ = some (.int .u64 x.old.c) ∧ U.cell? ⟨w.heap.size, 6, none⟩ = some (.int .u64 x.new.t) ∧ U.cell? ⟨w.heap.size, 7, none⟩ = some (.int .u64 x.new.a) ∧ U.cell? ⟨w.heap.size, 8, none⟩ = some (.int .u64 x.new.b) ∧ U.cell? ⟨w.heap.size, 9, none⟩ = some (.int .u64 x.new.c) ∧ U.cell? ⟨b, off + k * 4, none⟩ = some (.int .u64 y.t) ∧ U.cell? ⟨b, off + k * 4 + 1, none⟩ = some (.int .u64 y.a) ∧ U.cell? ⟨b, off + k * 4 + 2, none⟩ = some (.int .u64 y.b) ∧ U.cell? ⟨b, off + k * 4 + 3, none⟩ = some (.int .u64 y.c))
    (exact HSS.out _ (by repeat (first | exact Below.refl _ _ | assumption | (refine keepB hb ?_) | apply Below.drew | (refine moreB ?_ _) | (exact below_put4 (keepB hb (Below.drew (newB _ _))) _ _ _ _))))
    (first
      | (go_at_call 25; refine (Becomes_any y ⟨x.k, k, x.old, x.new⟩ _ H14.out.1 H14.out.2).mono ?_; rintro e w' ⟨rfl, hb⟩; (first | (have hbx := ((Box.new w2 30 [.int .u64 0, .int .u64 0, .int .u64 0, .int .u64 0]).drew).below hb; obtain ⟨z0, z1, z2, z3⟩ := box4 hbx; have y0 := hbx.f 0; have y1 := hbx.f 1; have y2 := hbx.f 2; have y3 := hbx.f 3; have HBX := Lib.hid hbx; clear hbx) | skip)))
  all_goals go_split_ands
  all_goals rename Below w2.heap.size w2 _ => hbel
  all_goals first
    | (have hbox := Box.new w' 30 [.int .u64 (becomes y x.k x.old x.new).1.t, .int .u64 (becomes y x.k x.old x.new).1.a, .int .u64 (becomes y x.k x.old x.new).1.b, .int .u64 (becomes y x.k x.old x.new).1.c]
       have HBOX := Lib.hid hbox
       clear hbox
       generalize w'.heap.size = N at *
       generalize w'.alloc _ = Z at *)
    | (have hbox := box_put4 HBX.out (.int .u64 (becomes y x.k x.old x.new).1.t) (.int .u64 (becomes y x.k x.old x.new).1.a) (.int .u64 (becomes y x.k x.old x.new).1.b) (.int .u64 (becomes y x.k x.old x.new).1.c)
       have HBOX := Lib.hid hbox
       have hNN : ∃ N, N = w2.heap.size := ⟨_, rfl⟩
       clear hbox z0 z1 z2 z3 y0 y1 y2 y3
       generalize World.setCell _ _ _ = Z at *)
  all_goals have hz := HZ.out.next hbel
  all_goals obtain ⟨z0, z1, z2, z3⟩ := own_cells hz.own hk
  all_goals have y0 := hz.own.frozenAt (k * 4)
  all_goals have y1 := hz.own.frozenAt (k * 4 + 1)
  all_goals have y2 := hz.own.frozenAt (k * 4 + 2)
  all_goals have y3 := hz.own.frozenAt (k * 4 + 3)
  all_goals obtain ⟨n0, n1, n2, n3⟩ := box4 HBOX.out
  all_goals have hs := own_stored hz.own hk (becomes y x.k x.old x.new).1
  all_goals obtain ⟨G0, G1, G2⟩ := HG1.out
  all_goals have hx4 := hz.acc.grown hs.2 (show some g1 ≠ some w.heap.size by simp; omega)
  all_goals have hr4 := hz.seen.grown hs.2 (show some g1 ≠ some (w.heap.size + 1) by simp; omega)
  all_goals have hd4 := hz.rd.grown hs.2 (fun b' off' e => by cases e; simp; omega)
  all_goals have hb4 := hz.below.grown hs.2 hz.below.size (fun j e => by cases e; omega)
  all_goals have HS4 := Lib.hid hs.1
  all_goals have HX4 := Lib.hid hx4
  all_goals have HR4 := Lib.hid hr4
  all_goals have HD4 := Lib.hid hd4
  all_goals have HB4 := Lib.hid hb4
  all_goals clear hz hs hx4 hr4 hd4 hb4 HZ HSS HBOX hbel x0 x1 x2 x3 x4 x5 x6 x7 x8 x9 c0 c1 c2 c3
  all_goals go_wp2_with fail
  all_goals clear z0 z1 z2 z3 y0 y1 y2 y3 n0 n1 n2 n3
  all_goals generalize World.setCell _ _ _ = Z4 at *
  all_goals have x1 := HX4.out.c 1 rfl
  all_goals obtain ⟨c0, c1, c2, c3⟩ := HD4.out.get HY.out
  all_goals have r0 := HR4.out.c 0 rfl
  all_goals have r1 := HR4.out.c 1 rfl
  all_goals have r2 := HR4.out.c 2 rfl
  all_goals have r3 := HR4.out.c 3 rfl
  all_goals have r4 := HR4.out.c 4 rfl
  all_goals have f0 := HR4.out.f 0
  all_goals have f1 := HR4.out.f 1
  all_goals have f2 := HR4.out.f 2
  all_goals have f3 := HR4.out.f 3
  all_goals have f4 := HR4.out.f 4
  all_goals have q1 : ¬ (w.heap.size + 1 = b) := by omega
  all_goals have q2 : ¬ (b = w.heap.size + 1) := by omega
  all_goals have HLL := Lib.hid G0
  all_goals clear G0 G1 G2 N0 N1 N2 N3
  all_goals go_region_held3 (fun U => U.cell? ⟨w.heap.size, 1, none⟩ = some (.int .i64 k) ∧ U.cell? ⟨b, off + k * 4, none⟩ = some (.int .u64 y.t) ∧ U.cell? ⟨b, off + k * 4 + 1, none⟩ = some (.int .u64 y.a) ∧ U.cell? ⟨b, off + k * 4 + 2, none⟩ = some (.int .u64 y.b) ∧ U.cell? ⟨b, off + k * 4 + 3, none⟩ = some (.int .u64 y.c)) (go_keep) (fail)
  all_goals go_split_ands
  all_goals go_wp2_with fail
  all_goals have hf := seen_fin2 HR4.out HS4.out HB4.out (show (Value.slice (some ⟨g1, 0, none⟩) l.length cap1).ownBlock ≠ some (w.heap.size + 1) by simp [Value.ownBlock]; have := HLL.out; omega) (Nat.le_succ _) (.int .u64 y.t) (.int .u64 y.a) (.int .u64 y.b) (.int .u64 y.c) (.bool (becomes y x.k x.old x.new).2)
  all_goals refine bodyPost_ret (v := .tuple #[.slice (some ⟨g1, 0, none⟩) l.length cap1, .agg #[.int .u64 y.t, .int .u64 y.a, .int .u64 y.b, .int .u64 y.c, .bool (becomes y x.k x.old x.new).2], .int .i64 0]) (hf.1.results3 rfl Try.isAgg32 Try.sizeOf32 rfl rfl rfl) rfl ⟨some ⟨g1, 0, none⟩, cap1, ?_, ?_, .inr (.inr ⟨g1, rfl, ?_⟩), hf.2.2⟩
  all_goals first
    | (rw [H2.out, H3.out]; done)
    | (rw [H1.out]; exact rd_of_own hf.2.1 (by simp))
    | (have := HLL.out; omega)

theorem rDo_any (a : Option Addr) (c : Nat) (l : List Cel) (x : Acc) (w : World) (h : Rd w a c l) (hn : l.length ≤ 100000000) : Calls Try.prog 11 #[.slice a l.length c, .agg #[.int .u8 x.k, .int .i64 x.at', .int .u64 x.old.t, .int .u64 x.old.a, .int .u64 x.old.b, .int .u64 x.old.c, .int .u64 x.new.t, .int .u64 x.new.a, .int .u64 x.new.b, .int .u64 x.new.c]] w (RDoPost a c l x w) := by
  cases hm : mayA l.length x.k x.at' with
  | false => exact rDo_no a c l x w h hm
  | true =>
    obtain ⟨h1, h4, h0, hlt⟩ := (mayA_iff _ _ _).1 hm
    obtain ⟨kd, i, o, z⟩ := x
    obtain ⟨k, rfl⟩ : ∃ k : Nat, i = k := Int.eq_ofNat_of_zero_le h0
    exact rDo_yes a c k l ⟨kd, k, o, z⟩ w h (by simp only at hlt; omega) hn h1 h4

end Go.Proofs.Ytmfkipefnacjdaa
