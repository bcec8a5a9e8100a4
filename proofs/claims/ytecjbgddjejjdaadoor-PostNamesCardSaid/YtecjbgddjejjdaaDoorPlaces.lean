/- The iterator of package pack: its contract. -/
import Derived.Test.YtecjbgddjejjdaaDoorPack
import Derived.Test.YtecjbgddjejjdaaDoorRange
import Derived.Test.YtecjbgddjejjdaaDoorPlainPlaces
import Derived.Shelf.Abstract
import Derived.Shelf.RegionOpen
import Derived.OwnWalkIn
import Derived.TacticsInMore
import Derived.LoopNIn
import Derived.LoopIn
import Derived.Deep.RegionLaw
import Derived.Deep.RegionHeld3
namespace Go.Proofs.YtecjbgddjejjdaaDoor
open Go.RowKit Go.Shelf

set_option maxHeartbeats 400000 in
theorem next_no (p b : Int) (ba : Nat) (w : World) (hm : mayB p b = false) (hc : w.cell? ⟨ba, 0, none⟩ = some (.int .i64 p))
    (hb : -9223372036854775808 ≤ b) (hb' : b ≤ 9223372036854775807) :
    Calls Tryd.prog 79 #[.int .i64 b, .pointer (some ⟨ba, 0, none⟩)] w fun e w' => e = .returned (.int .i64 (-1)) ∧ w = w' := by
  go_enter Tryd.func79, Tryd.ntmps79
  go_wp2_with (go_at_call 80; refine (may_any _ _ _ hb hb').mono ?_; rintro e w' ⟨rfl, rfl⟩)
  go_ret
  exact ⟨rfl, rfl⟩

set_option maxHeartbeats 400000 in
theorem next_yes (p b : Int) (ba : Nat) (w : World) (hm : mayB p b = true) (hc : w.cell? ⟨ba, 0, none⟩ = some (.int .i64 p)) (hf : w.frozen? ⟨ba, 0, none⟩ = false)
    (hb : -9223372036854775808 ≤ b) (hb' : b ≤ 9223372036854775807) :
    Calls Tryd.prog 79 #[.int .i64 b, .pointer (some ⟨ba, 0, none⟩)] w fun e w' => e = .returned (.int .i64 p) ∧ w.setCell ⟨ba, 0, none⟩ (.int .i64 (p + b)) = w' := by
  obtain ⟨h1, h2, h3, h4⟩ := (mayB_iff p b).1 hm
  go_enter Tryd.func79, Tryd.ntmps79
  go_wp2_with (go_at_call 80; refine (may_any _ _ _ hb hb').mono ?_; rintro e w' ⟨rfl, rfl⟩)
  go_ret
  exact ⟨rfl, rfl⟩

/-- What a round that goes on keeps of the iterator's: these blocks. -/
def KpB (ks : Nat → Prop) (W W' : World) : Prop := W.heap.size ≤ W'.heap.size ∧ ∀ k, ks k → W'.heap[k]? = W.heap[k]?

/-- How the world stands between two rounds, from the iterator's side: of its blocks all are as they were, but for the place. -/
structure PlW (ks : Nat → Prop) (ba : Nat) (w W : World) : Prop where
  size : w.heap.size ≤ W.heap.size
  same : ∀ k, ks k → k ≠ ba → W.heap[k]? = w.heap[k]?
  free : W.frozen? ⟨ba, 0, none⟩ = false

theorem PlW.keep {ks : Nat → Prop} {ba : Nat} {w W W' : World} (h : PlW ks ba w W) (k : KpB ks W W') (hba : ks ba) : PlW ks ba w W' :=
  ⟨Nat.le_trans h.size k.1, fun j hj hne => (k.2 j hj).trans (h.same j hj hne), (World.frozen?_of_block (a := ⟨ba, 0, none⟩) (k.2 ba hba)).trans h.free⟩

theorem PlW.put {ks : Nat → Prop} {ba : Nat} {w W : World} (h : PlW ks ba w W) (v : Value) : PlW ks ba w (W.setCell ⟨ba, 0, none⟩ v) :=
  ⟨by simpa [World.setCell] using h.size, fun j hj hne => (Below.heap_setCell W ⟨ba, 0, none⟩ v j hne).trans (h.same j hj hne), by rw [World.frozen?_setCell]; exact h.free⟩

theorem PlW.drew {ks : Nat → Prop} {ba : Nat} {w W : World} (h : PlW ks ba w W) : PlW ks ba w W.drew := ⟨h.size, h.same, h.free⟩

theorem PlW.drewN {ks : Nat → Prop} {ba : Nat} {w W : World} (h : PlW ks ba w W) (n : Nat) : PlW ks ba w (W.drewN n) := ⟨h.size, h.same, h.free⟩

theorem PlW.cell {ks : Nat → Prop} {ba : Nat} {w W : World} (h : PlW ks ba w W) {b : Nat} (hb : ks b) (hne : b ≠ ba) (o : Nat) : W.cell? ⟨b, o, none⟩ = w.cell? ⟨b, o, none⟩ :=
  World.cell?_of_block (a := ⟨b, o, none⟩) (h.same b hb hne)

theorem grown_drewP (W : World) (row : Option Nat) : W.grownBy W.drew row := ⟨rfl, rfl, rfl, Nat.le_refl _, fun _ _ _ => rfl⟩
theorem grown_set (W : World) (b o : Nat) (v : Value) : W.grownBy (W.setCell ⟨b, o, none⟩ v).drew (some b) :=
  ⟨rfl, rfl, rfl, by show _ ≤ (W.setCell _ _).heap.size; simp [World.setCell], fun k _ hk => Below.heap_setCell W ⟨b, o, none⟩ v k (fun e => hk (by rw [e]))⟩

/-- What the function that tells the bits answers, in whatever world that the rounds lead to. -/
def BitsAt (P : Program) (kb bl : Nat) (ks : Nat → Prop) (ba : Nat) (n : Nat) (bs : Nat → Int) (w : World) : Prop :=
  ∀ (i : Nat) (W : World), i < n → PlW ks ba w W → Calls P kb #[.int .i64 i, .pointer (some ⟨bl, 0, none⟩)] W fun e W' => e = .returned (.int .i64 (bs i)) ∧ W = W'

set_option maxHeartbeats 1000000 in
theorem pplaces_seq (n : Nat) (bs : Nat → Int) (bm ba bn bb kb bl : Nat) (ks : Nat → Prop) (w : World) (hn : n ≤ 9223372036854775807)
    (hlo : ∀ i, i < n → -9223372036854775808 ≤ bs i) (hhi : ∀ i, i < n → bs i ≤ 9223372036854775807)
    (km : ks bm) (ka : ks ba) (kn : ks bn) (kbb : ks bb) (nm : bm ≠ ba) (nn : bn ≠ ba) (nb : bb ≠ ba) (hlt : ∀ k, ks k → k < w.heap.size)
    (cm : w.cell? ⟨bm, 0, none⟩ = some (.int .i64 n)) (ca : w.cell? ⟨ba, 0, none⟩ = some (.int .i64 0)) (fa : w.frozen? ⟨ba, 0, none⟩ = false)
    (cn : w.cell? ⟨bn, 0, none⟩ = some (.func (.func 79) #[] #[.pointer (some ⟨ba, 0, none⟩)])) (cb : w.cell? ⟨bb, 0, none⟩ = some (.func (.func kb) #[] #[.pointer (some ⟨bl, 0, none⟩)]))
    (heb : ∀ args w, (callFunc kb args).run Tryd.prog w = .ok (.enter kb args) w)
    (hbits : BitsAt Tryd.prog kb bl ks ba n bs w) :
    SeqL Tryd.prog 81 #[.pointer (some ⟨bm, 0, none⟩), .pointer (some ⟨bn, 0, none⟩), .pointer (some ⟨bb, 0, none⟩)] (fun (x : Int × Int) => #[.int .i64 x.1, .int .i64 x.2]) (KpB ks) (some ba) (placesFrom bs n 0 0) w := by
  intro l J Jx W hW sJ sJx hY h0
  have pw0 : PlW ks ba w W := ⟨hW.size, fun k hk _ => hW.block k (hlt k hk), (hW.frozen (p := ⟨ba, 0, none⟩) (hlt ba ka)).trans fa⟩
  have ca0 : W.cell? ⟨ba, 0, none⟩ = some (.int .i64 0) := (hW.cell (p := ⟨ba, 0, none⟩) (hlt ba ka)).trans ca
  refine callsIn_of_wp Tryd.func81 rfl trivial ?_ rfl
  simp only [Tryd.ntmps81, List.size_toArray, List.length_cons, List.length_nil, Nat.reduceAdd, Nat.reduceSub, Array.replicate_succ, Array.replicate_zero, List.push_toArray, List.append_toArray, List.nil_append, List.cons_append]
  have cm0 := (pw0.cell km nm 0).trans cm
  clear hW
  gi_wp2
  gi_loopw [8] (fun c wr => ∃ (k i : Nat) (pre : List (Int × Int)) (p : Int), i + k = n ∧ c = .int .i64 i ∧ placesFrom bs n 0 0 = pre ++ placesFrom bs k i p ∧ J pre wr ∧ PlW ks ba w wr ∧ wr.cell? ⟨ba, 0, none⟩ = some (.int .i64 p) ∧ 0 ≤ p ∧ p ≤ 64) (fun c _ => n - (intOf c).toNat)
  case atStart => exact ⟨n, 0, [], 0, by omega, rfl, rfl, h0, pw0, ca0, by omega, by omega⟩
  case round =>
    obtain ⟨k, i, pre, p, hik, rfl, hL, hJ, hpw, hca, hp0, hp1⟩ := hrel
    cases k with
    | zero =>
      have hge : ¬ (i : Int) < (n : Int) := by omega
      have HL := Lib.hid hL; clear hL
      gi_wp2
      go_end0
      refine ⟨⟨_, rfl⟩, .inl ?_⟩
      rw [HL.out]
      simpa [placesFrom] using hJ
    | succ k =>
      have hin : i < n := by omega
      have h1 := hlo i hin
      have h2 := hhi i hin
      have cn1 := (hpw.cell kn nn 0).trans cn
      have cb1 := (hpw.cell kbb nb 0).trans cb
      have hfa := hpw.free
      clear cm cn cb ca fa ca0 cm0 h0 pw0
      have hB1 := Lib.hid (fun W (hW : PlW ks ba w W) => hbits i W hin hW)
      generalize hb : bs i = b at *
      have HB := Lib.hid hb; clear hb hbits
      cases hm : mayB p b with
      | false =>
        rw [placesFrom_no (by rw [HB.out]; exact hm)] at hL
        obtain ⟨fn, tmps, assign, body, hy, hR⟩ := hY pre ((i : Int), -1) [] wr.drew hL (sJ _ _ _ hJ (grown_drewP _ _))
        dsimp only at hy
        have HL := Lib.hid hL; clear hL hY
        have HR := Lib.hid hR; clear hR
        gi_wp2_with fail
        refine wpIn_wide.2 ?_
        go_region_held3 (fun V => V.cell? ⟨bn, 0, none⟩ = some (.func (.func 79) #[] #[.pointer (some ⟨ba, 0, none⟩)]) ∧ V.cell? ⟨bb, 0, none⟩ = some (.func (.func kb) #[] #[.pointer (some ⟨bl, 0, none⟩)])) (simp [go_sem, cn1, cb1])
          (first | (((with_reducible refine (hB1.out _ (by exact hpw.drew)).mono ?_); rintro e w' ⟨rfl, rfl⟩)) | (((with_reducible refine (next_no p b ba _ hm (by simpa using hca) h1 h2).mono ?_); rintro e w' ⟨rfl, rfl⟩)))
        gi_wp2
        refine ⟨rfl, HR.out.mono ?_⟩
        rintro e W' (⟨rfl, hJ', hk⟩ | ⟨rfl, hJx'⟩)
        · gi_wp2
          refine bodyPost_ret (results_none rfl _ _ _) rfl ⟨⟨_, rfl⟩, .inl ?_⟩
          rw [HL.out]
          exact hJ'
        · gi_wp2
          refine bodyPost_ret (results_none rfl _ _ _) rfl ⟨⟨_, rfl⟩, .inr ?_⟩
          exact ⟨pre, _, [], HL.out, hJx'⟩
      | true =>
        rw [placesFrom_yes (by rw [HB.out]; exact hm), HB.out] at hL
        obtain ⟨m1, m2, m3, m4⟩ := (mayB_iff p b).1 hm
        obtain ⟨fn, tmps, assign, body, hy, hR⟩ := hY pre ((i : Int), p) _ (wr.setCell ⟨ba, 0, none⟩ (.int .i64 (p + b))).drew hL (sJ _ _ _ hJ (grown_set _ _ _ _))
        dsimp only at hy
        have hpw2 := (hpw.put (.int .i64 (p + b))).drew
        have hca2 : (wr.setCell ⟨ba, 0, none⟩ (.int .i64 (p + b))).drew.cell? ⟨ba, 0, none⟩ = some (.int .i64 (p + b)) := World.cell?_setCell_same' _ _ _ (by rw [hca]; rfl)
        have HL := Lib.hid hL; clear hL hY
        have HR := Lib.hid hR; clear hR
        have HC := Lib.hid hca2; clear hca2
        gi_wp2_with fail
        refine wpIn_wide.2 ?_
        go_region_held3 (fun V => V.cell? ⟨bn, 0, none⟩ = some (.func (.func 79) #[] #[.pointer (some ⟨ba, 0, none⟩)]) ∧ V.cell? ⟨bb, 0, none⟩ = some (.func (.func kb) #[] #[.pointer (some ⟨bl, 0, none⟩)])) (simp [go_sem, cn1, cb1])
          (first | (((with_reducible refine (hB1.out _ (by exact hpw.drew)).mono ?_); rintro e w' ⟨rfl, rfl⟩)) | (((with_reducible refine (next_yes p b ba _ hm (by simpa using hca) (by simpa using hfa) h1 h2).mono ?_); rintro e w' ⟨rfl, rfl⟩)))
        gi_wp2
        refine ⟨rfl, HR.out.mono ?_⟩
        rintro e W' (⟨rfl, hJ', hk⟩ | ⟨rfl, hJx'⟩)
        · have hca3 : W'.cell? ⟨ba, 0, none⟩ = some (.int .i64 (p + b)) := (World.cell?_of_block (a := ⟨ba, 0, none⟩) (hk.2 ba ka)).trans HC.out
          have hpw3 := hpw2.keep hk ka
          clear hca hpw hpw2 cn1 cb1 hfa
          gi_wp2
          go_roundw
          case rel => exact ⟨k, i + 1, pre ++ [((i : Int), p)], p + b, by omega, by go_num, by rw [HL.out]; simp, hJ', hpw3, hca3, by omega, by omega⟩
          case measure => simp [intOf]; omega
        · gi_wp2
          refine bodyPost_ret (results_none rfl _ _ _) rfl ⟨⟨_, rfl⟩, .inr ?_⟩
          exact ⟨pre, _, _, HL.out, hJx'⟩

end Go.Proofs.YtecjbgddjejjdaaDoor
