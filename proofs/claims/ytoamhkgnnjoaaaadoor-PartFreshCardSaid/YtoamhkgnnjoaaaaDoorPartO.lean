/- Chapter 4: the reference's Fresh. -/
import Derived.Test.YtoamhkgnnjoaaaaDoorPartN
import Derived.Test.YtoamhkgnnjoaaaaDoorCellSame
namespace Go.Proofs.YtoamhkgnnjoaaaaDoor
open Go.RowKit

theorem new4 (W : World) (a b c d : Value) (t : TypeId) : ∀ j u, ([a, b, c, d] : List Value)[j]? = some u → (W.alloc (.cells #[a, b, c, d] t)).cell? ((⟨W.heap.size, 0, none⟩ : Addr).add j) = some u := by
  intro j u hu
  have := (Box.new W t [a, b, c, d]).c j hu
  unfold Addr.add
  by_cases hj : j = 0
  · subst hj; simpa using this
  · simpa [hj] using this

theorem fresh_at (c : Cfg) (k : Nat) (h : k < allN c.shp) : (freshL c)[k]? = some (if k = 2 then ⟨c.shp.inst + 5, 0, 0, 0⟩ else .zero) := by
  unfold freshL
  rw [List.getElem?_set]
  by_cases hk : k = 2
  · subst hk
    rw [if_pos rfl, if_pos (by rw [zeros_len]; exact h), if_pos rfl]
  · rw [if_neg (fun e => hk e.symm), if_neg hk]
    simp [zerosL, h]
theorem fresh_succ (c : Cfg) (k : Nat) (h : k < allN c.shp) : celsV ((freshL c).take (k + 1)) = celsV ((freshL c).take k) ++ [.int .u64 (if k = 2 then ((c.shp.inst + 5 : Nat) : Int) else 0), .int .u64 0, .int .u64 0, .int .u64 0] := by
  rw [List.take_add_one, fresh_at c k h, celsV_app]
  by_cases hk : k = 2
  · rw [if_pos hk, if_pos hk]; rfl
  · rw [if_neg hk, if_neg hk]; rfl


set_option maxRecDepth 100000 in
set_option maxHeartbeats 3200000 in
theorem rFresh_any (c : Cfg) (w : World) (hk : 0 ≤ c.most) : Calls Tryd.prog 26 #[.agg #[.int .u8 c.ob, .int .i64 c.inst, .int .i64 c.thr, .int .u8 c.kd, .int .i64 c.str, .int .i64 c.bits, .int .i64 c.cap, .int .i64 c.node, .int .i64 c.bat, .int .i64 c.chk, .int .u64 c.lim, .int .u64 c.most]] w (FreshPost c w) := by
  obtain ⟨k0, hk0, hq0, hq1, hq2⟩ := info_parts infoCell
  have HK := Lib.hid hk
  clear hk
  go_enter Tryd.func26, Tryd.ntmps26
  go_wp2_with fail
  have HX := Lib.hid (Box.new w 24 (cfgL c))
  have HB := Lib.hid (newB w (.cells ⟨cfgL c⟩ 24))
  unfold cfgL at *
  generalize w.alloc _ = V at *
  refine (MayBe_any c V HK.out).mono ?_
  rintro e w1 ⟨rfl, hb⟩
  have HB := Lib.hid (keepB hb HB.out); have HX := Lib.hid (HX.out.below hb); clear hb
  by_cases hm : c.May
  · have E2 := Lib.hid (show checkE c = 0 by simp [checkE, hm])
    have E1 := Lib.hid (show frL c = freshL c by simp [frL, hm])
    rw [show mayC c = true from (mayC_iff c).2 hm]
    have HM := Lib.hid hm
    have s2 := Lib.hid (shp_inst hm)
    have hS := May.small hm
    obtain ⟨a1, a2, _⟩ := all_le hS
    have HL := Lib.hid (freshL_len c)
    have HSU := Lib.hid (fresh_succ c)
    have hi1 : 2 ≤ c.shp.inst := hS.inst2
    have hi2 : c.shp.inst ≤ 4 := hS.inst
    have HA := Lib.hid (fun W => All_any c W hm)
    have HW := Lib.hid (show w.heap.size < w1.heap.size from HX.out.lt)
    clear hm hS
    generalize allN c.shp = n at *
    go_wp2_with fail
    go_loopw [4, 5] (fun v i wr => ∃ k : Nat, k ≤ n ∧ i = .int .i64 k ∧ wr.ownsRow (w.heap.size + 1) 58 4 v k (celsV ((freshL c).take k)) ∧ Below w.heap.size w wr ∧ Box wr w.heap.size (cfgL c)) (fun _ i _ => n - (intOf i).toNat)
    case atStart => exact ⟨0, Nat.zero_le _, rfl, World.ownsRow_nil _ _ _ _, HB.out, HX.out⟩
    case round =>
      clear HX HB
      obtain ⟨k, hk, rfl, hown, hb0, hx⟩ := hrel
      have HS := Lib.hid hown
      have HB := Lib.hid hb0
      have HX := Lib.hid hx
      clear hown hb0 hx
      have x0 := HX.out.c 0 rfl; have x1 := HX.out.c 1 rfl; have x2 := HX.out.c 2 rfl; have x3 := HX.out.c 3 rfl; have x4 := HX.out.c 4 rfl; have x5 := HX.out.c 5 rfl; have x6 := HX.out.c 6 rfl; have x7 := HX.out.c 7 rfl; have x8 := HX.out.c 8 rfl; have x9 := HX.out.c 9 rfl; have x10 := HX.out.c 10 rfl; have x11 := HX.out.c 11 rfl
      by_cases hlt : k < n
      · have hlt' : (k : Int) < (n : Int) := by omega
        have HSU1 := Lib.hid (HSU.out k hlt)
        generalize hnn : (n : Int) = ni at *
        go_wp2_with fail
        refine (HA.out wr).mono ?_
        rintro e w2 ⟨rfl, hb⟩
        have HS := Lib.hid (own_below HS.out hb)
        clear x0 x1 x2 x3 x4 x5 x6 x7 x8 x9 x10 x11
        have HB := Lib.hid (keepB hb HB.out); have HX := Lib.hid (HX.out.below hb); clear hb
        by_cases h2 : k = 2
        · subst h2
          have y1 : ∀ o, (w2.alloc o).cell? ⟨w.heap.size, 1, none⟩ = some (.int .i64 c.shp.inst) := fun o => by
            have := (HX.out.alloc o).c 1 rfl
            rwa [← s2.out] at this
          have HT := Lib.hid (show celsV ((freshL c).take (2 + 1)) = celsV ((freshL c).take 2) ++ [.int .u64 ((c.shp.inst : Int) + 5), .int .u64 0, .int .u64 0, .int .u64 0] from by rw [HSU1.out]; rfl)
          go_wp2_with (at_builtin; refine wpList_append_own _ rfl _ _ 39 rfl (w.heap.size + 1) 58 k0 (.agg #[.int .u64 0, .int .u64 0, .int .u64 0, .int .u64 0]) 4 32 Tryd.underlying39 hk0 hq0 hq1 hq2 rfl (by decide) _ _ _ rfl (World.ownsRow.alloc (World.ownsRow.alloc HS.out _) _) ⟨w2.heap.size + 1, 0, none⟩ 1 1 [.int .u64 ((c.shp.inst : Int) + 5), .int .u64 0, .int .u64 0, .int .u64 0] rfl rfl (by have h5 := new4 (w2.alloc (.cells #[.int .u64 ((c.shp.inst : Int) + 5), .int .u64 0, .int .u64 0, .int .u64 0] 58)) (.int .u64 ((c.shp.inst : Int) + 5)) (.int .u64 0) (.int .u64 0) (.int .u64 0) 58; rw [World.size_alloc] at h5; exact h5) (by simp [Value.oneCell']) (by unfold maxLen; omega) (by omega) (by have := HB.out.size; have := HX.out.lt; simp; omega) ?_; intro v' w3 hown1 hgrow1 _; have hm3 := ((HX.out.alloc _).alloc _).grown hgrow1 (fun e => by have := (World.ownsRow.lt HS.out _ e).1; omega); have hb3 := (moreB (moreB HB.out _) _).grown hgrow1 (by have := HB.out.size; simp; omega) (fun j e => by have := (World.ownsRow.lt HS.out j e).1; omega); have HM4 := Lib.hid hm3; have HB4 := Lib.hid hb3; have HS4 := Lib.hid hown1; clear hown1 hgrow1 hm3 hb3)
          go_roundw
          case rel => exact ⟨2 + 1, by omega, by go_num, by rw [HT.out]; exact HS4.out, HB4.out, HM4.out⟩
          case measure => simp [intOf]; omega
        · have e2 : ((k : Int) == 2) = false := by simp; omega
          have HT := Lib.hid (show celsV ((freshL c).take (k + 1)) = celsV ((freshL c).take k) ++ [.int .u64 0, .int .u64 0, .int .u64 0, .int .u64 0] from by rw [HSU1.out, if_neg h2])
          clear h2
          go_wp2_with (at_builtin; refine wpList_append_own _ rfl _ _ 39 rfl (w.heap.size + 1) 58 k0 (.agg #[.int .u64 0, .int .u64 0, .int .u64 0, .int .u64 0]) 4 32 Tryd.underlying39 hk0 hq0 hq1 hq2 rfl (by decide) _ _ _ rfl (World.ownsRow.alloc (World.ownsRow.alloc HS.out _) _) ⟨w2.heap.size + 1, 0, none⟩ 1 1 [.int .u64 (0), .int .u64 0, .int .u64 0, .int .u64 0] rfl rfl (by have h5 := new4 (w2.alloc (.cells #[.int .u64 (0), .int .u64 0, .int .u64 0, .int .u64 0] 58)) (.int .u64 (0)) (.int .u64 0) (.int .u64 0) (.int .u64 0) 58; rw [World.size_alloc] at h5; exact h5) (by simp [Value.oneCell']) (by unfold maxLen; omega) (by omega) (by have := HB.out.size; have := HX.out.lt; simp; omega) ?_; intro v' w3 hown1 hgrow1 _; have hm3 := ((HX.out.alloc _).alloc _).grown hgrow1 (fun e => by have := (World.ownsRow.lt HS.out _ e).1; omega); have hb3 := (moreB (moreB HB.out _) _).grown hgrow1 (by have := HB.out.size; simp; omega) (fun j e => by have := (World.ownsRow.lt HS.out j e).1; omega); have HM4 := Lib.hid hm3; have HB4 := Lib.hid hb3; have HS4 := Lib.hid hown1; clear hown1 hgrow1 hm3 hb3)
          go_roundw
          case rel => exact ⟨k + 1, by omega, by go_num, by rw [HT.out]; exact HS4.out, HB4.out, HM4.out⟩
          case measure => simp [intOf]; omega
      · obtain rfl : k = n := by omega
        go_wp2_with fail
        refine (HA.out wr).mono ?_
        rintro e w2 ⟨rfl, hb⟩
        have HS2 := Lib.hid (own_below HS.out hb)
        clear x0 x1 x2 x3 x4 x5 x6 x7 x8 x9 x10 x11
        have HB := Lib.hid (keepB hb HB.out); have HX := Lib.hid (HX.out.below hb); clear hb
        go_wp2_with fail
        go_ret2
        have hs := HS2.out
        rw [← HL.out, List.take_length] at hs
        obtain ⟨a, cap, rfl, hrd, _⟩ := own_form hs
        exact ⟨a, cap, by rw [E1.out, E2.out]; rfl, by rw [E1.out]; exact hrd, HB.out⟩
  · have E2 := Lib.hid (show checkE c = 40 by simp [checkE, hm])
    have E1 := Lib.hid (show frL c = [] by simp [frL, hm])
    rw [show mayC c = false from by simp [mayC, hm]]
    clear hm
    have x0 := HX.out.c 0 rfl; have x1 := HX.out.c 1 rfl; have x2 := HX.out.c 2 rfl; have x3 := HX.out.c 3 rfl; have x4 := HX.out.c 4 rfl; have x5 := HX.out.c 5 rfl; have x6 := HX.out.c 6 rfl; have x7 := HX.out.c 7 rfl; have x8 := HX.out.c 8 rfl; have x9 := HX.out.c 9 rfl; have x10 := HX.out.c 10 rfl; have x11 := HX.out.c 11 rfl
    go_wp2_with fail
    go_ret2
    exact ⟨none, 0, by rw [E1.out, E2.out]; rfl, by rw [E1.out]; exact ⟨fun _ => ⟨rfl, rfl⟩, .inl rfl⟩, HB.out⟩

end Go.Proofs.YtoamhkgnnjoaaaaDoor
