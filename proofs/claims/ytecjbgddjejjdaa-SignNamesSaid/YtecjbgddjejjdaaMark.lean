/- Chapter 19: mark.check, mark.at. -/
import Derived.Test.YtecjbgddjejjdaaPlainMark
import Derived.Test.YtecjbgddjejjdaaPartJ
import Derived.Test.YtecjbgddjejjdaaCellMem
namespace Go.Proofs.Ytecjbgddjejjdaa
open Go.RowKit


set_option maxRecDepth 100000 in
set_option maxHeartbeats 1600000 in
theorem check4_any (c : Cfg) (g : Nat) (v t : Int) (w : World) (hs : Box w g [.int .i64 v, .int .i64 2, .int .i64 t, .int .i64 c.thr]) :
    Calls Try.prog 82 #[.agg #[.int .u8 c.ob, .int .i64 c.inst, .int .i64 c.thr, .int .u8 c.kd, .int .i64 c.str, .int .i64 c.bits, .int .i64 c.cap, .int .i64 c.node, .int .i64 c.bat, .int .i64 c.chk, .int .u64 c.lim, .int .u64 c.most], .slice (some ⟨g, 0, none⟩) 4 4] w fun e w' => e = .returned (.int .i64 (mkE c v t)) ∧ Below w.heap.size w w' := by
  have HS := Lib.hid (hs.alloc (.cells ⟨cfgL c⟩ 37))
  clear hs
  go_enter Try.func82, Try.ntmps82
  go_wp2_with fail
  have HX := Lib.hid (Box.new w 37 (cfgL c))
  have HB := Lib.hid (newB w (.cells ⟨cfgL c⟩ 37))
  unfold cfgL at *
  generalize w.alloc _ = V at *
  refine (Check_any c V).mono ?_
  rintro e w1 ⟨rfl, hb⟩
  have HS := Lib.hid (HS.out.below hb)
  have HB := Lib.hid (keepB hb HB.out); have HX := Lib.hid (HX.out.below hb); clear hb
  have x3 := HX.out.c 3 rfl
  by_cases hm : c.May
  · rw [show checkE c = 0 by simp [checkE, hm]]
    by_cases hkd : c.kd = 1
    · have e1 : (c.kd != 1) = false := by simp [hkd]
      have s0 := HS.out.c 0 rfl
      have s1 := HS.out.c 1 rfl
      have s2 := HS.out.c 2 rfl
      have s3 := HS.out.c 3 rfl
      have hmk := And.intro hm hkd
      by_cases h1 : v < 0
      · have HE := Lib.hid (mkE_out (t := t) hmk (show ¬ (0 ≤ v ∧ v < 2 ∧ 0 ≤ t ∧ t < c.thr) by omega))
        clear hm hkd hmk
        go_wp2_with fail
        go_loop [5, 6] (fun i _ => i = .int .i64 0) (fun _ _ => 0)
        case atStart => rfl
        case round =>
          subst hrel
          go_wp2_with fail
          go_ret
          exact ⟨ret_i64 (by rw [HE.out]), HB.out⟩
      have h1' : 0 ≤ v := by omega
      by_cases h2 : 2 ≤ v
      · have HE := Lib.hid (mkE_out (t := t) hmk (show ¬ (0 ≤ v ∧ v < 2 ∧ 0 ≤ t ∧ t < c.thr) by omega))
        clear hm hkd hmk h1
        go_wp2_with fail
        go_loop [5, 6] (fun i _ => i = .int .i64 0) (fun _ _ => 0)
        case atStart => rfl
        case round =>
          subst hrel
          go_wp2_with fail
          go_ret
          exact ⟨ret_i64 (by rw [HE.out]), HB.out⟩
      have h2' : v < 2 := by omega
      by_cases h3 : t < 0
      · have HE := Lib.hid (mkE_out (v := v) hmk (show ¬ (0 ≤ v ∧ v < 2 ∧ 0 ≤ t ∧ t < c.thr) by omega))
        clear hm hkd hmk h1 h2
        go_wp2_with fail
        go_loop [5, 6] (fun i _ => i = .int .i64 0 ∨ i = .int .i64 2) (fun i _ => 4 - (intOf i).toNat)
        case atStart => exact .inl rfl
        case round =>
          rcases hrel with rfl | rfl
          · go_wp2_with fail
            go_round
            case rel => exact .inr rfl
            case measure => simp [intOf]
          · go_wp2_with fail
            go_ret
            exact ⟨ret_i64 (by rw [HE.out]), HB.out⟩
      have h3' : 0 ≤ t := by omega
      by_cases h4 : c.thr ≤ t
      · have HE := Lib.hid (mkE_out (v := v) hmk (show ¬ (0 ≤ v ∧ v < 2 ∧ 0 ≤ t ∧ t < c.thr) by omega))
        clear hm hkd hmk h1 h2 h3
        go_wp2_with fail
        go_loop [5, 6] (fun i _ => i = .int .i64 0 ∨ i = .int .i64 2) (fun i _ => 4 - (intOf i).toNat)
        case atStart => exact .inl rfl
        case round =>
          rcases hrel with rfl | rfl
          · go_wp2_with fail
            go_round
            case rel => exact .inr rfl
            case measure => simp [intOf]
          · go_wp2_with fail
            go_ret
            exact ⟨ret_i64 (by rw [HE.out]), HB.out⟩
      have h4' : t < c.thr := by omega
      have HE := Lib.hid (mkE_in (v := v) (t := t) hmk ⟨h1', h2', h3', h4'⟩)
      clear hm hkd hmk h1 h2 h3 h4
      go_wp2_with fail
      go_loop [5, 6] (fun i _ => i = .int .i64 0 ∨ i = .int .i64 2 ∨ i = .int .i64 4) (fun i _ => 6 - (intOf i).toNat)
      case atStart => exact .inl rfl
      case round =>
        rcases hrel with rfl | rfl | rfl
        · go_wp2_with fail
          go_round
          case rel => exact .inr (.inl rfl)
          case measure => simp [intOf]
        · go_wp2_with fail
          go_round
          case rel => exact .inr (.inr rfl)
          case measure => simp [intOf]
        · go_wp2_with fail
          go_ret
          exact ⟨ret_i64 (by rw [HE.out]), HB.out⟩
    · have e1 : (c.kd != 1) = true := by simp [hkd]
      have HE := Lib.hid (mkE_no (c := c) (fun h => hkd h.2) v t)
      clear hm hkd
      go_wp2_with fail
      go_ret
      exact ⟨ret_i64 (by rw [HE.out]), HB.out⟩
  · rw [show checkE c = 40 by simp [checkE, hm]]
    have HE := Lib.hid (mkE_no (c := c) (fun h => hm h.1) v t)
    clear hm
    go_wp2_with fail
    go_ret
    exact ⟨ret_i64 (by rw [HE.out]), HB.out⟩

end Go.Proofs.Ytecjbgddjejjdaa
