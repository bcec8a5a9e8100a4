/- Chapter 4: the iterator of a memory's places. -/
import Derived.Test.YtecjbgddjejjdaaPartC
import Derived.Test.YtecjbgddjejjdaaPartE
import Derived.Test.YtecjbgddjejjdaaRangeB
namespace Go.Proofs.Ytecjbgddjejjdaa
open Go.RowKit

theorem KpO.cell {own : Nat → Prop} {A B : World} (h : KpO own A B) {a : Addr} {v : Value} (ha : ¬ own a.block) (hc : A.cell? a = some v) : B.cell? a = some v := by
  have hlt := World.block_lt_of_cell? A a hc
  obtain ⟨o, ho⟩ : ∃ o, A.heap[a.block]? = some o := ⟨_, Array.getElem?_eq_getElem hlt⟩
  have hcells : o.isCells = true := by
    unfold World.cell? at hc
    simp only [ho] at hc
    cases o <;> simp_all [Obj.isCells]
  exact (World.cell?_of_block ((h.2 _ _ ha ho hcells).trans ho.symm)).trans hc
theorem grown_below {A B : World} (h : Below A.heap.size A B) : A.grownBy B none := ⟨h.os, h.tape, h.output, h.size, fun k hk _ => h.block k hk⟩
theorem KpO.pw {own : Nat → Prop} {c : Cfg} {A B : World} (h : KpO own A B) (hg : c.ob = 2 → ¬ own 0) (hp : PwO c A) : PwO c B := fun e => have hp := hp e; have hg := hg e; fun i hi j hj => h.cell (a := ⟨0, i * 5 + j, none⟩) hg (hp i hi j hj)

theorem each_to (own : Nat → Prop) (l by' : Nat) (J Jx : List Pl → World → Prop) (L pre M rest : List Pl) (k fr n m : Nat) (w : World) (hM : eachL k fr n m = M) (hL : L = pre ++ M ++ rest) (hR : Rounds own l J Jx L) (hJ : J pre w)
    (hby : ¬ own by') (hb : Box w by' [.func (.yield l) #[] #[]]) (h1 : fr + n ≤ 1000) (h2 : m ≤ 1000) :
    Calls Try.prog 86 #[.int .u8 k, .int .i64 fr, .int .i64 n, .int .i64 m, .pointer (some ⟨by', 0, none⟩)] w (EachPost own J Jx L pre M w) := by
  subst hM
  exact each_any own l by' J Jx L pre rest k fr n m w hL hR hJ hby hb h1 h2

theorem inst_split (s : Shp) : ∀ (n i : Nat), i < n → ∃ r, instL s n = instL s i ++ eachL 9 i 1 1 ++ (eachL 10 i 1 s.size ++ r)
  | 0, _, h => by omega
  | n + 1, i, h => by
    by_cases hi : i = n
    · subst hi; exact ⟨[], by simp [instL]⟩
    · obtain ⟨r, hr⟩ := inst_split s n i (by omega)
      exact ⟨r ++ (eachL 9 n 1 1 ++ eachL 10 n 1 s.size), by simp only [instL, hr, List.append_assoc]⟩

def SeqPost (J Jx : List Pl → World → Prop) (L : List Pl) (e : Ending) (W' : World) : Prop := (∃ v, e = .returned v) ∧ (J L W' ∨ Stopped Jx L W')
def LoopSt (J Jx : List Pl → World → Prop) (L pre : List Pl) (s : Shp) (b : Bool) (n : Nat) (W : World) : Prop := (b = true ∧ J (pre ++ instL s n) W) ∨ (b = false ∧ Stopped Jx L W)

/-- A config's cells, its counts as natural numbers. -/
def cfgS (c : Cfg) : List Value := [.int .u8 c.ob, .int .i64 c.shp.inst, .int .i64 c.shp.thr, .int .u8 c.kd, .int .i64 c.shp.str, .int .i64 c.bits, .int .i64 c.cap, .int .i64 c.node, .int .i64 c.bat, .int .i64 c.chk, .int .u64 c.lim, .int .u64 c.most]
theorem cfgS_eq {c : Cfg} (hm : c.May) : cfgL c = cfgS c := by
  unfold cfgL cfgS
  rw [shp_thr hm, shp_inst hm, shp_str hm]

set_option maxHeartbeats 12800000 in
theorem places_slots (c : Cfg) (bc l : Nat) (own : Nat → Prop) (J Jx : List Pl → World → Prop) (W : World) (hm : c.May) (hkd : (c.kd == 1) = true) (hsl : c.shp.slots = true) (hp : PwO c W) (hbox : Box W bc (cfgL c)) (hO : ¬ own W.heap.size) (hbc : ¬ own bc) (hpg : c.ob = 2 → ¬ own 0)
    (sJ : ∀ s A B, J s A → A.grownBy B none → J s B) (hR : Rounds own l J Jx (placesL c.shp)) (h0 : J [] W) :
    Calls Try.prog 85 #[.func (.yield l) #[] #[], .pointer (some ⟨bc, 0, none⟩)] W (SeqPost J Jx (placesL c.shp)) := by
  have hmf : ∀ (fn : Fn) (first cap : Array Value) (w : World), (Instr.makeFunc fn first cap).run Try.prog w = .ok (.func fn first cap) w := fun _ _ _ _ => rfl
  have s1 := shp_thr hm
  have s2 := shp_inst hm
  have s3 := shp_str hm
  have HU : ∀ U, PwO c U → Calls Try.prog 87 #[.agg ⟨cfgS c⟩] U fun e w' => e = .returned (.int .i64 (greatN c)) ∧ Below U.heap.size U w' := fun U hu => by
    rw [← cfgS_eq hm]
    exact size_any c U hm hu
  unfold cfgS at HU
  have HU := Lib.hid HU
  have hS := May.small hm
  have z1 := hS.thr
  have z2 := hS.str
  have z3 := hS.inst
  have z4 := hS.size
  have z5 := hS.inst2
  have hgr : greatN c = c.shp.size := rfl
  have hL : placesL c.shp = (eachL 1 0 1 1 ++ eachL 2 0 1 1 ++ eachL 3 0 1 1 ++ eachL 4 0 c.shp.thr 1 ++ eachL 5 0 c.shp.thr 1) ++ eachL 6 0 2 c.shp.thr ++ instL c.shp c.shp.inst := by unfold placesL headL marksL; rw [hsl]; rfl
  generalize placesL c.shp = L at *
  obtain ⟨E1, hE1⟩ : ∃ E, eachL 1 0 1 1 = E := ⟨_, rfl⟩
  obtain ⟨E2, hE2⟩ : ∃ E, eachL 2 0 1 1 = E := ⟨_, rfl⟩
  obtain ⟨E3, hE3⟩ : ∃ E, eachL 3 0 1 1 = E := ⟨_, rfl⟩
  obtain ⟨E4, hE4⟩ : ∃ E, eachL 4 0 c.shp.thr 1 = E := ⟨_, rfl⟩
  obtain ⟨E5, hE5⟩ : ∃ E, eachL 5 0 c.shp.thr 1 = E := ⟨_, rfl⟩
  obtain ⟨E6, hE6⟩ : ∃ E, eachL 6 0 2 c.shp.thr = E := ⟨_, rfl⟩
  rw [hE1, hE2, hE3, hE4, hE5, hE6] at hL
  have HE1 := Lib.hid hE1
  clear hE1
  have HE2 := Lib.hid hE2
  clear hE2
  have HE3 := Lib.hid hE3
  clear hE3
  have HE4 := Lib.hid hE4
  clear hE4
  have HE5 := Lib.hid hE5
  clear hE5
  have HE6 := Lib.hid hE6
  clear hE6
  have HL1 := Lib.hid (show L = [] ++ E1 ++ (E2 ++ E3 ++ E4 ++ E5 ++ E6 ++ instL c.shp c.shp.inst) by rw [hL]; simp only [List.append_assoc, List.nil_append])
  have HL2 := Lib.hid (show L = (([] ++ E1)) ++ E2 ++ (E3 ++ E4 ++ E5 ++ E6 ++ instL c.shp c.shp.inst) by rw [hL]; simp only [List.append_assoc, List.nil_append])
  have HL3 := Lib.hid (show L = (([] ++ E1) ++ E2) ++ E3 ++ (E4 ++ E5 ++ E6 ++ instL c.shp c.shp.inst) by rw [hL]; simp only [List.append_assoc, List.nil_append])
  have HL4 := Lib.hid (show L = (([] ++ E1) ++ E2 ++ E3) ++ E4 ++ (E5 ++ E6 ++ instL c.shp c.shp.inst) by rw [hL]; simp only [List.append_assoc, List.nil_append])
  have HL5 := Lib.hid (show L = (([] ++ E1) ++ E2 ++ E3 ++ E4) ++ E5 ++ (E6 ++ instL c.shp c.shp.inst) by rw [hL]; simp only [List.append_assoc, List.nil_append])
  have HL6 := Lib.hid (show L = (([] ++ E1) ++ E2 ++ E3 ++ E4 ++ E5) ++ E6 ++ (instL c.shp c.shp.inst) by rw [hL]; simp only [List.append_assoc, List.nil_append])
  have HLL := Lib.hid (show L = (([] ++ E1) ++ E2 ++ E3 ++ E4 ++ E5 ++ E6) ++ instL c.shp c.shp.inst by rw [hL]; simp only [List.append_assoc, List.nil_append])
  have HSJ := Lib.hid sJ
  have HR := Lib.hid hR
  have hbox := hbox.as (cfgS_eq hm)
  have hy := Box.new W 113 [.func (.yield l) #[] #[]]
  have HJ := Lib.hid (sJ _ _ _ h0 (World.grownBy_alloc W (.cells #[.func (.yield l) #[] #[]] 113) none))
  have hbx := hbox.alloc (.cells #[.func (.yield l) #[] #[]] 113)
  have hpw := hp.more (newB W (.cells #[.func (.yield l) #[] #[]] 113))
  clear hm sJ hR h0 hbox hp hL hS s1 s2 s3 hsl
  go_enter Try.func85, Try.ntmps85
  go_wp2_with fail
  generalize World.alloc _ _ = V at *
  have HP := Lib.hid hpw
  have HX := Lib.hid hbx
  have HY := Lib.hid hy
  have x0 := hbx.c 0 rfl
  have x1 := hbx.c 1 rfl
  have x2 := hbx.c 2 rfl
  have x3 := hbx.c 3 rfl
  have x4 := hbx.c 4 rfl
  have x5 := hbx.c 5 rfl
  have x6 := hbx.c 6 rfl
  have x7 := hbx.c 7 rfl
  have x8 := hbx.c 8 rfl
  have x9 := hbx.c 9 rfl
  have x10 := hbx.c 10 rfl
  have x11 := hbx.c 11 rfl
  clear hpw hbx hy
  refine (each_to own l W.heap.size J Jx L ([]) (E1) (E2 ++ E3 ++ E4 ++ E5 ++ E6 ++ instL c.shp c.shp.inst) 1 0 1 1 _ HE1.out HL1.out HR.out HJ.out hO HY.out (by omega) (by omega)).mono ?_
  clear x0 x1 x2 x3 x4 x5 x6 x7 x8 x9 x10 x11
  rintro e w1 (⟨rfl, hJ, hK⟩ | ⟨rfl, hX, hK⟩)
  rotate_left
  · have hX2 := hK.box hbc HX.out
    have x1 := hX2.c 1 rfl
    have x3 := hX2.c 3 rfl
    have HT := Lib.hid hX
    clear hX2 hX hK HJ HP HX HY
    obtain ⟨U, hU⟩ : ∃ U, U = w1 := ⟨_, rfl⟩
    have HU := Lib.hid hU
    clear hU
    go_wp2_with fail
    go_loopw [4, 5] (fun o i wr => o = .bool false ∧ i = .int .i64 0 ∧ wr = U) (fun _ _ _ => 0)
    case atStart => exact ⟨rfl, rfl, HU.out.symm⟩
    case round =>
      obtain ⟨rfl, rfl, hw⟩ := hrel
      rw [HU.out] at hw
      subst hw
      go_wp2_with fail
      exact bodyPost_ret (results_none rfl _ _ _) rfl ⟨⟨_, rfl⟩, .inr HT.out⟩
  have HJ := Lib.hid hJ
  have HP := Lib.hid (hK.pw hpg HP.out)
  have hbx := hK.box hbc HX.out
  have HX := Lib.hid hbx
  have HY := Lib.hid (hK.box hO HY.out)
  have x0 := hbx.c 0 rfl
  have x1 := hbx.c 1 rfl
  have x2 := hbx.c 2 rfl
  have x3 := hbx.c 3 rfl
  have x4 := hbx.c 4 rfl
  have x5 := hbx.c 5 rfl
  have x6 := hbx.c 6 rfl
  have x7 := hbx.c 7 rfl
  have x8 := hbx.c 8 rfl
  have x9 := hbx.c 9 rfl
  have x10 := hbx.c 10 rfl
  have x11 := hbx.c 11 rfl
  clear hJ hK hbx
  go_wp2_with fail
  refine (each_to own l W.heap.size J Jx L (([] ++ E1)) (E2) (E3 ++ E4 ++ E5 ++ E6 ++ instL c.shp c.shp.inst) 2 0 1 1 _ HE2.out HL2.out HR.out HJ.out hO HY.out (by omega) (by omega)).mono ?_
  clear x0 x1 x2 x3 x4 x5 x6 x7 x8 x9 x10 x11
  rintro e w1 (⟨rfl, hJ, hK⟩ | ⟨rfl, hX, hK⟩)
  rotate_left
  · have hX2 := hK.box hbc HX.out
    have x1 := hX2.c 1 rfl
    have x3 := hX2.c 3 rfl
    have HT := Lib.hid hX
    clear hX2 hX hK HJ HP HX HY
    obtain ⟨U, hU⟩ : ∃ U, U = w1 := ⟨_, rfl⟩
    have HU := Lib.hid hU
    clear hU
    go_wp2_with fail
    go_loopw [4, 5] (fun o i wr => o = .bool false ∧ i = .int .i64 0 ∧ wr = U) (fun _ _ _ => 0)
    case atStart => exact ⟨rfl, rfl, HU.out.symm⟩
    case round =>
      obtain ⟨rfl, rfl, hw⟩ := hrel
      rw [HU.out] at hw
      subst hw
      go_wp2_with fail
      exact bodyPost_ret (results_none rfl _ _ _) rfl ⟨⟨_, rfl⟩, .inr HT.out⟩
  have HJ := Lib.hid hJ
  have HP := Lib.hid (hK.pw hpg HP.out)
  have hbx := hK.box hbc HX.out
  have HX := Lib.hid hbx
  have HY := Lib.hid (hK.box hO HY.out)
  have x0 := hbx.c 0 rfl
  have x1 := hbx.c 1 rfl
  have x2 := hbx.c 2 rfl
  have x3 := hbx.c 3 rfl
  have x4 := hbx.c 4 rfl
  have x5 := hbx.c 5 rfl
  have x6 := hbx.c 6 rfl
  have x7 := hbx.c 7 rfl
  have x8 := hbx.c 8 rfl
  have x9 := hbx.c 9 rfl
  have x10 := hbx.c 10 rfl
  have x11 := hbx.c 11 rfl
  clear hJ hK hbx
  go_wp2_with fail
  refine (each_to own l W.heap.size J Jx L (([] ++ E1) ++ E2) (E3) (E4 ++ E5 ++ E6 ++ instL c.shp c.shp.inst) 3 0 1 1 _ HE3.out HL3.out HR.out HJ.out hO HY.out (by omega) (by omega)).mono ?_
  clear x0 x1 x2 x3 x4 x5 x6 x7 x8 x9 x10 x11
  rintro e w1 (⟨rfl, hJ, hK⟩ | ⟨rfl, hX, hK⟩)
  rotate_left
  · have hX2 := hK.box hbc HX.out
    have x1 := hX2.c 1 rfl
    have x3 := hX2.c 3 rfl
    have HT := Lib.hid hX
    clear hX2 hX hK HJ HP HX HY
    obtain ⟨U, hU⟩ : ∃ U, U = w1 := ⟨_, rfl⟩
    have HU := Lib.hid hU
    clear hU
    go_wp2_with fail
    go_loopw [4, 5] (fun o i wr => o = .bool false ∧ i = .int .i64 0 ∧ wr = U) (fun _ _ _ => 0)
    case atStart => exact ⟨rfl, rfl, HU.out.symm⟩
    case round =>
      obtain ⟨rfl, rfl, hw⟩ := hrel
      rw [HU.out] at hw
      subst hw
      go_wp2_with fail
      exact bodyPost_ret (results_none rfl _ _ _) rfl ⟨⟨_, rfl⟩, .inr HT.out⟩
  have HJ := Lib.hid hJ
  have HP := Lib.hid (hK.pw hpg HP.out)
  have hbx := hK.box hbc HX.out
  have HX := Lib.hid hbx
  have HY := Lib.hid (hK.box hO HY.out)
  have x0 := hbx.c 0 rfl
  have x1 := hbx.c 1 rfl
  have x2 := hbx.c 2 rfl
  have x3 := hbx.c 3 rfl
  have x4 := hbx.c 4 rfl
  have x5 := hbx.c 5 rfl
  have x6 := hbx.c 6 rfl
  have x7 := hbx.c 7 rfl
  have x8 := hbx.c 8 rfl
  have x9 := hbx.c 9 rfl
  have x10 := hbx.c 10 rfl
  have x11 := hbx.c 11 rfl
  clear hJ hK hbx
  go_wp2_with fail
  refine (each_to own l W.heap.size J Jx L (([] ++ E1) ++ E2 ++ E3) (E4) (E5 ++ E6 ++ instL c.shp c.shp.inst) 4 0 c.shp.thr 1 _ HE4.out HL4.out HR.out HJ.out hO HY.out (by omega) (by omega)).mono ?_
  clear x0 x1 x2 x3 x4 x5 x6 x7 x8 x9 x10 x11
  rintro e w1 (⟨rfl, hJ, hK⟩ | ⟨rfl, hX, hK⟩)
  rotate_left
  · have hX2 := hK.box hbc HX.out
    have x1 := hX2.c 1 rfl
    have x3 := hX2.c 3 rfl
    have HT := Lib.hid hX
    clear hX2 hX hK HJ HP HX HY
    obtain ⟨U, hU⟩ : ∃ U, U = w1 := ⟨_, rfl⟩
    have HU := Lib.hid hU
    clear hU
    go_wp2_with fail
    go_loopw [4, 5] (fun o i wr => o = .bool false ∧ i = .int .i64 0 ∧ wr = U) (fun _ _ _ => 0)
    case atStart => exact ⟨rfl, rfl, HU.out.symm⟩
    case round =>
      obtain ⟨rfl, rfl, hw⟩ := hrel
      rw [HU.out] at hw
      subst hw
      go_wp2_with fail
      exact bodyPost_ret (results_none rfl _ _ _) rfl ⟨⟨_, rfl⟩, .inr HT.out⟩
  have HJ := Lib.hid hJ
  have HP := Lib.hid (hK.pw hpg HP.out)
  have hbx := hK.box hbc HX.out
  have HX := Lib.hid hbx
  have HY := Lib.hid (hK.box hO HY.out)
  have x0 := hbx.c 0 rfl
  have x1 := hbx.c 1 rfl
  have x2 := hbx.c 2 rfl
  have x3 := hbx.c 3 rfl
  have x4 := hbx.c 4 rfl
  have x5 := hbx.c 5 rfl
  have x6 := hbx.c 6 rfl
  have x7 := hbx.c 7 rfl
  have x8 := hbx.c 8 rfl
  have x9 := hbx.c 9 rfl
  have x10 := hbx.c 10 rfl
  have x11 := hbx.c 11 rfl
  clear hJ hK hbx
  go_wp2_with fail
  refine (each_to own l W.heap.size J Jx L (([] ++ E1) ++ E2 ++ E3 ++ E4) (E5) (E6 ++ instL c.shp c.shp.inst) 5 0 c.shp.thr 1 _ HE5.out HL5.out HR.out HJ.out hO HY.out (by omega) (by omega)).mono ?_
  clear x0 x1 x2 x3 x4 x5 x6 x7 x8 x9 x10 x11
  rintro e w1 (⟨rfl, hJ, hK⟩ | ⟨rfl, hX, hK⟩)
  rotate_left
  · have hX2 := hK.box hbc HX.out
    have x1 := hX2.c 1 rfl
    have x3 := hX2.c 3 rfl
    have HT := Lib.hid hX
    clear hX2 hX hK HJ HP HX HY
    obtain ⟨U, hU⟩ : ∃ U, U = w1 := ⟨_, rfl⟩
    have HU := Lib.hid hU
    clear hU
    go_wp2_with fail
    go_loopw [4, 5] (fun o i wr => o = .bool false ∧ i = .int .i64 0 ∧ wr = U) (fun _ _ _ => 0)
    case atStart => exact ⟨rfl, rfl, HU.out.symm⟩
    case round =>
      obtain ⟨rfl, rfl, hw⟩ := hrel
      rw [HU.out] at hw
      subst hw
      go_wp2_with fail
      exact bodyPost_ret (results_none rfl _ _ _) rfl ⟨⟨_, rfl⟩, .inr HT.out⟩
  have HJ := Lib.hid hJ
  have HP := Lib.hid (hK.pw hpg HP.out)
  have hbx := hK.box hbc HX.out
  have HX := Lib.hid hbx
  have HY := Lib.hid (hK.box hO HY.out)
  have x0 := hbx.c 0 rfl
  have x1 := hbx.c 1 rfl
  have x2 := hbx.c 2 rfl
  have x3 := hbx.c 3 rfl
  have x4 := hbx.c 4 rfl
  have x5 := hbx.c 5 rfl
  have x6 := hbx.c 6 rfl
  have x7 := hbx.c 7 rfl
  have x8 := hbx.c 8 rfl
  have x9 := hbx.c 9 rfl
  have x10 := hbx.c 10 rfl
  have x11 := hbx.c 11 rfl
  clear hJ hK hbx
  go_wp2_with fail
  refine (each_to own l W.heap.size J Jx L (([] ++ E1) ++ E2 ++ E3 ++ E4 ++ E5) (E6) (instL c.shp c.shp.inst) 6 0 2 c.shp.thr _ HE6.out HL6.out HR.out HJ.out hO HY.out (by omega) (by omega)).mono ?_
  clear x0 x1 x2 x3 x4 x5 x6 x7 x8 x9 x10 x11
  rintro e w1 (⟨rfl, hJ, hK⟩ | ⟨rfl, hX, hK⟩)
  rotate_left
  · have hX2 := hK.box hbc HX.out
    have x1 := hX2.c 1 rfl
    have x3 := hX2.c 3 rfl
    have HT := Lib.hid hX
    clear hX2 hX hK HJ HP HX HY
    obtain ⟨U, hU⟩ : ∃ U, U = w1 := ⟨_, rfl⟩
    have HU := Lib.hid hU
    clear hU
    go_wp2_with fail
    go_loopw [4, 5] (fun o i wr => o = .bool false ∧ i = .int .i64 0 ∧ wr = U) (fun _ _ _ => 0)
    case atStart => exact ⟨rfl, rfl, HU.out.symm⟩
    case round =>
      obtain ⟨rfl, rfl, hw⟩ := hrel
      rw [HU.out] at hw
      subst hw
      go_wp2_with fail
      exact bodyPost_ret (results_none rfl _ _ _) rfl ⟨⟨_, rfl⟩, .inr HT.out⟩
  have HJ := Lib.hid hJ
  have HP := Lib.hid (hK.pw hpg HP.out)
  have hbx := hK.box hbc HX.out
  have HX := Lib.hid hbx
  have HY := Lib.hid (hK.box hO HY.out)
  have x0 := hbx.c 0 rfl
  have x1 := hbx.c 1 rfl
  have x2 := hbx.c 2 rfl
  have x3 := hbx.c 3 rfl
  have x4 := hbx.c 4 rfl
  have x5 := hbx.c 5 rfl
  have x6 := hbx.c 6 rfl
  have x7 := hbx.c 7 rfl
  have x8 := hbx.c 8 rfl
  have x9 := hbx.c 9 rfl
  have x10 := hbx.c 10 rfl
  have x11 := hbx.c 11 rfl
  clear hJ hK hbx
  go_wp2_with fail
  go_loopw [4, 5] (fun o i wr => ∃ (b : Bool) (n : Nat), o = .bool b ∧ i = .int .i64 n ∧ n ≤ c.shp.inst ∧ Box wr W.heap.size [.func (.yield l) #[] #[]] ∧ Box wr bc (cfgS c) ∧ PwO c wr ∧ LoopSt J Jx L (([] ++ E1) ++ E2 ++ E3 ++ E4 ++ E5 ++ E6) c.shp b n wr) (fun _ i _ => c.shp.inst + 1 - (intOf i).toNat)
  case atStart => exact ⟨true, 0, rfl, rfl, Nat.zero_le _, HY.out, HX.out, HP.out, .inl ⟨rfl, by rw [show instL c.shp 0 = [] from rfl, List.append_nil]; exact HJ.out⟩⟩
  case round =>
    clear HY HX HP HJ x0 x1 x2 x3 x4 x5 x6 x7 x8 x9 x10 x11
    obtain ⟨b, n, rfl, rfl, hn, hy, hbx, hpw, hst⟩ := hrel
    have HX := Lib.hid hbx
    have HY := Lib.hid hy
    have HP := Lib.hid hpw
    have x0 := hbx.c 0 rfl
    have x1 := hbx.c 1 rfl
    have x2 := hbx.c 2 rfl
    have x3 := hbx.c 3 rfl
    have x4 := hbx.c 4 rfl
    have x5 := hbx.c 5 rfl
    have x6 := hbx.c 6 rfl
    have x7 := hbx.c 7 rfl
    have x8 := hbx.c 8 rfl
    have x9 := hbx.c 9 rfl
    have x10 := hbx.c 10 rfl
    have x11 := hbx.c 11 rfl
    clear hbx hy hpw
    rcases hst with ⟨rfl, hJ⟩ | ⟨rfl, hX⟩
    · by_cases hlt : n < c.shp.inst
      · obtain ⟨r, hr⟩ := inst_split c.shp c.shp.inst n hlt
        have HA := Lib.hid (show L = ((([] ++ E1) ++ E2 ++ E3 ++ E4 ++ E5 ++ E6) ++ instL c.shp n) ++ eachL 9 n 1 1 ++ (eachL 10 n 1 c.shp.size ++ r) by rw [HLL.out, hr]; simp only [List.append_assoc])
        have HB := Lib.hid (show L = ((([] ++ E1) ++ E2 ++ E3 ++ E4 ++ E5 ++ E6) ++ instL c.shp n ++ eachL 9 n 1 1) ++ eachL 10 n 1 (greatN c) ++ r by rw [HLL.out, hr, hgr]; simp only [List.append_assoc])
        have HC := Lib.hid (show (([] ++ E1) ++ E2 ++ E3 ++ E4 ++ E5 ++ E6) ++ instL c.shp (n + 1) = (([] ++ E1) ++ E2 ++ E3 ++ E4 ++ E5 ++ E6) ++ instL c.shp n ++ eachL 9 n 1 1 ++ eachL 10 n 1 (greatN c) by rw [show instL c.shp (n + 1) = instL c.shp n ++ (eachL 9 n 1 1 ++ eachL 10 n 1 c.shp.size) from rfl, hgr]; simp only [List.append_assoc])
        have HJ := Lib.hid hJ
        clear hr hJ
        go_wp2_with fail
        refine (each_to own l W.heap.size J Jx L _ (eachL 9 n 1 1) _ 9 n 1 1 _ rfl HA.out HR.out HJ.out hO HY.out (by omega) (by omega)).mono ?_
        clear x0 x1 x2 x3 x4 x5 x6 x7 x8 x9 x10 x11
        rintro e w1 (⟨rfl, hJ, hK⟩ | ⟨rfl, hX, hK⟩)
        · have HJ := Lib.hid hJ
          have HP := Lib.hid (hK.pw hpg HP.out)
          have hbx := hK.box hbc HX.out
          have HX := Lib.hid hbx
          have HY := Lib.hid (hK.box hO HY.out)
          have x0 := hbx.c 0 rfl
          have x1 := hbx.c 1 rfl
          have x2 := hbx.c 2 rfl
          have x3 := hbx.c 3 rfl
          have x4 := hbx.c 4 rfl
          have x5 := hbx.c 5 rfl
          have x6 := hbx.c 6 rfl
          have x7 := hbx.c 7 rfl
          have x8 := hbx.c 8 rfl
          have x9 := hbx.c 9 rfl
          have x10 := hbx.c 10 rfl
          have x11 := hbx.c 11 rfl
          clear hJ hK hbx
          go_wp2_with fail
          refine (HU.out _ HP.out).mono ?_
          clear x0 x1 x2 x3 x4 x5 x6 x7 x8 x9 x10 x11
          rintro e w2 ⟨rfl, hb⟩
          have HJ := Lib.hid (HSJ.out _ _ _ HJ.out (grown_below hb))
          have HP := Lib.hid (HP.out.more hb)
          have HX := Lib.hid (HX.out.below hb)
          have HY := Lib.hid (HY.out.below hb)
          clear hb
          go_wp2_with fail
          refine (each_to own l W.heap.size J Jx L _ (eachL 10 n 1 (greatN c)) _ 10 n 1 (greatN c) _ rfl HB.out HR.out HJ.out hO HY.out (by omega) (by omega)).mono ?_
          rintro e w3 (⟨rfl, hJ, hK⟩ | ⟨rfl, hX, hK⟩)
          · have HJ := Lib.hid hJ
            have HK := Lib.hid hK
            clear hJ hK
            go_wp2_with fail
            go_roundw
            case rel => exact ⟨true, n + 1, rfl, by go_num, by omega, HK.out.box hO HY.out, HK.out.box hbc HX.out, HK.out.pw hpg HP.out, .inl ⟨rfl, by rw [HC.out]; exact HJ.out⟩⟩
            case measure => simp [intOf]; omega
          · have HX2 := Lib.hid hX
            have HK := Lib.hid hK
            clear hX hK
            go_wp2_with fail
            go_roundw
            case rel => exact ⟨false, n + 1, rfl, by go_num, by omega, HK.out.box hO HY.out, HK.out.box hbc HX.out, HK.out.pw hpg HP.out, .inr ⟨rfl, HX2.out⟩⟩
            case measure => simp [intOf]; omega
        · have HX2 := Lib.hid hX
          have HK := Lib.hid hK
          clear hX hK
          go_wp2_with fail
          go_roundw
          case rel => exact ⟨false, n + 1, rfl, by go_num, by omega, HK.out.box hO HY.out, HK.out.box hbc HX.out, HK.out.pw hpg HP.out, .inr ⟨rfl, HX2.out⟩⟩
          case measure => simp [intOf]; omega
      · obtain rfl : n = c.shp.inst := by omega
        rw [← HLL.out] at hJ
        have HJ := Lib.hid hJ
        clear hJ
        go_wp2_with fail
        exact bodyPost_ret (results_none rfl _ _ _) rfl ⟨⟨_, rfl⟩, .inl HJ.out⟩
    · have HT := Lib.hid hX
      clear hX
      by_cases hlt : n < c.shp.inst
      all_goals
        go_wp2_with fail
        exact bodyPost_ret (results_none rfl _ _ _) rfl ⟨⟨_, rfl⟩, .inr HT.out⟩

set_option maxHeartbeats 12800000 in
theorem places_stripes (c : Cfg) (bc l : Nat) (own : Nat → Prop) (J Jx : List Pl → World → Prop) (W : World) (hm : c.May) (hkd : (c.kd == 1) = false) (hsl : c.shp.slots = false) (hp : PwO c W) (hbox : Box W bc (cfgL c)) (hO : ¬ own W.heap.size) (hbc : ¬ own bc) (hpg : c.ob = 2 → ¬ own 0)
    (sJ : ∀ s A B, J s A → A.grownBy B none → J s B) (hR : Rounds own l J Jx (placesL c.shp)) (h0 : J [] W) :
    Calls Try.prog 85 #[.func (.yield l) #[] #[], .pointer (some ⟨bc, 0, none⟩)] W (SeqPost J Jx (placesL c.shp)) := by
  have hmf : ∀ (fn : Fn) (first cap : Array Value) (w : World), (Instr.makeFunc fn first cap).run Try.prog w = .ok (.func fn first cap) w := fun _ _ _ _ => rfl
  have s1 := shp_thr hm
  have s2 := shp_inst hm
  have s3 := shp_str hm
  have HU : ∀ U, PwO c U → Calls Try.prog 87 #[.agg ⟨cfgS c⟩] U fun e w' => e = .returned (.int .i64 (greatN c)) ∧ Below U.heap.size U w' := fun U hu => by
    rw [← cfgS_eq hm]
    exact size_any c U hm hu
  unfold cfgS at HU
  have HU := Lib.hid HU
  have hS := May.small hm
  have z1 := hS.thr
  have z2 := hS.str
  have z3 := hS.inst
  have z4 := hS.size
  have z5 := hS.inst2
  have hgr : greatN c = c.shp.size := rfl
  have hL : placesL c.shp = (eachL 1 0 1 1 ++ eachL 2 0 1 1 ++ eachL 3 0 1 1 ++ eachL 4 0 c.shp.thr 1 ++ eachL 5 0 c.shp.thr 1) ++ (eachL 7 0 2 c.shp.str ++ eachL 8 0 2 c.shp.str) ++ instL c.shp c.shp.inst := by unfold placesL headL marksL; rw [hsl]; rfl
  generalize placesL c.shp = L at *
  obtain ⟨E1, hE1⟩ : ∃ E, eachL 1 0 1 1 = E := ⟨_, rfl⟩
  obtain ⟨E2, hE2⟩ : ∃ E, eachL 2 0 1 1 = E := ⟨_, rfl⟩
  obtain ⟨E3, hE3⟩ : ∃ E, eachL 3 0 1 1 = E := ⟨_, rfl⟩
  obtain ⟨E4, hE4⟩ : ∃ E, eachL 4 0 c.shp.thr 1 = E := ⟨_, rfl⟩
  obtain ⟨E5, hE5⟩ : ∃ E, eachL 5 0 c.shp.thr 1 = E := ⟨_, rfl⟩
  obtain ⟨E6, hE6⟩ : ∃ E, eachL 7 0 2 c.shp.str = E := ⟨_, rfl⟩
  obtain ⟨E7, hE7⟩ : ∃ E, eachL 8 0 2 c.shp.str = E := ⟨_, rfl⟩
  rw [hE1, hE2, hE3, hE4, hE5, hE6, hE7] at hL
  have HE1 := Lib.hid hE1
  clear hE1
  have HE2 := Lib.hid hE2
  clear hE2
  have HE3 := Lib.hid hE3
  clear hE3
  have HE4 := Lib.hid hE4
  clear hE4
  have HE5 := Lib.hid hE5
  clear hE5
  have HE6 := Lib.hid hE6
  clear hE6
  have HE7 := Lib.hid hE7
  clear hE7
  have HL1 := Lib.hid (show L = [] ++ E1 ++ (E2 ++ E3 ++ E4 ++ E5 ++ E6 ++ E7 ++ instL c.shp c.shp.inst) by rw [hL]; simp only [List.append_assoc, List.nil_append])
  have HL2 := Lib.hid (show L = (([] ++ E1)) ++ E2 ++ (E3 ++ E4 ++ E5 ++ E6 ++ E7 ++ instL c.shp c.shp.inst) by rw [hL]; simp only [List.append_assoc, List.nil_append])
  have HL3 := Lib.hid (show L = (([] ++ E1) ++ E2) ++ E3 ++ (E4 ++ E5 ++ E6 ++ E7 ++ instL c.shp c.shp.inst) by rw [hL]; simp only [List.append_assoc, List.nil_append])
  have HL4 := Lib.hid (show L = (([] ++ E1) ++ E2 ++ E3) ++ E4 ++ (E5 ++ E6 ++ E7 ++ instL c.shp c.shp.inst) by rw [hL]; simp only [List.append_assoc, List.nil_append])
  have HL5 := Lib.hid (show L = (([] ++ E1) ++ E2 ++ E3 ++ E4) ++ E5 ++ (E6 ++ E7 ++ instL c.shp c.shp.inst) by rw [hL]; simp only [List.append_assoc, List.nil_append])
  have HL6 := Lib.hid (show L = (([] ++ E1) ++ E2 ++ E3 ++ E4 ++ E5) ++ E6 ++ (E7 ++ instL c.shp c.shp.inst) by rw [hL]; simp only [List.append_assoc, List.nil_append])
  have HL7 := Lib.hid (show L = (([] ++ E1) ++ E2 ++ E3 ++ E4 ++ E5 ++ E6) ++ E7 ++ (instL c.shp c.shp.inst) by rw [hL]; simp only [List.append_assoc, List.nil_append])
  have HLL := Lib.hid (show L = (([] ++ E1) ++ E2 ++ E3 ++ E4 ++ E5 ++ E6 ++ E7) ++ instL c.shp c.shp.inst by rw [hL]; simp only [List.append_assoc, List.nil_append])
  have HSJ := Lib.hid sJ
  have HR := Lib.hid hR
  have hbox := hbox.as (cfgS_eq hm)
  have hy := Box.new W 113 [.func (.yield l) #[] #[]]
  have HJ := Lib.hid (sJ _ _ _ h0 (World.grownBy_alloc W (.cells #[.func (.yield l) #[] #[]] 113) none))
  have hbx := hbox.alloc (.cells #[.func (.yield l) #[] #[]] 113)
  have hpw := hp.more (newB W (.cells #[.func (.yield l) #[] #[]] 113))
  clear hm sJ hR h0 hbox hp hL hS s1 s2 s3 hsl
  go_enter Try.func85, Try.ntmps85
  go_wp2_with fail
  generalize World.alloc _ _ = V at *
  have HP := Lib.hid hpw
  have HX := Lib.hid hbx
  have HY := Lib.hid hy
  have x0 := hbx.c 0 rfl
  have x1 := hbx.c 1 rfl
  have x2 := hbx.c 2 rfl
  have x3 := hbx.c 3 rfl
  have x4 := hbx.c 4 rfl
  have x5 := hbx.c 5 rfl
  have x6 := hbx.c 6 rfl
  have x7 := hbx.c 7 rfl
  have x8 := hbx.c 8 rfl
  have x9 := hbx.c 9 rfl
  have x10 := hbx.c 10 rfl
  have x11 := hbx.c 11 rfl
  clear hpw hbx hy
  refine (each_to own l W.heap.size J Jx L ([]) (E1) (E2 ++ E3 ++ E4 ++ E5 ++ E6 ++ E7 ++ instL c.shp c.shp.inst) 1 0 1 1 _ HE1.out HL1.out HR.out HJ.out hO HY.out (by omega) (by omega)).mono ?_
  clear x0 x1 x2 x3 x4 x5 x6 x7 x8 x9 x10 x11
  rintro e w1 (⟨rfl, hJ, hK⟩ | ⟨rfl, hX, hK⟩)
  rotate_left
  · have hX2 := hK.box hbc HX.out
    have x1 := hX2.c 1 rfl
    have x3 := hX2.c 3 rfl
    have HT := Lib.hid hX
    clear hX2 hX hK HJ HP HX HY
    obtain ⟨U, hU⟩ : ∃ U, U = w1 := ⟨_, rfl⟩
    have HU := Lib.hid hU
    clear hU
    go_wp2_with fail
    go_loopw [4, 5] (fun o i wr => o = .bool false ∧ i = .int .i64 0 ∧ wr = U) (fun _ _ _ => 0)
    case atStart => exact ⟨rfl, rfl, HU.out.symm⟩
    case round =>
      obtain ⟨rfl, rfl, hw⟩ := hrel
      rw [HU.out] at hw
      subst hw
      go_wp2_with fail
      exact bodyPost_ret (results_none rfl _ _ _) rfl ⟨⟨_, rfl⟩, .inr HT.out⟩
  have HJ := Lib.hid hJ
  have HP := Lib.hid (hK.pw hpg HP.out)
  have hbx := hK.box hbc HX.out
  have HX := Lib.hid hbx
  have HY := Lib.hid (hK.box hO HY.out)
  have x0 := hbx.c 0 rfl
  have x1 := hbx.c 1 rfl
  have x2 := hbx.c 2 rfl
  have x3 := hbx.c 3 rfl
  have x4 := hbx.c 4 rfl
  have x5 := hbx.c 5 rfl
  have x6 := hbx.c 6 rfl
  have x7 := hbx.c 7 rfl
  have x8 := hbx.c 8 rfl
  have x9 := hbx.c 9 rfl
  have x10 := hbx.c 10 rfl
  have x11 := hbx.c 11 rfl
  clear hJ hK hbx
  go_wp2_with fail
  refine (each_to own l W.heap.size J Jx L (([] ++ E1)) (E2) (E3 ++ E4 ++ E5 ++ E6 ++ E7 ++ instL c.shp c.shp.inst) 2 0 1 1 _ HE2.out HL2.out HR.out HJ.out hO HY.out (by omega) (by omega)).mono ?_
  clear x0 x1 x2 x3 x4 x5 x6 x7 x8 x9 x10 x11
  rintro e w1 (⟨rfl, hJ, hK⟩ | ⟨rfl, hX, hK⟩)
  rotate_left
  · have hX2 := hK.box hbc HX.out
    have x1 := hX2.c 1 rfl
    have x3 := hX2.c 3 rfl
    have HT := Lib.hid hX
    clear hX2 hX hK HJ HP HX HY
    obtain ⟨U, hU⟩ : ∃ U, U = w1 := ⟨_, rfl⟩
    have HU := Lib.hid hU
    clear hU
    go_wp2_with fail
    go_loopw [4, 5] (fun o i wr => o = .bool false ∧ i = .int .i64 0 ∧ wr = U) (fun _ _ _ => 0)
    case atStart => exact ⟨rfl, rfl, HU.out.symm⟩
    case round =>
      obtain ⟨rfl, rfl, hw⟩ := hrel
      rw [HU.out] at hw
      subst hw
      go_wp2_with fail
      exact bodyPost_ret (results_none rfl _ _ _) rfl ⟨⟨_, rfl⟩, .inr HT.out⟩
  have HJ := Lib.hid hJ
  have HP := Lib.hid (hK.pw hpg HP.out)
  have hbx := hK.box hbc HX.out
  have HX := Lib.hid hbx
  have HY := Lib.hid (hK.box hO HY.out)
  have x0 := hbx.c 0 rfl
  have x1 := hbx.c 1 rfl
  have x2 := hbx.c 2 rfl
  have x3 := hbx.c 3 rfl
  have x4 := hbx.c 4 rfl
  have x5 := hbx.c 5 rfl
  have x6 := hbx.c 6 rfl
  have x7 := hbx.c 7 rfl
  have x8 := hbx.c 8 rfl
  have x9 := hbx.c 9 rfl
  have x10 := hbx.c 10 rfl
  have x11 := hbx.c 11 rfl
  clear hJ hK hbx
  go_wp2_with fail
  refine (each_to own l W.heap.size J Jx L (([] ++ E1) ++ E2) (E3) (E4 ++ E5 ++ E6 ++ E7 ++ instL c.shp c.shp.inst) 3 0 1 1 _ HE3.out HL3.out HR.out HJ.out hO HY.out (by omega) (by omega)).mono ?_
  clear x0 x1 x2 x3 x4 x5 x6 x7 x8 x9 x10 x11
  rintro e w1 (⟨rfl, hJ, hK⟩ | ⟨rfl, hX, hK⟩)
  rotate_left
  · have hX2 := hK.box hbc HX.out
    have x1 := hX2.c 1 rfl
    have x3 := hX2.c 3 rfl
    have HT := Lib.hid hX
    clear hX2 hX hK HJ HP HX HY
    obtain ⟨U, hU⟩ : ∃ U, U = w1 := ⟨_, rfl⟩
    have HU := Lib.hid hU
    clear hU
    go_wp2_with fail
    go_loopw [4, 5] (fun o i wr => o = .bool false ∧ i = .int .i64 0 ∧ wr = U) (fun _ _ _ => 0)
    case atStart => exact ⟨rfl, rfl, HU.out.symm⟩
    case round =>
      obtain ⟨rfl, rfl, hw⟩ := hrel
      rw [HU.out] at hw
      subst hw
      go_wp2_with fail
      exact bodyPost_ret (results_none rfl _ _ _) rfl ⟨⟨_, rfl⟩, .inr HT.out⟩
  have HJ := Lib.hid hJ
  have HP := Lib.hid (hK.pw hpg HP.out)
  have hbx := hK.box hbc HX.out
  have HX := Lib.hid hbx
  have HY := Lib.hid (hK.box hO HY.out)
  have x0 := hbx.c 0 rfl
  have x1 := hbx.c 1 rfl
  have x2 := hbx.c 2 rfl
  have x3 := hbx.c 3 rfl
  have x4 := hbx.c 4 rfl
  have x5 := hbx.c 5 rfl
  have x6 := hbx.c 6 rfl
  have x7 := hbx.c 7 rfl
  have x8 := hbx.c 8 rfl
  have x9 := hbx.c 9 rfl
  have x10 := hbx.c 10 rfl
  have x11 := hbx.c 11 rfl
  clear hJ hK hbx
  go_wp2_with fail
  refine (each_to own l W.heap.size J Jx L (([] ++ E1) ++ E2 ++ E3) (E4) (E5 ++ E6 ++ E7 ++ instL c.shp c.shp.inst) 4 0 c.shp.thr 1 _ HE4.out HL4.out HR.out HJ.out hO HY.out (by omega) (by omega)).mono ?_
  clear x0 x1 x2 x3 x4 x5 x6 x7 x8 x9 x10 x11
  rintro e w1 (⟨rfl, hJ, hK⟩ | ⟨rfl, hX, hK⟩)
  rotate_left
  · have hX2 := hK.box hbc HX.out
    have x1 := hX2.c 1 rfl
    have x3 := hX2.c 3 rfl
    have HT := Lib.hid hX
    clear hX2 hX hK HJ HP HX HY
    obtain ⟨U, hU⟩ : ∃ U, U = w1 := ⟨_, rfl⟩
    have HU := Lib.hid hU
    clear hU
    go_wp2_with fail
    go_loopw [4, 5] (fun o i wr => o = .bool false ∧ i = .int .i64 0 ∧ wr = U) (fun _ _ _ => 0)
    case atStart => exact ⟨rfl, rfl, HU.out.symm⟩
    case round =>
      obtain ⟨rfl, rfl, hw⟩ := hrel
      rw [HU.out] at hw
      subst hw
      go_wp2_with fail
      exact bodyPost_ret (results_none rfl _ _ _) rfl ⟨⟨_, rfl⟩, .inr HT.out⟩
  have HJ := Lib.hid hJ
  have HP := Lib.hid (hK.pw hpg HP.out)
  have hbx := hK.box hbc HX.out
  have HX := Lib.hid hbx
  have HY := Lib.hid (hK.box hO HY.out)
  have x0 := hbx.c 0 rfl
  have x1 := hbx.c 1 rfl
  have x2 := hbx.c 2 rfl
  have x3 := hbx.c 3 rfl
  have x4 := hbx.c 4 rfl
  have x5 := hbx.c 5 rfl
  have x6 := hbx.c 6 rfl
  have x7 := hbx.c 7 rfl
  have x8 := hbx.c 8 rfl
  have x9 := hbx.c 9 rfl
  have x10 := hbx.c 10 rfl
  have x11 := hbx.c 11 rfl
  clear hJ hK hbx
  go_wp2_with fail
  refine (each_to own l W.heap.size J Jx L (([] ++ E1) ++ E2 ++ E3 ++ E4) (E5) (E6 ++ E7 ++ instL c.shp c.shp.inst) 5 0 c.shp.thr 1 _ HE5.out HL5.out HR.out HJ.out hO HY.out (by omega) (by omega)).mono ?_
  clear x0 x1 x2 x3 x4 x5 x6 x7 x8 x9 x10 x11
  rintro e w1 (⟨rfl, hJ, hK⟩ | ⟨rfl, hX, hK⟩)
  rotate_left
  · have hX2 := hK.box hbc HX.out
    have x1 := hX2.c 1 rfl
    have x3 := hX2.c 3 rfl
    have HT := Lib.hid hX
    clear hX2 hX hK HJ HP HX HY
    obtain ⟨U, hU⟩ : ∃ U, U = w1 := ⟨_, rfl⟩
    have HU := Lib.hid hU
    clear hU
    go_wp2_with fail
    go_loopw [4, 5] (fun o i wr => o = .bool false ∧ i = .int .i64 0 ∧ wr = U) (fun _ _ _ => 0)
    case atStart => exact ⟨rfl, rfl, HU.out.symm⟩
    case round =>
      obtain ⟨rfl, rfl, hw⟩ := hrel
      rw [HU.out] at hw
      subst hw
      go_wp2_with fail
      exact bodyPost_ret (results_none rfl _ _ _) rfl ⟨⟨_, rfl⟩, .inr HT.out⟩
  have HJ := Lib.hid hJ
  have HP := Lib.hid (hK.pw hpg HP.out)
  have hbx := hK.box hbc HX.out
  have HX := Lib.hid hbx
  have HY := Lib.hid (hK.box hO HY.out)
  have x0 := hbx.c 0 rfl
  have x1 := hbx.c 1 rfl
  have x2 := hbx.c 2 rfl
  have x3 := hbx.c 3 rfl
  have x4 := hbx.c 4 rfl
  have x5 := hbx.c 5 rfl
  have x6 := hbx.c 6 rfl
  have x7 := hbx.c 7 rfl
  have x8 := hbx.c 8 rfl
  have x9 := hbx.c 9 rfl
  have x10 := hbx.c 10 rfl
  have x11 := hbx.c 11 rfl
  clear hJ hK hbx
  go_wp2_with fail
  refine (each_to own l W.heap.size J Jx L (([] ++ E1) ++ E2 ++ E3 ++ E4 ++ E5) (E6) (E7 ++ instL c.shp c.shp.inst) 7 0 2 c.shp.str _ HE6.out HL6.out HR.out HJ.out hO HY.out (by omega) (by omega)).mono ?_
  clear x0 x1 x2 x3 x4 x5 x6 x7 x8 x9 x10 x11
  rintro e w1 (⟨rfl, hJ, hK⟩ | ⟨rfl, hX, hK⟩)
  rotate_left
  · have hX2 := hK.box hbc HX.out
    have x1 := hX2.c 1 rfl
    have x3 := hX2.c 3 rfl
    have HT := Lib.hid hX
    clear hX2 hX hK HJ HP HX HY
    obtain ⟨U, hU⟩ : ∃ U, U = w1 := ⟨_, rfl⟩
    have HU := Lib.hid hU
    clear hU
    go_wp2_with fail
    go_loopw [4, 5] (fun o i wr => o = .bool false ∧ i = .int .i64 0 ∧ wr = U) (fun _ _ _ => 0)
    case atStart => exact ⟨rfl, rfl, HU.out.symm⟩
    case round =>
      obtain ⟨rfl, rfl, hw⟩ := hrel
      rw [HU.out] at hw
      subst hw
      go_wp2_with fail
      exact bodyPost_ret (results_none rfl _ _ _) rfl ⟨⟨_, rfl⟩, .inr HT.out⟩
  have HJ := Lib.hid hJ
  have HP := Lib.hid (hK.pw hpg HP.out)
  have hbx := hK.box hbc HX.out
  have HX := Lib.hid hbx
  have HY := Lib.hid (hK.box hO HY.out)
  have x0 := hbx.c 0 rfl
  have x1 := hbx.c 1 rfl
  have x2 := hbx.c 2 rfl
  have x3 := hbx.c 3 rfl
  have x4 := hbx.c 4 rfl
  have x5 := hbx.c 5 rfl
  have x6 := hbx.c 6 rfl
  have x7 := hbx.c 7 rfl
  have x8 := hbx.c 8 rfl
  have x9 := hbx.c 9 rfl
  have x10 := hbx.c 10 rfl
  have x11 := hbx.c 11 rfl
  clear hJ hK hbx
  go_wp2_with fail
  refine (each_to own l W.heap.size J Jx L (([] ++ E1) ++ E2 ++ E3 ++ E4 ++ E5 ++ E6) (E7) (instL c.shp c.shp.inst) 8 0 2 c.shp.str _ HE7.out HL7.out HR.out HJ.out hO HY.out (by omega) (by omega)).mono ?_
  clear x0 x1 x2 x3 x4 x5 x6 x7 x8 x9 x10 x11
  rintro e w1 (⟨rfl, hJ, hK⟩ | ⟨rfl, hX, hK⟩)
  rotate_left
  · have hX2 := hK.box hbc HX.out
    have x1 := hX2.c 1 rfl
    have x3 := hX2.c 3 rfl
    have HT := Lib.hid hX
    clear hX2 hX hK HJ HP HX HY
    obtain ⟨U, hU⟩ : ∃ U, U = w1 := ⟨_, rfl⟩
    have HU := Lib.hid hU
    clear hU
    go_wp2_with fail
    go_loopw [4, 5] (fun o i wr => o = .bool false ∧ i = .int .i64 0 ∧ wr = U) (fun _ _ _ => 0)
    case atStart => exact ⟨rfl, rfl, HU.out.symm⟩
    case round =>
      obtain ⟨rfl, rfl, hw⟩ := hrel
      rw [HU.out] at hw
      subst hw
      go_wp2_with fail
      exact bodyPost_ret (results_none rfl _ _ _) rfl ⟨⟨_, rfl⟩, .inr HT.out⟩
  have HJ := Lib.hid hJ
  have HP := Lib.hid (hK.pw hpg HP.out)
  have hbx := hK.box hbc HX.out
  have HX := Lib.hid hbx
  have HY := Lib.hid (hK.box hO HY.out)
  have x0 := hbx.c 0 rfl
  have x1 := hbx.c 1 rfl
  have x2 := hbx.c 2 rfl
  have x3 := hbx.c 3 rfl
  have x4 := hbx.c 4 rfl
  have x5 := hbx.c 5 rfl
  have x6 := hbx.c 6 rfl
  have x7 := hbx.c 7 rfl
  have x8 := hbx.c 8 rfl
  have x9 := hbx.c 9 rfl
  have x10 := hbx.c 10 rfl
  have x11 := hbx.c 11 rfl
  clear hJ hK hbx
  go_wp2_with fail
  go_loopw [4, 5] (fun o i wr => ∃ (b : Bool) (n : Nat), o = .bool b ∧ i = .int .i64 n ∧ n ≤ c.shp.inst ∧ Box wr W.heap.size [.func (.yield l) #[] #[]] ∧ Box wr bc (cfgS c) ∧ PwO c wr ∧ LoopSt J Jx L (([] ++ E1) ++ E2 ++ E3 ++ E4 ++ E5 ++ E6 ++ E7) c.shp b n wr) (fun _ i _ => c.shp.inst + 1 - (intOf i).toNat)
  case atStart => exact ⟨true, 0, rfl, rfl, Nat.zero_le _, HY.out, HX.out, HP.out, .inl ⟨rfl, by rw [show instL c.shp 0 = [] from rfl, List.append_nil]; exact HJ.out⟩⟩
  case round =>
    clear HY HX HP HJ x0 x1 x2 x3 x4 x5 x6 x7 x8 x9 x10 x11
    obtain ⟨b, n, rfl, rfl, hn, hy, hbx, hpw, hst⟩ := hrel
    have HX := Lib.hid hbx
    have HY := Lib.hid hy
    have HP := Lib.hid hpw
    have x0 := hbx.c 0 rfl
    have x1 := hbx.c 1 rfl
    have x2 := hbx.c 2 rfl
    have x3 := hbx.c 3 rfl
    have x4 := hbx.c 4 rfl
    have x5 := hbx.c 5 rfl
    have x6 := hbx.c 6 rfl
    have x7 := hbx.c 7 rfl
    have x8 := hbx.c 8 rfl
    have x9 := hbx.c 9 rfl
    have x10 := hbx.c 10 rfl
    have x11 := hbx.c 11 rfl
    clear hbx hy hpw
    rcases hst with ⟨rfl, hJ⟩ | ⟨rfl, hX⟩
    · by_cases hlt : n < c.shp.inst
      · obtain ⟨r, hr⟩ := inst_split c.shp c.shp.inst n hlt
        have HA := Lib.hid (show L = ((([] ++ E1) ++ E2 ++ E3 ++ E4 ++ E5 ++ E6 ++ E7) ++ instL c.shp n) ++ eachL 9 n 1 1 ++ (eachL 10 n 1 c.shp.size ++ r) by rw [HLL.out, hr]; simp only [List.append_assoc])
        have HB := Lib.hid (show L = ((([] ++ E1) ++ E2 ++ E3 ++ E4 ++ E5 ++ E6 ++ E7) ++ instL c.shp n ++ eachL 9 n 1 1) ++ eachL 10 n 1 (greatN c) ++ r by rw [HLL.out, hr, hgr]; simp only [List.append_assoc])
        have HC := Lib.hid (show (([] ++ E1) ++ E2 ++ E3 ++ E4 ++ E5 ++ E6 ++ E7) ++ instL c.shp (n + 1) = (([] ++ E1) ++ E2 ++ E3 ++ E4 ++ E5 ++ E6 ++ E7) ++ instL c.shp n ++ eachL 9 n 1 1 ++ eachL 10 n 1 (greatN c) by rw [show instL c.shp (n + 1) = instL c.shp n ++ (eachL 9 n 1 1 ++ eachL 10 n 1 c.shp.size) from rfl, hgr]; simp only [List.append_assoc])
        have HJ := Lib.hid hJ
        clear hr hJ
        go_wp2_with fail
        refine (each_to own l W.heap.size J Jx L _ (eachL 9 n 1 1) _ 9 n 1 1 _ rfl HA.out HR.out HJ.out hO HY.out (by omega) (by omega)).mono ?_
        clear x0 x1 x2 x3 x4 x5 x6 x7 x8 x9 x10 x11
        rintro e w1 (⟨rfl, hJ, hK⟩ | ⟨rfl, hX, hK⟩)
        · have HJ := Lib.hid hJ
          have HP := Lib.hid (hK.pw hpg HP.out)
          have hbx := hK.box hbc HX.out
          have HX := Lib.hid hbx
          have HY := Lib.hid (hK.box hO HY.out)
          have x0 := hbx.c 0 rfl
          have x1 := hbx.c 1 rfl
          have x2 := hbx.c 2 rfl
          have x3 := hbx.c 3 rfl
          have x4 := hbx.c 4 rfl
          have x5 := hbx.c 5 rfl
          have x6 := hbx.c 6 rfl
          have x7 := hbx.c 7 rfl
          have x8 := hbx.c 8 rfl
          have x9 := hbx.c 9 rfl
          have x10 := hbx.c 10 rfl
          have x11 := hbx.c 11 rfl
          clear hJ hK hbx
          go_wp2_with fail
          refine (HU.out _ HP.out).mono ?_
          clear x0 x1 x2 x3 x4 x5 x6 x7 x8 x9 x10 x11
          rintro e w2 ⟨rfl, hb⟩
          have HJ := Lib.hid (HSJ.out _ _ _ HJ.out (grown_below hb))
          have HP := Lib.hid (HP.out.more hb)
          have HX := Lib.hid (HX.out.below hb)
          have HY := Lib.hid (HY.out.below hb)
          clear hb
          go_wp2_with fail
          refine (each_to own l W.heap.size J Jx L _ (eachL 10 n 1 (greatN c)) _ 10 n 1 (greatN c) _ rfl HB.out HR.out HJ.out hO HY.out (by omega) (by omega)).mono ?_
          rintro e w3 (⟨rfl, hJ, hK⟩ | ⟨rfl, hX, hK⟩)
          · have HJ := Lib.hid hJ
            have HK := Lib.hid hK
            clear hJ hK
            go_wp2_with fail
            go_roundw
            case rel => exact ⟨true, n + 1, rfl, by go_num, by omega, HK.out.box hO HY.out, HK.out.box hbc HX.out, HK.out.pw hpg HP.out, .inl ⟨rfl, by rw [HC.out]; exact HJ.out⟩⟩
            case measure => simp [intOf]; omega
          · have HX2 := Lib.hid hX
            have HK := Lib.hid hK
            clear hX hK
            go_wp2_with fail
            go_roundw
            case rel => exact ⟨false, n + 1, rfl, by go_num, by omega, HK.out.box hO HY.out, HK.out.box hbc HX.out, HK.out.pw hpg HP.out, .inr ⟨rfl, HX2.out⟩⟩
            case measure => simp [intOf]; omega
        · have HX2 := Lib.hid hX
          have HK := Lib.hid hK
          clear hX hK
          go_wp2_with fail
          go_roundw
          case rel => exact ⟨false, n + 1, rfl, by go_num, by omega, HK.out.box hO HY.out, HK.out.box hbc HX.out, HK.out.pw hpg HP.out, .inr ⟨rfl, HX2.out⟩⟩
          case measure => simp [intOf]; omega
      · obtain rfl : n = c.shp.inst := by omega
        rw [← HLL.out] at hJ
        have HJ := Lib.hid hJ
        clear hJ
        go_wp2_with fail
        exact bodyPost_ret (results_none rfl _ _ _) rfl ⟨⟨_, rfl⟩, .inl HJ.out⟩
    · have HT := Lib.hid hX
      clear hX
      by_cases hlt : n < c.shp.inst
      all_goals
        go_wp2_with fail
        exact bodyPost_ret (results_none rfl _ _ _) rfl ⟨⟨_, rfl⟩, .inr HT.out⟩


theorem places_seq (c : Cfg) (bc : Nat) (own : Nat → Prop) (w : World) (hm : c.May) (hp : PwO c w) (hbox : Box w bc (cfgL c)) (hown : ∀ k, own k → k < w.heap.size) (hbc : ¬ own bc) (hpg : c.ob = 2 → ¬ own 0) :
    SeqK Try.prog 85 #[.pointer (some ⟨bc, 0, none⟩)] encP (KpO own) none (placesL c.shp) w := by
  intro l J Jx W hW sJ sJx hY h0
  refine callsIn_wide.2 ?_
  have hO : ¬ own W.heap.size := fun h => by have := hown _ h; have := hW.size; omega
  have hR : Rounds own l J Jx (placesL c.shp) := fun pre x rest W1 h1 h2 => hY pre x rest W1 h1 h2
  rcases May.kd hm with ⟨d1, d2, _⟩ | ⟨d1, d2, _⟩
  · exact places_slots c bc l own J Jx W hm (by simp [d1]) d2 (hp.more hW) (hbox.below hW) hO hbc hpg sJ hR h0
  · exact places_stripes c bc l own J Jx W hm (by simp [d1]) d2 (hp.more hW) (hbox.below hW) hO hbc hpg sJ hR h0

end Go.Proofs.Ytecjbgddjejjdaa
