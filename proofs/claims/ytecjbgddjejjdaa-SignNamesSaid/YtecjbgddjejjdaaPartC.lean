/- Chapter 4: the iterator of the memory's places: one part of it. -/
import Derived.Test.YtecjbgddjejjdaaPlainPartB
import Derived.Test.YtecjbgddjejjdaaBox
import Derived.Test.YtecjbgddjejjdaaRange
import Derived.Shelf.Abstract
import Derived.Shelf.RegionOpen
import Derived.OwnWalkIn
import Derived.TacticsInMore
import Derived.LoopNIn
import Derived.LoopIn
import Derived.Deep.RegionLaw
import Derived.Deep.RegionHeld3
import Derived.WalkKit
import Derived.Deep.QuietTactic
import Derived.BigQuiet
import Derived.BigRegion
namespace Go.Proofs.Ytecjbgddjejjdaa
open Go.RowKit Go.Shelf

/-- What a round that goes on keeps: all cells but those of the consumer's own blocks. -/
def KpO (own : Nat → Prop) (W W' : World) : Prop := W.heap.size ≤ W'.heap.size ∧ ∀ k o, ¬ own k → W.heap[k]? = some o → o.isCells = true → W'.heap[k]? = some o
theorem KpO.refl (own : Nat → Prop) (W : World) : KpO own W W := ⟨Nat.le_refl _, fun _ _ _ h _ => h⟩
theorem KpO.trans {own : Nat → Prop} {A B C : World} (h : KpO own A B) (g : KpO own B C) : KpO own A C :=
  ⟨Nat.le_trans h.1 g.1, fun k o hk ho hc => g.2 k o hk (h.2 k o hk ho hc) hc⟩
theorem KpO.grown {own : Nat → Prop} {A B : World} (h : A.grownBy B none) : KpO own A B :=
  ⟨h.size, fun k o _ ho _ => (h.block k (Array.getElem?_eq_some_iff.1 ho).1 (fun e => by cases e)).trans ho⟩
theorem KpO.box {own : Nat → Prop} {A B : World} (h : KpO own A B) {g : Nat} {cs : List Value} (hg : ¬ own g) (hb : Box A g cs) : Box B g cs := by
  obtain ⟨t, hb⟩ := hb
  exact ⟨t, h.2 _ _ hg hb rfl⟩

def plV (p : Pl) : Value := .agg #[.int .u8 p.k, .int .i64 p.a, .int .i64 p.b]
def encP (p : Pl) : Array Value := #[plV p]

/-- What a round answers. -/
def RoundPost (own : Nat → Prop) (J Jx : List Pl → World → Prop) (pre : List Pl) (x : Pl) (W1 : World) (e : Ending) (W' : World) : Prop :=
  (e = .returned (.bool true) ∧ J (pre ++ [x]) W' ∧ KpO own W1 W') ∨ (e = .returned (.bool false) ∧ Jx (pre ++ [x]) W' ∧ KpO own W1 W')
def Rounds (own : Nat → Prop) (l : Nat) (J Jx : List Pl → World → Prop) (L : List Pl) : Prop :=
  ∀ pre x rest W1, L = pre ++ x :: rest → J pre W1 → YieldAt Fence.wide 0 Try.prog l (encP x) W1 (RoundPost own J Jx pre x W1)
/-- A round said no more. -/
def Stopped (Jx : List Pl → World → Prop) (L : List Pl) (W : World) : Prop := ∃ pre x rest, L = pre ++ x :: rest ∧ Jx (pre ++ [x]) W
def EachPost (own : Nat → Prop) (J Jx : List Pl → World → Prop) (L pre M : List Pl) (w : World) (e : Ending) (w' : World) : Prop :=
  (e = .returned (.bool true) ∧ J (pre ++ M) w' ∧ KpO own w w') ∨ (e = .returned (.bool false) ∧ Stopped Jx L w' ∧ KpO own w w')

theorem each_take {k fr n m i j : Nat} (hi : i < n) (hj : j < m) : (eachL k fr n m)[i * m + j]? = some ⟨k, fr + i, j⟩ := by
  have h1 : (i + 1) * m ≤ n * m := Nat.mul_le_mul_right _ (by omega)
  have h2 : i * m + j < n * m := by rw [Nat.add_mul] at h1; omega
  have h3 : 0 < m := by omega
  simp only [eachL, List.getElem?_map, List.getElem?_range h2, Option.map_some]
  rw [Nat.add_comm (i * m) j, Nat.add_mul_div_right _ _ h3, Nat.add_mul_mod_self_right, Nat.div_eq_of_lt hj, Nat.mod_eq_of_lt hj, Nat.zero_add]
theorem each_succ {k fr n m i j : Nat} (hi : i < n) (hj : j < m) : (eachL k fr n m).take (i * m + j + 1) = (eachL k fr n m).take (i * m + j) ++ [⟨k, fr + i, j⟩] := by
  rw [List.take_add_one, each_take hi hj]; rfl
theorem each_split {k fr n m i j : Nat} (hi : i < n) (hj : j < m) : eachL k fr n m = (eachL k fr n m).take (i * m + j) ++ ⟨k, fr + i, j⟩ :: (eachL k fr n m).drop (i * m + j + 1) := by
  have h := each_take (k := k) (fr := fr) hi hj
  have h1 := (List.getElem?_eq_some_iff.1 h)
  rw [← h1.2, ← List.drop_eq_getElem_cons h1.1, List.take_append_drop]

set_option maxHeartbeats 3200000 in
theorem each_any (own : Nat → Prop) (l by' : Nat) (J Jx : List Pl → World → Prop) (L pre rest : List Pl) (k fr n m : Nat) (w : World) (hL : L = pre ++ eachL k fr n m ++ rest) (hR : Rounds own l J Jx L) (hJ : J pre w)
    (hby : ¬ own by') (hb : Box w by' [.func (.yield l) #[] #[]]) (h1 : fr + n ≤ 1000) (h2 : m ≤ 1000) :
    Calls Try.prog 86 #[.int .u8 k, .int .i64 fr, .int .i64 n, .int .i64 m, .pointer (some ⟨by', 0, none⟩)] w (EachPost own J Jx L pre (eachL k fr n m) w) := by
  refine (callsIn_wide (n := 0)).1 ?_
  have HR := Lib.hid hR
  have HL := Lib.hid hL
  clear hR hL
  have hlen := eachL_len k fr n m
  generalize hM : eachL k fr n m = M at *
  have HM := Lib.hid hM
  clear hM
  have HN := Lib.hid hlen
  clear hlen
  refine callsIn_of_wp Try.func86 rfl trivial ?_ rfl
  simp only [Try.ntmps86, List.size_toArray, List.length_cons, List.length_nil, Nat.reduceAdd, Nat.reduceSub, Array.replicate_succ, Array.replicate_zero, List.push_toArray, List.append_toArray, List.nil_append, List.cons_append]
  have HB := Lib.hid hb
  clear hb
  gi_wp2
  gi_loopw [10, 11] (fun a _ wr => ∃ i q : Nat, i ≤ n ∧ q = fr + i ∧ a = .int .i64 q ∧ J (pre ++ M.take (i * m)) wr ∧ KpO own w wr) (fun a _ _ => fr + n - (intOf a).toNat)
  case atStart => exact ⟨0, fr, Nat.zero_le _, by simp, rfl, by simpa using hJ, KpO.refl _ _⟩
  case round =>
    obtain ⟨i, q, hi, hq, rfl, hJi, hK⟩ := hrel
    have HQ := Lib.hid hq
    clear hJ
    by_cases hlt : i < n
    · have hq1 : (q : Int) < (fr : Int) + (n : Int) := by omega
      have hq2 : q ≤ 1000 := by omega
      clear hq
      gi_wp2
      obtain ⟨wo, rfl⟩ : ∃ wo : World, wo = wr := ⟨_, rfl⟩
      gi_loopw [11, 21] (fun _ c wr => ∃ j : Nat, j ≤ m ∧ c = .int .i64 j ∧ J (pre ++ M.take (i * m + j)) wr ∧ KpO own w wr) (fun _ c _ => m - (intOf c).toNat)
      case atStart => exact ⟨0, Nat.zero_le _, rfl, hJi, hK⟩
      case round =>
        clear hJi hK
        obtain ⟨j, hj, rfl, hJj, hK⟩ := hrel
        have hb' := hK.box hby HB.out
        have hcy := hb'.c 0 rfl
        by_cases hlt2 : j < m
        · have hsp := each_split (k := k) (fr := fr) hlt hlt2
          have hsu := each_succ (k := k) (fr := fr) hlt hlt2
          rw [HM.out, ← HQ.out] at hsp hsu
          have HSU := Lib.hid hsu
          have hL2 : L = (pre ++ M.take (i * m + j)) ++ ⟨k, q, j⟩ :: (M.drop (i * m + j + 1) ++ rest) := by rw [HL.out]; (conv => lhs; rw [hsp]); simp only [List.append_assoc, List.cons_append]
          obtain ⟨fn, tmps, assign, body, hy, hR⟩ := HR.out _ _ _ wr hL2 hJj
          have HL2 := Lib.hid hL2
          have HY := Lib.hid hR
          simp only [encP, plV] at hy
          have HJ := Lib.hid hJj
          have HK := Lib.hid hK
          clear hsp hsu hR hb' hJj hK hL2
          gi_wp2_with fail
          refine ⟨rfl, HY.out.mono ?_⟩
          rintro e W' (⟨rfl, hJ', hk⟩ | ⟨rfl, hJx', hk⟩)
          · have HJ' := Lib.hid hJ'
            have HK' := Lib.hid (HK.out.trans hk)
            clear hJ' hk hcy hy
            gi_wp2
            go_roundw
            case rel => exact ⟨j + 1, by omega, by go_num, by rw [← Nat.add_assoc, HSU.out, ← List.append_assoc]; exact HJ'.out, HK'.out⟩
            case measure => simp [intOf]; omega
          · have HX := Lib.hid hJx'
            have HK' := Lib.hid (HK.out.trans hk)
            clear hJx' hk hcy hy
            gi_wp2
            exact bodyPost_ret (v := .bool false) (by simp [results, Try.f86, go_sem]) rfl (.inr ⟨rfl, ⟨_, _, _, HL2.out, HX.out⟩, HK'.out⟩)
        · obtain rfl : j = m := by omega
          have HJ := Lib.hid hJj
          have HK := Lib.hid hK
          clear hJj hK hb' hcy
          gi_wp2
          refine ⟨⟨i + 1, q + 1, by omega, by rw [HQ.out]; rfl, by go_num, by rw [Nat.add_mul, Nat.one_mul]; exact HJ.out, HK.out⟩, ?_⟩
          simp [intOf]; omega
    · obtain rfl : i = n := by omega
      have hq1 : (fr : Int) + (i : Int) ≤ (q : Int) := by omega
      clear hq
      rw [← HN.out, List.take_length] at hJi
      have HJ := Lib.hid hJi
      have HK := Lib.hid hK
      clear hJi hK
      gi_wp2
      exact bodyPost_ret (v := .bool true) (by simp [results, Try.f86, go_sem]) rfl (.inl ⟨rfl, HJ.out, HK.out⟩)

end Go.Proofs.Ytecjbgddjejjdaa
