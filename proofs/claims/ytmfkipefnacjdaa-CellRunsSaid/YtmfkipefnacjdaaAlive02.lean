/- The chapter's examples (alive). -/
import Derived.Test.YtmfkipefnacjdaaCellRefC
namespace Go.Proofs.Ytmfkipefnacjdaa
open Go.RowKit

def accsV (l : List Acc) : List Value := l.flatMap fun x => [.int .u8 x.k, .int .i64 x.at', .int .u64 x.old.t, .int .u64 x.old.a, .int .u64 x.old.b, .int .u64 x.old.c, .int .u64 x.new.t, .int .u64 x.new.a, .int .u64 x.new.b, .int .u64 x.new.c]
theorem accsV_cons (x : Acc) (l : List Acc) : accsV (x :: l) = .int .u8 x.k :: .int .i64 x.at' :: .int .u64 x.old.t :: .int .u64 x.old.a :: .int .u64 x.old.b :: .int .u64 x.old.c :: .int .u64 x.new.t :: .int .u64 x.new.a :: .int .u64 x.new.b :: .int .u64 x.new.c :: accsV l := rfl
theorem accsV_snoc (l : List Acc) (x : Acc) : accsV (l ++ [x]) = accsV l ++ [.int .u8 x.k, .int .i64 x.at', .int .u64 x.old.t, .int .u64 x.old.a, .int .u64 x.old.b, .int .u64 x.old.c, .int .u64 x.new.t, .int .u64 x.new.a, .int .u64 x.new.b, .int .u64 x.new.c] := by simp [accsV]
theorem accsV_len (l : List Acc) : (accsV l).length = l.length * 10 := by
  induction l with
  | nil => rfl
  | cons x l ih => rw [accsV_cons]; simp [ih]; omega
theorem accsV_one (l : List Acc) : ∀ u ∈ accsV l, u.oneCell' = true := by
  intro u hu
  simp only [accsV, List.mem_flatMap] at hu
  obtain ⟨x, _, hx⟩ := hu
  simp at hx
  rcases hx with rfl | rfl | rfl | rfl | rfl | rfl | rfl | rfl | rfl | rfl <;> rfl
theorem accsV_at : ∀ (l : List Acc) (k : Nat) (x : Acc), l[k]? = some x → (accsV l)[k * 10]? = some (.int .u8 x.k) ∧ (accsV l)[k * 10 + 1]? = some (.int .i64 x.at') ∧ (accsV l)[k * 10 + 2]? = some (.int .u64 x.old.t) ∧ (accsV l)[k * 10 + 3]? = some (.int .u64 x.old.a) ∧ (accsV l)[k * 10 + 4]? = some (.int .u64 x.old.b) ∧ (accsV l)[k * 10 + 5]? = some (.int .u64 x.old.c) ∧ (accsV l)[k * 10 + 6]? = some (.int .u64 x.new.t) ∧ (accsV l)[k * 10 + 7]? = some (.int .u64 x.new.a) ∧ (accsV l)[k * 10 + 8]? = some (.int .u64 x.new.b) ∧ (accsV l)[k * 10 + 9]? = some (.int .u64 x.new.c)
  | [], k, x, h => by simp at h
  | y :: l, 0, x, h => by
    simp at h
    subst h
    rw [accsV_cons]
    exact ⟨rfl, rfl, rfl, rfl, rfl, rfl, rfl, rfl, rfl, rfl⟩
  | y :: l, k + 1, x, h => by
    have ih := accsV_at l k x (by simpa using h)
    rw [accsV_cons, show (k + 1) * 10 = k * 10 + 10 from by omega]
    exact ih

theorem rd_of_box {W : World} {g c : Nat} {l : List Cel} (h : Box W g (celsV l)) : Rd W (some ⟨g, 0, none⟩) c l :=
  ⟨by simp, .inr ⟨g, 0, rfl, .inr h.lt, fun j u hu => by rw [Nat.zero_add]; exact h.c j hu⟩⟩
theorem rdx_of_box {W : World} {g : Nat} {l : List Acc} (h : Box W g (accsV l)) : RdX W (some ⟨g, 0, none⟩) l := by
  refine .inr ⟨g, 0, rfl, h.lt, fun k x hx => ?_⟩
  obtain ⟨h0, h1, h2, h3, h4, h5, h6, h7, h8, h9⟩ := accsV_at l k x hx
  rw [Nat.zero_add]
  exact ⟨h.c _ h0, h.c _ h1, h.c _ h2, h.c _ h3, h.c _ h4, h.c _ h5, h.c _ h6, h.c _ h7, h.c _ h8, h.c _ h9⟩
theorem rds_of_box {W : World} {g : Nat} {l : List (Cel × Bool)} (h : Box W g (seensV l)) : RdS W (some ⟨g, 0, none⟩) l := by
  refine .inr ⟨g, 0, rfl, h.lt, fun k x hx => ?_⟩
  obtain ⟨h0, h1, h2, h3, h4⟩ := seensV_at l k x hx
  rw [Nat.zero_add]
  exact ⟨h.c _ h0, h.c _ h1, h.c _ h2, h.c _ h3, h.c _ h4⟩
theorem rdx_of_own {W : World} {B n : Nat} {v : Value} {l : List Acc} (h : W.ownsRow B 36 10 v n (accsV l)) (hn : l.length = n) : ∃ a cap, v = .slice a n cap ∧ RdX W a l := by
  rcases h.2 with ⟨rfl, h0⟩ | ⟨g, cap, cur, rfl, hB, hh, _⟩
  · exact ⟨none, 0, by rw [h0], .inl (List.eq_nil_of_length_eq_zero (by omega))⟩
  · refine ⟨_, cap, rfl, .inr ⟨g, 0, rfl, (Array.getElem?_eq_some_iff.1 hh).1, fun k s hs => ?_⟩⟩
    have hk : k < l.length := (List.getElem?_eq_some_iff.1 hs).1
    obtain ⟨h0, h1, h2, h3, h4, h5, h6, h7, h8, h9⟩ := accsV_at l k s hs
    rw [Nat.zero_add]
    exact ⟨(h.cellAt _ (by omega)).trans h0, (h.cellAt _ (by omega)).trans h1, (h.cellAt _ (by omega)).trans h2, (h.cellAt _ (by omega)).trans h3, (h.cellAt _ (by omega)).trans h4, (h.cellAt _ (by omega)).trans h5, (h.cellAt _ (by omega)).trans h6, (h.cellAt _ (by omega)).trans h7, (h.cellAt _ (by omega)).trans h8, (h.cellAt _ (by omega)).trans h9⟩

theorem RunPost.ok {w w' : World} {l : List Cel} {xs : List Acc} {e : Ending} {n m : Nat} (h : RunPost w l xs e w') (hn : l.length = n) (hm : xs.length = m) (hn' : n ≤ 1024) (hm' : m ≤ 65536) (hb : runB l xs = true) :
    ∃ a c b d, e = .returned (.tuple #[.slice a n c, .slice b m d, .int .i64 0]) ∧ Rd w' a c (runL l xs) ∧ RdS w' b (runS l xs) ∧ Own w' w.heap.size (.slice a n c) (runL l xs) ∧ Below w.heap.size w w' := by
  obtain ⟨hB, ⟨h0, v, s, rfl, ho, hs⟩ | ⟨h0, _⟩⟩ := h
  · obtain ⟨a, c, rfl, hR, _⟩ := own_form ho
    rw [hm] at hs
    obtain ⟨b, d, rfl, hS⟩ := own_seens hs (by rw [runS_len, hm])
    have e1 : (runL l xs).length = n := (runL_len xs l).trans hn
    rw [e1] at ho
    exact ⟨a, c, b, d, by rw [e1], hR, hS, ho, hB⟩
  · exfalso
    apply h0
    unfold runErr
    rw [if_neg (by omega), if_pos hb]
theorem RunPost.err {w w' : World} {l : List Cel} {xs : List Acc} {e : Ending} (h : RunPost w l xs e w') (hn' : l.length ≤ 1024) (hm' : xs.length ≤ 65536) (hb : runB l xs = false) :
    e = .returned (.tuple #[.slice none 0 0, .slice none 0 0, .int .i64 2]) ∧ Below w.heap.size w w' := by
  have he : runErr l xs = 2 := by unfold runErr; rw [if_neg (by omega), hb]; rfl
  obtain ⟨hB, ⟨h0, _⟩ | ⟨_, rfl⟩⟩ := h
  · rw [he] at h0; cases h0
  · rw [he]; exact ⟨rfl, hB⟩

theorem Run_ok (a a' : Option Addr) (c c' n m : Nat) (l : List Cel) (xs : List Acc) (w : World) (hn : l.length = n) (hm : xs.length = m) (hR : Rd w a c l) (hX : RdX w a' xs) (hn' : n ≤ 1024) (hm' : m ≤ 65536) (hb : runB l xs = true) : Calls Try.prog 15 #[.slice a n c, .slice a' m c'] w fun e w' =>
    ∃ a c b d, e = .returned (.tuple #[.slice a n c, .slice b m d, .int .i64 0]) ∧ Rd w' a c (runL l xs) ∧ RdS w' b (runS l xs) ∧ Own w' w.heap.size (.slice a n c) (runL l xs) ∧ Below w.heap.size w w' := by
  subst hn; subst hm
  exact (Run_go a a' c c' l xs w hR hX hn' hm').mono fun e w' h => h.ok rfl rfl hn' hm' hb
theorem Run_err (a a' : Option Addr) (c c' n m : Nat) (l : List Cel) (xs : List Acc) (w : World) (hn : l.length = n) (hm : xs.length = m) (hR : Rd w a c l) (hX : RdX w a' xs) (hn' : n ≤ 1024) (hm' : m ≤ 65536) (hb : runB l xs = false) : Calls Try.prog 15 #[.slice a n c, .slice a' m c'] w fun e w' =>
    e = .returned (.tuple #[.slice none 0 0, .slice none 0 0, .int .i64 2]) ∧ Below w.heap.size w w' := by
  subst hn; subst hm
  exact (Run_go a a' c c' l xs w hR hX hn' hm').mono fun e w' h => h.err hn' hm' hb

theorem SameCells_len' (a a' : Option Addr) (c c' n : Nat) (l : List Cel) (w : World) (hl : l.length = n) (h : Rd w a c l) (h' : Rd w a' c' l) (hn : n ≤ 4611686018427387904) : Calls Try.prog 13 #[.slice a n c, .slice a' n c'] w fun e w' => e = .returned (.bool true) ∧ Below w.heap.size w w' := by
  subst hl
  exact SameCells_eq a a' c c' l w h h' hn
theorem SameSeen_len (a a' : Option Addr) (c c' n : Nat) (l : List (Cel × Bool)) (w : World) (hl : l.length = n) (h : RdS w a l) (h' : RdS w a' l) (hn : n ≤ 4611686018427387904) : Calls Try.prog 18 #[.slice a n c, .slice a' n c'] w fun e w' => e = .returned (.bool true) ∧ Below w.heap.size w w' := by
  subst hl
  exact SameSeen_eq a a' c c' l w h h' hn

/-- The example's accesses. -/
def two4 : Cel := ⟨1, 2, 3, 4⟩
def exAccs : List Acc := [⟨2, 1, .zero, two4⟩, ⟨1, 1, .zero, .zero⟩, ⟨3, 1, two4, ⟨2, 0, 0, 0⟩⟩, ⟨3, 1, two4, ⟨2, 0, 0, 0⟩⟩, ⟨4, 1, .zero, ⟨0, 5, 0, 0⟩⟩]
def exSeen : List (Cel × Bool) := [(.zero, true), (two4, true), (two4, true), (⟨2, 0, 0, 0⟩, false), (⟨2, 0, 0, 0⟩, true)]
theorem ex_runB : runB [.zero, .zero] exAccs = true := by decide
theorem ex_runL : runL [.zero, .zero] exAccs = [.zero, ⟨2, 5, 0, 0⟩] := by decide
theorem ex_runS : runS [.zero, .zero] exAccs = exSeen := by decide

set_option maxRecDepth 100000 in
set_option maxHeartbeats 1600000 in
theorem alive_any (w : World) : Calls Try.prog 16 #[] w fun e w' => e = .returned (.bool true) ∧ Below w.heap.size w w' := by
  go_enter Try.func16, Try.ntmps16
  go_wp2_with fail
  have hcs := (Box.newAt ((w.alloc (.cells #[.int .u64 1, .int .u64 2, .int .u64 3, .int .u64 4] 30)).alloc (.cells #[.int .u8 3, .int .i64 1, .int .u64 1, .int .u64 2, .int .u64 3, .int .u64 4, .int .u64 2, .int .u64 0, .int .u64 0, .int .u64 0] 36)) 30 [.int .u64 0, .int .u64 0, .int .u64 0, .int .u64 0, .int .u64 0, .int .u64 0, .int .u64 0, .int .u64 0] (g := w.heap.size + 1 + 1) (by simp)).alloc (.cells #[.int .u8 2, .int .i64 1, .int .u64 0, .int .u64 0, .int .u64 0, .int .u64 0, .int .u64 1, .int .u64 2, .int .u64 3, .int .u64 4, .int .u8 1, .int .i64 1, .int .u64 0, .int .u64 0, .int .u64 0, .int .u64 0, .int .u64 0, .int .u64 0, .int .u64 0, .int .u64 0, .int .u8 3, .int .i64 1, .int .u64 1, .int .u64 2, .int .u64 3, .int .u64 4, .int .u64 2, .int .u64 0, .int .u64 0, .int .u64 0, .int .u8 3, .int .i64 1, .int .u64 1, .int .u64 2, .int .u64 3, .int .u64 4, .int .u64 2, .int .u64 0, .int .u64 0, .int .u64 0, .int .u8 4, .int .i64 1, .int .u64 0, .int .u64 0, .int .u64 0, .int .u64 0, .int .u64 0, .int .u64 5, .int .u64 0, .int .u64 0] 36)
  have has := Box.newAt (((w.alloc (.cells #[.int .u64 1, .int .u64 2, .int .u64 3, .int .u64 4] 30)).alloc (.cells #[.int .u8 3, .int .i64 1, .int .u64 1, .int .u64 2, .int .u64 3, .int .u64 4, .int .u64 2, .int .u64 0, .int .u64 0, .int .u64 0] 36)).alloc (.cells #[.int .u64 0, .int .u64 0, .int .u64 0, .int .u64 0, .int .u64 0, .int .u64 0, .int .u64 0, .int .u64 0] 30)) 36 [.int .u8 2, .int .i64 1, .int .u64 0, .int .u64 0, .int .u64 0, .int .u64 0, .int .u64 1, .int .u64 2, .int .u64 3, .int .u64 4, .int .u8 1, .int .i64 1, .int .u64 0, .int .u64 0, .int .u64 0, .int .u64 0, .int .u64 0, .int .u64 0, .int .u64 0, .int .u64 0, .int .u8 3, .int .i64 1, .int .u64 1, .int .u64 2, .int .u64 3, .int .u64 4, .int .u64 2, .int .u64 0, .int .u64 0, .int .u64 0, .int .u8 3, .int .i64 1, .int .u64 1, .int .u64 2, .int .u64 3, .int .u64 4, .int .u64 2, .int .u64 0, .int .u64 0, .int .u64 0, .int .u8 4, .int .i64 1, .int .u64 0, .int .u64 0, .int .u64 0, .int .u64 0, .int .u64 0, .int .u64 5, .int .u64 0, .int .u64 0] (g := w.heap.size + 1 + 1 + 1) (by simp)
  refine (Run_ok _ _ _ _ 2 5 [.zero, .zero] exAccs _ rfl rfl (rd_of_box (hcs.as (show [.int .u64 0, .int .u64 0, .int .u64 0, .int .u64 0, .int .u64 0, .int .u64 0, .int .u64 0, .int .u64 0] = celsV [.zero, .zero] from rfl))) (rdx_of_box (has.as (show [.int .u8 2, .int .i64 1, .int .u64 0, .int .u64 0, .int .u64 0, .int .u64 0, .int .u64 1, .int .u64 2, .int .u64 3, .int .u64 4, .int .u8 1, .int .i64 1, .int .u64 0, .int .u64 0, .int .u64 0, .int .u64 0, .int .u64 0, .int .u64 0, .int .u64 0, .int .u64 0, .int .u8 3, .int .i64 1, .int .u64 1, .int .u64 2, .int .u64 3, .int .u64 4, .int .u64 2, .int .u64 0, .int .u64 0, .int .u64 0, .int .u8 3, .int .i64 1, .int .u64 1, .int .u64 2, .int .u64 3, .int .u64 4, .int .u64 2, .int .u64 0, .int .u64 0, .int .u64 0, .int .u8 4, .int .i64 1, .int .u64 0, .int .u64 0, .int .u64 0, .int .u64 0, .int .u64 0, .int .u64 5, .int .u64 0, .int .u64 0] = accsV exAccs from rfl))) (by omega) (by omega) ex_runB).mono ?_
  rintro e w1 ⟨a, c, b, d, rfl, hR, hS, _, hb⟩
  rw [ex_runL] at hR
  rw [ex_runS] at hS
  have ht := (((Box.new w 30 [.int .u64 1, .int .u64 2, .int .u64 3, .int .u64 4]).alloc (.cells #[.int .u8 3, .int .i64 1, .int .u64 1, .int .u64 2, .int .u64 3, .int .u64 4, .int .u64 2, .int .u64 0, .int .u64 0, .int .u64 0] 36)).alloc (.cells #[.int .u64 0, .int .u64 0, .int .u64 0, .int .u64 0, .int .u64 0, .int .u64 0, .int .u64 0, .int .u64 0] 30)).alloc (.cells #[.int .u8 2, .int .i64 1, .int .u64 0, .int .u64 0, .int .u64 0, .int .u64 0, .int .u64 1, .int .u64 2, .int .u64 3, .int .u64 4, .int .u8 1, .int .i64 1, .int .u64 0, .int .u64 0, .int .u64 0, .int .u64 0, .int .u64 0, .int .u64 0, .int .u64 0, .int .u64 0, .int .u8 3, .int .i64 1, .int .u64 1, .int .u64 2, .int .u64 3, .int .u64 4, .int .u64 2, .int .u64 0, .int .u64 0, .int .u64 0, .int .u8 3, .int .i64 1, .int .u64 1, .int .u64 2, .int .u64 3, .int .u64 4, .int .u64 2, .int .u64 0, .int .u64 0, .int .u64 0, .int .u8 4, .int .i64 1, .int .u64 0, .int .u64 0, .int .u64 0, .int .u64 0, .int .u64 0, .int .u64 5, .int .u64 0, .int .u64 0] 36) |>.below hb
  have HB := Lib.hid (keepB hb (moreB (moreB (moreB (newB w _) _) _) _))
  have HT := Lib.hid ht
  have HR := Lib.hid hR; have HS := Lib.hid hS
  clear hR hS hb ht hcs has
  go_wp2_with fail
  have hcs := (Box.new w1 30 [.int .u64 0, .int .u64 0, .int .u64 0, .int .u64 0, .int .u64 0, .int .u64 0, .int .u64 0, .int .u64 0]).alloc (.cells #[.int .u8 1, .int .i64 2, .int .u64 0, .int .u64 0, .int .u64 0, .int .u64 0, .int .u64 0, .int .u64 0, .int .u64 0, .int .u64 0] 36)
  have has := Box.newAt (w1.alloc (.cells #[.int .u64 0, .int .u64 0, .int .u64 0, .int .u64 0, .int .u64 0, .int .u64 0, .int .u64 0, .int .u64 0] 30)) 36 [.int .u8 1, .int .i64 2, .int .u64 0, .int .u64 0, .int .u64 0, .int .u64 0, .int .u64 0, .int .u64 0, .int .u64 0, .int .u64 0] (g := w1.heap.size + 1) (by simp)
  refine (Run_err _ _ _ _ 2 1 [.zero, .zero] [⟨1, 2, .zero, .zero⟩] _ rfl rfl (rd_of_box (hcs.as (show [.int .u64 0, .int .u64 0, .int .u64 0, .int .u64 0, .int .u64 0, .int .u64 0, .int .u64 0, .int .u64 0] = celsV [.zero, .zero] from rfl))) (rdx_of_box (has.as (show [.int .u8 1, .int .i64 2, .int .u64 0, .int .u64 0, .int .u64 0, .int .u64 0, .int .u64 0, .int .u64 0, .int .u64 0, .int .u64 0] = accsV [⟨1, 2, .zero, .zero⟩] from rfl))) (by omega) (by omega) (by decide)).mono ?_
  rintro e w2 ⟨rfl, hb2⟩
  have ht2 := ((HT.out.alloc (.cells #[.int .u64 0, .int .u64 0, .int .u64 0, .int .u64 0, .int .u64 0, .int .u64 0, .int .u64 0, .int .u64 0] 30)).alloc (.cells #[.int .u8 1, .int .i64 2, .int .u64 0, .int .u64 0, .int .u64 0, .int .u64 0, .int .u64 0, .int .u64 0, .int .u64 0, .int .u64 0] 36)).below hb2
  have HR2 := Lib.hid ((HR.out.below (moreB (newB w1 (.cells #[.int .u64 0, .int .u64 0, .int .u64 0, .int .u64 0, .int .u64 0, .int .u64 0, .int .u64 0, .int .u64 0] 30)) (.cells #[.int .u8 1, .int .i64 2, .int .u64 0, .int .u64 0, .int .u64 0, .int .u64 0, .int .u64 0, .int .u64 0, .int .u64 0, .int .u64 0] 36))).below hb2)
  have HS2 := Lib.hid ((HS.out.below (moreB (newB w1 (.cells #[.int .u64 0, .int .u64 0, .int .u64 0, .int .u64 0, .int .u64 0, .int .u64 0, .int .u64 0, .int .u64 0] 30)) (.cells #[.int .u8 1, .int .i64 2, .int .u64 0, .int .u64 0, .int .u64 0, .int .u64 0, .int .u64 0, .int .u64 0, .int .u64 0, .int .u64 0] 36))).below hb2)
  have HB2 := Lib.hid (keepB hb2 (moreB (moreB HB.out _) _))
  obtain ⟨t0, t1, t2, t3⟩ := box4 ht2
  clear ht2 hb2 hcs has HT HR HS HB
  go_wp2_with fail
  have hw := (Box.new w2 32 [.int .u64 0, .int .u64 0, .int .u64 0, .int .u64 0, .bool true, .int .u64 1, .int .u64 2, .int .u64 3, .int .u64 4, .bool true, .int .u64 1, .int .u64 2, .int .u64 3, .int .u64 4, .bool true, .int .u64 2, .int .u64 0, .int .u64 0, .int .u64 0, .bool false, .int .u64 2, .int .u64 0, .int .u64 0, .int .u64 0, .bool true]).alloc (.cells #[.int .u64 0, .int .u64 0, .int .u64 0, .int .u64 0, .int .u64 2, .int .u64 5, .int .u64 0, .int .u64 0] 30)
  have hl := Box.newAt (w2.alloc (.cells #[.int .u64 0, .int .u64 0, .int .u64 0, .int .u64 0, .bool true, .int .u64 1, .int .u64 2, .int .u64 3, .int .u64 4, .bool true, .int .u64 1, .int .u64 2, .int .u64 3, .int .u64 4, .bool true, .int .u64 2, .int .u64 0, .int .u64 0, .int .u64 0, .bool false, .int .u64 2, .int .u64 0, .int .u64 0, .int .u64 0, .bool true] 32)) 30 [.int .u64 0, .int .u64 0, .int .u64 0, .int .u64 0, .int .u64 2, .int .u64 5, .int .u64 0, .int .u64 0] (g := w2.heap.size + 1) (by simp)
  refine (SameCells_len' a _ c _ 2 [.zero, ⟨2, 5, 0, 0⟩] _ rfl (HR2.out.below (moreB (newB w2 _) _)) (rd_of_box (hl.as (show [.int .u64 0, .int .u64 0, .int .u64 0, .int .u64 0, .int .u64 2, .int .u64 5, .int .u64 0, .int .u64 0] = celsV [.zero, ⟨2, 5, 0, 0⟩] from rfl))) (by omega)).mono ?_
  rintro e w3 ⟨rfl, hb3⟩
  have HW3 := Lib.hid (rds_of_box ((hw.below hb3).as (show [.int .u64 0, .int .u64 0, .int .u64 0, .int .u64 0, .bool true, .int .u64 1, .int .u64 2, .int .u64 3, .int .u64 4, .bool true, .int .u64 1, .int .u64 2, .int .u64 3, .int .u64 4, .bool true, .int .u64 2, .int .u64 0, .int .u64 0, .int .u64 0, .bool false, .int .u64 2, .int .u64 0, .int .u64 0, .int .u64 0, .bool true] = seensV exSeen from rfl)))
  have HS3 := Lib.hid ((HS2.out.below (moreB (newB w2 (.cells #[.int .u64 0, .int .u64 0, .int .u64 0, .int .u64 0, .bool true, .int .u64 1, .int .u64 2, .int .u64 3, .int .u64 4, .bool true, .int .u64 1, .int .u64 2, .int .u64 3, .int .u64 4, .bool true, .int .u64 2, .int .u64 0, .int .u64 0, .int .u64 0, .bool false, .int .u64 2, .int .u64 0, .int .u64 0, .int .u64 0, .bool true] 32)) (.cells #[.int .u64 0, .int .u64 0, .int .u64 0, .int .u64 0, .int .u64 2, .int .u64 5, .int .u64 0, .int .u64 0] 30))).below hb3)
  have HB3 := Lib.hid (keepB hb3 (moreB (moreB HB2.out _) _))
  clear hw hl hb3 HR2 HS2 HB2 t0 t1 t2 t3
  go_wp2_with fail
  refine (SameSeen_len b _ d _ 5 exSeen _ rfl HS3.out HW3.out (by omega)).mono ?_
  rintro e w4 ⟨rfl, hb4⟩
  have HB4 := Lib.hid (keepB hb4 HB3.out)
  clear hb4 HB3 HS3 HW3
  go_wp2_with fail
  go_ret
  exact ⟨rfl, HB4.out⟩

end Go.Proofs.Ytmfkipefnacjdaa
