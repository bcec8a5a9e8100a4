/- What a run gives. -/
import Derived.Test.YtmfkipefnacjdaaLaw02f
namespace Go.Proofs.Ytmfkipefnacjdaa
open Go.RowKit

def outL (l : List Cel) (xs : List Acc) : List Cel := if 1024 < l.length then [] else if runB l xs then runL l xs else []
def outS (l : List Cel) (xs : List Acc) : List (Cel × Bool) := if 1024 < l.length then [] else if runB l xs then runS l xs else []
def outE (l : List Cel) (xs : List Acc) : Int := if 1024 < l.length then 4 else if runB l xs then 0 else 2
theorem outL_le (l : List Cel) (xs : List Acc) : (outL l xs).length ≤ 1024 := by
  unfold outL
  split
  · simp
  · split
    · rw [runL_len]; omega
    · simp
theorem outS_le (l : List Cel) (xs : List Acc) : (outS l xs).length ≤ xs.length := by
  unfold outS
  split
  · simp
  · split
    · rw [runS_len]; omega
    · simp
def OutPost (w : World) (l : List Cel) (xs : List Acc) (e : Ending) (w' : World) : Prop :=
  ∃ ao co bo dd, e = .returned (.tuple #[.slice ao (outL l xs).length co, .slice bo (outS l xs).length dd, .int .i64 (outE l xs)]) ∧ Own w' w.heap.size (.slice ao (outL l xs).length co) (outL l xs) ∧ w'.ownsRow w.heap.size 32 5 (.slice bo (outS l xs).length dd) (outS l xs).length (seensV (outS l xs)) ∧ Below w.heap.size w w'
theorem out_many {w w' : World} {l : List Cel} {xs : List Acc} {e : Ending} (h : 1024 < l.length) (he : e = .returned (.tuple #[.slice none 0 0, .slice none 0 0, .int .i64 4])) (hb : Below w.heap.size w w') : OutPost w l xs e w' := by
  have e1 : outL l xs = [] := by unfold outL; rw [if_pos h]
  have e2 : outS l xs = [] := by unfold outS; rw [if_pos h]
  have e3 : outE l xs = 4 := by unfold outE; rw [if_pos h]
  unfold OutPost
  rw [e1, e2, e3]
  exact ⟨none, 0, none, 0, he, World.ownsRow_nil _ _ _ _, World.ownsRow_nil _ _ _ _, hb⟩
theorem out_of_post {w w' : World} {l : List Cel} {xs : List Acc} {e : Ending} (h : RunPost w l xs e w') (hl : l.length ≤ 1024) (hx : xs.length ≤ 65536) : OutPost w l xs e w' := by
  have hn : ¬ 1024 < l.length := by omega
  obtain ⟨hB, ⟨h0, v, s, rfl, ho, hs⟩ | ⟨h0, rfl⟩⟩ := h
  · have hr : runB l xs = true := by
      cases hr : runB l xs with
      | true => rfl
      | false => unfold runErr at h0; rw [if_neg (by omega), hr] at h0; cases h0
    have e1 : outL l xs = runL l xs := by unfold outL; rw [if_neg hn, if_pos hr]
    have e2 : outS l xs = runS l xs := by unfold outS; rw [if_neg hn, if_pos hr]
    have e3 : outE l xs = 0 := by unfold outE; rw [if_neg hn, if_pos hr]
    obtain ⟨a, c, rfl, _, _⟩ := own_form ho
    obtain ⟨b, d, rfl, _⟩ := own_seens hs (runS_len xs l)
    unfold OutPost
    rw [e1, e2, e3, runS_len]
    exact ⟨a, c, b, d, rfl, ho, hs, hB⟩
  · have hr : runB l xs = false := by
      cases hr : runB l xs with
      | false => rfl
      | true => exfalso; apply h0; unfold runErr; rw [if_neg (by omega), hr]; rfl
    have e1 : outL l xs = [] := by unfold outL; rw [if_neg hn, hr]; rfl
    have e2 : outS l xs = [] := by unfold outS; rw [if_neg hn, hr]; rfl
    have e3 : outE l xs = 2 := by unfold outE; rw [if_neg hn, hr]; rfl
    have e4 : runErr l xs = 2 := by unfold runErr; rw [if_neg (by omega), hr]; rfl
    unfold OutPost
    rw [e1, e2, e3, e4]
    exact ⟨none, 0, none, 0, rfl, World.ownsRow_nil _ _ _ _, World.ownsRow_nil _ _ _ _, hB⟩
theorem Run_out (a a' : Option Addr) (c c' : Nat) (l : List Cel) (xs : List Acc) (w : World) (hR : Rd w a c l) (hX : RdX w a' xs) (hm : xs.length ≤ 65536) : Calls Try.prog 15 #[.slice a l.length c, .slice a' xs.length c'] w (OutPost w l xs) := by
  by_cases h : l.length ≤ 1024
  · exact (Run_go a a' c c' l xs w hR hX h hm).mono fun e w' h2 => out_of_post h2 h hm
  · exact (Run_many a a' _ _ c c' w (by omega)).mono fun e w' h2 => out_many (by omega) h2.1 h2.2
theorem rRun_out (a a' : Option Addr) (c c' : Nat) (l : List Cel) (xs : List Acc) (w : World) (hR : Rd w a c l) (hX : RdX w a' xs) (hm : xs.length ≤ 65536) : Calls Try.prog 17 #[.slice a l.length c, .slice a' xs.length c'] w (OutPost w l xs) := by
  by_cases h : l.length ≤ 1024
  · exact (rRun_go a a' c c' _ _ l xs w rfl rfl hR hX h hm).mono fun e w' h2 => out_of_post h2 h hm
  · exact (rRun_many a a' _ _ c c' w (.inl (by omega))).mono fun e w' h2 => out_many (by omega) h2.1 (h2.2 ▸ Below.refl _ _)
theorem own_rd {W : World} {B n c : Nat} {a : Option Addr} {l : List Cel} (h : Own W B (.slice a n c) l) : Rd W a c l ∧ n = l.length := by
  obtain ⟨a', c', e, h1, _⟩ := own_form h
  cases e
  exact ⟨h1, rfl⟩
theorem own_at {W : World} {B n c k : Nat} {a : Option Addr} {l : List Cel} (h : Own W B (.slice a n c) l) (hk : k < l.length) : ∃ g, a = some ⟨g, 0, none⟩ := by
  obtain ⟨a', c', e, h1, h2⟩ := own_form h
  cases e
  rcases h2 with rfl | ⟨g, rfl, _⟩
  · have := (h1.nil rfl).1
    rw [this] at hk
    simp at hk
  · exact ⟨g, rfl⟩
theorem rdxnews {W : World} {a : Option Addr} {xs : List Acc} (h : RdX W a xs) : ∀ A, a = some A → ∀ j u, (accsV xs)[j]? = some u → W.cell? (A.add j) = some u := by
  intro A hA j u hu
  rcases h with rfl | ⟨b, off, e, _, hc⟩
  · simp [accsV] at hu
  · rw [e] at hA; cases hA
    have hj : j < xs.length * 10 := by
      have := (List.getElem?_eq_some_iff.1 hu).1
      rwa [accsV_len] at this
    obtain ⟨k, r, hk, hr⟩ : ∃ k r, j = k * 10 + r ∧ r < 10 := ⟨j / 10, j % 10, by omega, Nat.mod_lt _ (by decide)⟩
    obtain ⟨x, hx⟩ : ∃ x, xs[k]? = some x := ⟨_, List.getElem?_eq_getElem (by omega)⟩
    obtain ⟨h0, h1, h2, h3, h4, h5, h6, h7, h8, h9⟩ := accsV_at xs k x hx
    obtain ⟨g0, g1, g2, g3, g4, g5, g6, g7, g8, g9⟩ := hc k x hx
    have hadd : (⟨b, off, none⟩ : Addr).add j = ⟨b, off + j, none⟩ := by
      unfold Addr.add
      by_cases h0 : j = 0
      · subst h0; simp
      · simp [h0]
    rw [hadd, hk]
    rw [hk] at hu
    rw [← Nat.add_assoc]
    match r, hr with
    | 0, _ => exact g0.trans (h0.symm.trans hu)
    | 1, _ => exact g1.trans (h1.symm.trans hu)
    | 2, _ => exact g2.trans (h2.symm.trans hu)
    | 3, _ => exact g3.trans (h3.symm.trans hu)
    | 4, _ => exact g4.trans (h4.symm.trans hu)
    | 5, _ => exact g5.trans (h5.symm.trans hu)
    | 6, _ => exact g6.trans (h6.symm.trans hu)
    | 7, _ => exact g7.trans (h7.symm.trans hu)
    | 8, _ => exact g8.trans (h8.symm.trans hu)
    | 9, _ => exact g9.trans (h9.symm.trans hu)

end Go.Proofs.Ytmfkipefnacjdaa
