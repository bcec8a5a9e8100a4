/- A slice's bytes are within reach: for frames. -/
import Derived.Test.YtmfkipefnacjdaaFrame
import Derived.SizedLaws
namespace Go.Proofs.Ytmfkipefnacjdaa.Fra
open Go.RowKit

theorem slc_bytes {H : Type} {enc : TypeId × Value → H} {P : Program} {w : World} {t e : TypeId} {a : Option Addr} {len cap b j : Nat} {d : DataW H} {p : List MemPlace} {spare : Nat → Bool} {held : Bool} {ts : List TypeId} {ds : List (DataW H)} (ht : P.underlying t = some (.slice e)) (hb : P.bytesOf e = b)
    (h : DataW.Trod enc P w 0 spare held t (.slice a len cap) d p) (hsz : (DataW.weightsEach P ts ds).all (· ≤ reachBytes) = true) (hj : ts[j]? = some t) (hd : ds[j]? = some d) : len * b ≤ 140737488351232 := by
  subst hb
  obtain ⟨fuel, hf⟩ := h
  rcases Go.Deep.open_slice ht hf with ⟨hcs, _⟩ | ⟨x, l, c, m, n, D, Pl, hcs, _, _, _, _, hx, _⟩
  · simp [Value.cells] at hcs
    obtain ⟨rfl, rfl, rfl⟩ := hcs
    simp
  · simp [Value.cells] at hcs
    obtain ⟨rfl, rfl, rfl⟩ := hcs
    simp only [Prod.mk.injEq] at hx
    obtain ⟨rfl, rfl⟩ := hx
    have h2 := sized_slice hsz hj hd ht
    simp only [List.length_map, List.length_range] at h2
    exact Nat.le_trans (Nat.mul_le_mul_right _ (Nat.le_add_right _ _)) h2

end Go.Proofs.Ytmfkipefnacjdaa.Fra
