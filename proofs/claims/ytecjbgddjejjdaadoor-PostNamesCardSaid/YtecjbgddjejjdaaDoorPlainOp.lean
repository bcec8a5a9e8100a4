/- Plain: operations: whose kind it is, whether it writes, whether it fits. -/
import Derived.Test.YtecjbgddjejjdaaDoorPlainPartB
namespace Go.Proofs.YtecjbgddjejjdaaDoor

def objZ (k : Int) : Int := if 1 ≤ k ∧ k ≤ 3 then 1 else if 4 ≤ k ∧ k ≤ 8 then 2 else if 9 ≤ k ∧ k ≤ 11 then 3 else if 12 ≤ k ∧ k ≤ 14 then 4 else 0
def writesZ (k : Int) : Bool := k == 1 || k == 2 || k == 4 || k == 5 || k == 9 || k == 10 || k == 12 || k == 13

def prefZ (bits a b : Int) : Bool := decide (b ≤ bits) && decide (a < (2 ^ b.toNat : Nat))
def pathZ (a b : Int) : Bool := !(a % 65536 == 0) && decide (b ≤ 65535) && (!(a / 65536 == 0) || b == 0)
/-- Whether an operation's numbers fit. -/
def fitsZ (bits k a b x : Int) : Bool :=
  if k = 1 then prefZ bits a b && decide (x ≤ 2147483647)
  else if k = 2 then prefZ bits a b && x == 0
  else if k = 3 then prefZ bits a bits && b == 0 && x == 0
  else if k = 4 ∨ k = 8 then decide (a ≤ 2147483647) && decide (b ≤ 2147483647) && x == 0
  else if k = 5 ∨ k = 6 ∨ k = 7 then decide (a ≤ 2147483647) && b == 0 && x == 0
  else if k = 9 then decide (a ≤ 65535) && decide (b ≤ 65535) && (x == 1 || x == 2)
  else if k = 10 then decide (a ≤ 65535) && decide (b ≤ 65535) && x == 0
  else if k = 11 then decide (1 ≤ a) && decide (a ≤ 65535) && decide (1 ≤ b) && decide (b ≤ 65535) && x == 0
  else if k = 12 then pathZ a b && decide (x ≤ 2147483647)
  else if k = 13 ∨ k = 14 then pathZ a b && x == 0
  else false
def opE (c : Cfg) (k a b x : Int) : Int := if c.May then (if objZ k = c.ob then (if fitsZ c.bits k a b x then 0 else 10) else 50) else 40

theorem opE_no {c : Cfg} (h : ¬ c.May) (k a b x : Int) : opE c k a b x = 40 := by simp [opE, h]
theorem opE_ob {c : Cfg} (h : c.May) {k : Int} (g : objZ k ≠ c.ob) (a b x : Int) : opE c k a b x = 50 := by simp [opE, h, g]
theorem opE_fit {c : Cfg} (h : c.May) {k a b x : Int} (g : objZ k = c.ob) : opE c k a b x = if fitsZ c.bits k a b x then 0 else 10 := by simp [opE, h, g]
theorem objZ_kinds {k : Int} (h : objZ k ≠ 0) : k = 1 ∨ k = 2 ∨ k = 3 ∨ k = 4 ∨ k = 5 ∨ k = 6 ∨ k = 7 ∨ k = 8 ∨ k = 9 ∨ k = 10 ∨ k = 11 ∨ k = 12 ∨ k = 13 ∨ k = 14 := by
  unfold objZ at h
  split at h
  · omega
  split at h
  · omega
  split at h
  · omega
  split at h
  · omega
  · exact absurd rfl h
theorem pow_lit {n : Nat} (h : n ≤ 6) : n = 0 ∧ 2 ^ n = 1 ∨ n = 1 ∧ 2 ^ n = 2 ∨ n = 2 ∧ 2 ^ n = 4 ∨ n = 3 ∧ 2 ^ n = 8 ∨ n = 4 ∧ 2 ^ n = 16 ∨ n = 5 ∧ 2 ^ n = 32 ∨ n = 6 ∧ 2 ^ n = 64 := by
  have : n = 0 ∨ n = 1 ∨ n = 2 ∨ n = 3 ∨ n = 4 ∨ n = 5 ∨ n = 6 := by omega
  rcases this with rfl | rfl | rfl | rfl | rfl | rfl | rfl <;> simp

end Go.Proofs.YtecjbgddjejjdaaDoor
