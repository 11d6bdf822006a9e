/-
  The sizes of an edge while its last trees are joined (plain), for the document's Append.
-/
import Derived.Test.YtljdjagackdplaaDoorUv
namespace Go.Proofs.YtljdjagackdplaaDoor.L
open Go
set_option linter.unusedSectionVars false
variable [Globs] [Has_sha_table] [Has_sha_begin]
/-- Two trees of one size at the end. -/
theorem msz_odd {m : Nat} (h : m % 2 = 1) (i : Nat) : (asc m i).reverse ++ [2 ^ i] = (asc (m / 2) (i + 1)).reverse ++ [2 ^ i, 2 ^ i] := by
  rw [asc_odd h, List.reverse_cons, List.append_assoc]; rfl
theorem msz_next {m : Nat} (h : m % 2 = 1) (i : Nat) : asc (m + 1) i = asc (m / 2 + 1) (i + 1) := by
  rw [asc_even (by omega), show (m + 1) / 2 = m / 2 + 1 by omega]
/-- No tree ahead is of the last one's size: it is done. -/
theorem msz_end {m : Nat} (h : m % 2 = 0) (i : Nat) : (asc m i).reverse ++ [2 ^ i] = (asc (m + 1) i).reverse := by
  rw [asc_odd (n := m + 1) (by omega), show (m + 1) / 2 = m / 2 by omega, ← asc_even h, List.reverse_cons]
theorem msz_last {m i s : Nat} (h : m % 2 = 0) (hs : s ∈ (asc m i).reverse) : s ≠ 2 ^ i := by
  have h1 := List.mem_reverse.1 hs
  rw [asc_even h] at h1
  have h2 := asc_ge (m / 2) (m / 2) (i + 1) (Nat.le_refl _) s h1
  have h3 : 1 ≤ 2 ^ i := Nat.one_le_two_pow
  have h4 : 2 ^ (i + 1) = 2 * 2 ^ i := by rw [Nat.pow_succ]; omega
  omega
theorem msz_zero (n : Nat) : (asc n 0).reverse ++ [1] = szs n ++ [1] := by unfold szs; rfl
theorem msz_sum (m i : Nat) : ((asc m i).reverse ++ [2 ^ i]).sum = (m + 1) * 2 ^ i := by
  rw [List.sum_append, List.sum_reverse, asc_sum m m i (Nat.le_refl _), Nat.add_mul]
  simp
end Go.Proofs.YtljdjagackdplaaDoor.L
