/-
  Laws of roots, walked: RootsParts, RootsLevels.
-/
import Derived.Test.YtbnnobkmbkgmpaaDoorTd
namespace Go.Proofs.YtbnnobkmbkgmpaaDoor.L
open Go
set_option linter.unusedSectionVars false
variable [Globs] [Has_sha_table] [Has_sha_begin]
theorem splitZ_nat (n : Nat) : splitZ (n : Int) = ((split n : Nat) : Int) := by unfold splitZ; rw [Int.toNat_natCast]
theorem and_pow {k i : Nat} (h : k = 2 ^ i) (hi : i < 7) : IntKind.i64.wrap ((BitVec.ofInt IntKind.i64.bits (k : Int) &&& BitVec.ofInt IntKind.i64.bits ((k : Int) - 1)).toNat : Int) = 0 := by
  have : ∀ j : Fin 7, IntKind.i64.wrap ((BitVec.ofInt IntKind.i64.bits ((2 ^ j.1 : Nat) : Int) &&& BitVec.ofInt IntKind.i64.bits (((2 ^ j.1 : Nat) : Int) - 1)).toNat : Int) = 0 := by decide
  subst h
  exact this ⟨i, hi⟩
theorem splitN_fn (n : Nat) (h : n ≤ 9223372036854775807) : Fn Tryd.prog 20 [is (.int .i64 (n : Int))] (is (.int .i64 ((split n : Nat) : Int))) :=
  (split_fn (n : Int) (by omega) (by omega)).to (by rw [splitZ_nat])
set_option linter.unusedVariables false
set_option linter.unusedSimpArgs false
attribute [local irreducible] J Lq E OpP PRun is any agg tup ptr sl
attribute [local irreducible] up2 mroot nodeH leafH emptyH shaH ownAt row someL leafOf splitZ split
end Go.Proofs.YtbnnobkmbkgmpaaDoor.L
